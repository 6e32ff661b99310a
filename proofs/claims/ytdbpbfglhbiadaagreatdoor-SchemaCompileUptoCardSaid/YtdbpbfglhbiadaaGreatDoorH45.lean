/- Sb4 Sb5 OpnS -/
import Derived.Test.YtdbpbfglhbiadaaGreatDoorH00
import Derived.Test.YtdbpbfglhbiadaaGreatDoorH43
import Derived.Test.YtdbpbfglhbiadaaGreatDoorH41
set_option maxHeartbeats 4000000
set_option maxRecDepth 100000
namespace Go.Proofs.YtdbpbfglhbiadaaGreatDoor
open Go Go.RowKit Go.ChangeShapes Go.WideShapes Go.ChangeAt Go.WideMaps Go.WideElems Go.ChangeMaps Go.Deep
def Uj {l lo lr:List (Nat×SS)} {α β:Type} (F:α->β) (xs:aV l->List α) (ix:aV l->Int) (cY:aV l->List β) (fin:aV l->List β->Int->aV lo) (inv:aV l->Prop) (m:Nat) (x:aV l):T (LE l lo lr):=
 .nd (inv x/\0<=ix x/\(ix x).toNat<=(xs x).length/\(cY x).length+((xs x).length-(ix x).toNat)<=m/\(xs x).length<=m) (.lf (.out (fin x ((((xs x).drop (ix x).toNat).map F).reverse++cY x) ((xs x).length:Nat))))
theorem OP {P:Program} {f:Func} (R:Rg P f.ntmps) (L:xm P R.fn f.ntmps R.pb (jg (bd f))) (n k d:Nat) (l lo lr:List (Nat×SS)) {α β:Type} (F:α->β) (xs:aV l->List α) (ix:aV l->Int) (cY:aV l->List β) (mk:aV l->List β->Int->aV l) (fin:aV l->List β->Int->aV lo) (inv:aV l->Prop) (B:aV l->T (LE l lo lr)) (m:Nat) (dQ:∀x a,inv x->0<=ix x->(ix x).toNat<(xs x).length->(xs x).length<=m->(xs x)[(ix x).toNat]?=some a->(cY x).length<=m->(B x).hit (.back (mk x (F a::cY x) (ix x+1)))) (AI:∀x,inv x->ix x=(xs x).length->(B x).hit (.out (fin x (cY x) (ix x)))) (hmk:∀x r i,xs (mk x r i)=xs x/\ix (mk x r i)=i/\cY (mk x r i)=r/\fin (mk x r i)=fin x/\(inv x->inv (mk x r i)):=by intro x r i;exact⟨rfl,rfl,rfl,rfl,λh=>h⟩) (hB:∀x,YU R L n k d (xz f k) l lo lr x=B x:=by intro x;kernel_rfl) (hk:(jg (bd f))[k]?=some (.loop (xz f k)):=by kernel_rfl) : cL R k d l lo lr (Uj F xs ix cY fin inv m):=by
 refine j1 R L n k d l lo lr B (λx=>(xs x).length-(ix x).toNat) (λx r _ ⟨⟨h0,h1,h2,h3,h4⟩,hr⟩=>?_) hB hk;obtain rfl:=hr;by_cases hi:(ix x).toNat<(xs x).length
 ·obtain⟨e1,e2,e3,e4,e5⟩:=hmk x (F (xs x)[(ix x).toNat]::cY x) (ix x+1);have e6:(ix x+1).toNat=(ix x).toNat+1:=by omega
  refine⟨_,dQ x _ h0 h1 hi h4 (aac hi) (by omega),?_⟩;show(xs (mk x _ _)).length-(ix (mk x _ _)).toNat<_/\_;refine⟨by rw[e1,e2,e6];omega,⟨e5 h0,by rw[e2];omega,by rw[e1,e2,e6];omega,by rw[e1,e2,e3,e6,aaJ];omega,by rw[e1];exact h4⟩,?_⟩;show LE.out _=LE.out _;rw[e1,e2,e3,e4,e6,acT hi,aco,ab8,abS];rfl
 ·have he:ix x=(xs x).length:=by omega
  refine⟨_,AI x h0 he,?_⟩;show LE.out _=LE.out _;rw[aaQ (by omega),he];rfl
def mB (n:Nat) (s:ByteArray):ByteArray:=s.extract 0 (min s.size n)
def DG (f:ai):ai:=⟨mB 30 f.key,(f.vals.take 12).map (mB 30),f.line⟩
def DK (b:ak):ak:=⟨mB 30 b.kind,mB 30 b.name,(b.fields.take 12).map DG,b.line⟩
def xH (s:aF):aF:=⟨mB 40 s.title,(s.blocks.take 12).map DK⟩
def jA (n:Int) (s:ByteArray):Int:=if n<s.size then n else s.size
theorem pX (n:Nat) (s:ByteArray):(0:Int)<=0/\0<=jA n s/\jA n s<=s.size:=by unfold jA;split<;>omega
theorem qJ (n:Nat) (s:ByteArray):s.extract 0 (jA n s).toNat=mB n s:=by
 unfold jA mB;split
 ·rw[Nat.min_eq_right (by omega),aae]
 ·rw[ac8 (by omega),aae]
abbrev SD:List (Nat×SS):=[(1,u3),(2,u3),(3,Tx),(4,sI)]
abbrev SC:List (Nat×SS):=[(1,u3),(2,u3),(3,Tx),(4,sI),(5,NM),(6,YD),(7,sI)]
abbrev SB:List (Nat×SS):=[(1,u3),(2,u3),(3,Tx),(4,sI),(5,NM),(6,YD),(7,sI),(8,sFz),(9,adX),(10,sI)]
noncomputable def Ccu:eP Tryz.prog:=bA (λt=>List.lookup t [(9,.str),(3,tI),(33,.st 2),(93,.st 0),(91,.st 1)]) [] []
noncomputable abbrev cuF:=Tryz.f22
abbrev U3:=Ej×Ej×tY×Int×WJ×BK×Int×FD×FD×Int×Unit
def SE (x:U3):FD:=x.2.2.2.2.2.2.2.1
def c3g (x:U3):FD:=x.2.2.2.2.2.2.2.2.1
def zf (x:U3):Int:=x.2.2.2.2.2.2.2.2.2.1
def XL (x:U3):List ByteArray:=(SE x).2.1.take 12
def XM (x:U3):List ByteArray:=(c3g x).2.1
def c3m (x:U3) (r:List ByteArray) (j:Int):U3:=(x.1,x.2.1,x.2.2.1,x.2.2.2.1,x.2.2.2.2.1,x.2.2.2.2.2.1,x.2.2.2.2.2.2.1,SE x,((c3g x).1,r,(c3g x).2.2),j,())
def c3b (x:U3):LE SB SB []:=.back x
def c3o (x:U3):LE SB SB []:=.out x
def abo (x:U3) (s:ByteArray):T (LE SB SB []):=.br (decide (zf x<((SE x).2.1.length:Int))) (.br (decide (zf x<12)) (.nd (0<=zf x/\zf x<((SE x).2.1.length:Int)) (.nd (0<=zf x/\zf x<((SE x).2.1.length:Int)) (.nd ((0:Int)<=0/\0<=jA 30 s/\jA 30 s<=s.size) (.nd (((XM x).length+1)*17<=140737488355328) (.nd (cw (zf x+1))
 (.lf (c3b (c3m x (s.extract 0 (jA 30 s).toNat::XM x) (zf x+1))))))))) (.lf (c3o x))) (.lf (c3o x))
theorem zz {α:Type} {l:List α} {j:Int} {k:Nat} (d:α) {a:α} (h0:0<=j) (h1:j.toNat<(l.take k).length) (h:(l.take k)[j.toNat]?=some a):j<(l.length:Int)/\j<(k:Int)/\l.getD j.toNat d=a:=by
 rw[abD] at h1;rw[List.getElem?_take_of_lt (by omega)] at h;exact⟨by omega,by omega,by rw[aal,h];rfl⟩
theorem Gt:cL (mi Ccu cuF) 2 4 SB SB [] (Uj (mB 30) XL zf XM c3m (λ_=>True) 1000):=
 OP _ (nL _ _) 99 2 4 SB SB [] (mB 30) XL zf XM c3m c3m (λ_=>True) (λx=>abo x ((SE x).2.1.getD (zf x).toNat ⟨#[]⟩)) 1000
  (λx a _ h0 h1 h2 h3 h4=>by
   obtain⟨q1,q2,q3⟩:=zz (l:=(SE x).2.1) (k:=12) (⟨#[]⟩:ByteArray) h0 h1 h3;show(abo x ((SE x).2.1.getD (zf x).toNat ⟨#[]⟩)).hit (c3b (c3m x (mB 30 a::XM x) (zf x+1)));rw[q3];refine aC (decide_eq_true q1) (aC (decide_eq_true q2) ⟨⟨h0,q1⟩,⟨h0,q1⟩,pX 30 a,by omega,⟨by omega,by omega⟩,?_⟩);rw[show(30:Int)=((30:Nat):Int) from rfl,qJ];rfl)
  (λx _ h=>by
   have h:zf x=(((SE x).2.1.take 12).length:Nat):=h;rw[abD] at h;show(abo x _).hit (c3o (c3m x (XM x) (zf x)));by_cases hl:zf x<((SE x).2.1.length:Int)
   ·exact aC (decide_eq_true hl) (aK (decide_eq_false (by omega)) rfl)
   ·exact aK (decide_eq_false hl) rfl)
abbrev U2:=Ej×Ej×tY×Int×WJ×BK×Int×Unit
def XO (x:U2):List ai:=x.2.2.2.2.1.2.2.1
def c2g (x:U2):BK:=x.2.2.2.2.2.1
def BB (x:U2):Int:=x.2.2.2.2.2.2.1
def XN (x:U2):List ai:=(XO x).take 12
def XP (x:U2):List ai:=(c2g x).2.2.1
def c2m (x:U2) (r:List ai) (j:Int):U2:=(x.1,x.2.1,x.2.2.1,x.2.2.2.1,x.2.2.2.2.1,((c2g x).1,(c2g x).2.1,r,(c2g x).2.2.2),j,())
def c2b (x:U2):LE SC SC []:=.back x
def c2o (x:U2):LE SC SC []:=.out x
def c2y (x:U2) (f:ai):U3:=(x.1,x.2.1,x.2.2.1,x.2.2.2.1,x.2.2.2.2.1,x.2.2.2.2.2.1,x.2.2.2.2.2.2.1,(f.key,f.vals,f.line,()),(f.key.extract 0 (jA 30 f.key).toNat,[],f.line,()),(0:Int),())
def c3P (y:U3):Prop:=True/\0<=zf y/\(zf y).toNat<=(XL y).length/\(XM y).length+((XL y).length-(zf y).toNat)<=1000/\(XL y).length<=1000
def c3R (y:U3):List ByteArray:=((((XL y).drop (zf y).toNat).map (mB 30)).reverse++XM y).reverse
def abp (x:U2) (f:ai):T (LE SC SC []):=.br (decide (BB x<((XO x).length:Int))) (.br (decide (BB x<12)) (.nd (0<=BB x/\BB x<((XO x).length:Int)) (.nd ((0:Int)<=0/\0<=jA 30 f.key/\jA 30 f.key<=f.key.size) (.nd (c3P (c2y x f)) (.nd (((XP x).length+1)*49<=140737488355328) (.nd (cw (BB x+1))
 (.lf (c2b (c2m x (⟨f.key.extract 0 (jA 30 f.key).toNat,c3R (c2y x f),f.line⟩::XP x) (BB x+1))))))))) (.lf (c2o x))) (.lf (c2o x))
theorem abI (x:U2) (f:ai):c3P (c2y x f)/\c3R (c2y x f)=(f.vals.take 12).map (mB 30):=by
 have hl:(XL (c2y x f)).length<=12:=by show(f.vals.take 12).length<=12;rw[abD];omega
 refine⟨⟨trivial,acR _,abz _,?_,by omega⟩,?_⟩
 ·show 0+((XL (c2y x f)).length-0)<=1000;omega
 ·show((((f.vals.take 12).drop 0).map (mB 30)).reverse++[]).reverse=_;simp
theorem QU:cL (mi Ccu cuF) 1 2 SC SC [] (Uj DG XN BB XP c2m (λ_=>True) 1000):=
 OP _ ((nL _ _).add 2 _ Gt) 99 1 2 SC SC [] DG XN BB XP c2m c2m (λ_=>True) (λx=>abp x ((XO x).getD (BB x).toNat ⟨⟨#[]⟩,[],0⟩)) 1000
  (λx a _ h0 h1 h2 h3 h4=>by
   obtain⟨q1,q2,q3⟩:=zz (l:=XO x) (k:=12) (⟨⟨#[]⟩,[],0⟩:ai) h0 h1 h3;show(abp x ((XO x).getD (BB x).toNat ⟨⟨#[]⟩,[],0⟩)).hit (c2b (c2m x (DG a::XP x) (BB x+1)));rw[q3];obtain⟨p1,p2⟩:=abI x a;refine aC (decide_eq_true q1) (aC (decide_eq_true q2) ⟨⟨h0,q1⟩,pX 30 a.key,p1,by omega,⟨by omega,by omega⟩,?_⟩);rw[p2,show(30:Int)=((30:Nat):Int) from rfl,qJ];rfl)
  (λx _ h=>by
   have h:BB x=(((XO x).take 12).length:Nat):=h;rw[abD] at h;show(abp x _).hit (c2o (c2m x (XP x) (BB x)));by_cases hl:BB x<((XO x).length:Int)
   ·exact aC (decide_eq_true hl) (aK (decide_eq_false (by omega)) rfl)
   ·exact aK (decide_eq_false hl) rfl)
abbrev U1:=Ej×Ej×tY×Int×Unit
def XS (x:U1):List ak:=x.1.2.1
def c1g (x:U1):tY:=x.2.2.1
def BC (x:U1):Int:=x.2.2.2.1
def XQ (x:U1):List ak:=(XS x).take 12
def XT (x:U1):List ak:=(c1g x).2.1
def c1m (x:U1) (r:List ak) (j:Int):U1:=(x.1,x.2.1,((c1g x).1,r,()),j,())
def c1b (x:U1):LE SD SD []:=.back x
def c1o (x:U1):LE SD SD []:=.out x
def c1y (x:U1) (b:ak):U2:=(x.1,x.2.1,x.2.2.1,x.2.2.2.1,(b.kind,b.name,b.fields,b.line,()),(b.kind.extract 0 (jA 30 b.kind).toNat,b.name.extract 0 (jA 30 b.name).toNat,[],b.line,()),(0:Int),())
def c2P (y:U2):Prop:=True/\0<=BB y/\(BB y).toNat<=(XN y).length/\(XP y).length+((XN y).length-(BB y).toNat)<=1000/\(XN y).length<=1000
def c2R (y:U2):List ai:=((((XN y).drop (BB y).toNat).map DG).reverse++XP y).reverse
def abq (x:U1) (b:ak):T (LE SD SD []):=.br (decide (BC x<((XS x).length:Int))) (.br (decide (BC x<12)) (.nd (0<=BC x/\BC x<((XS x).length:Int)) (.nd ((0:Int)<=0/\0<=jA 30 b.kind/\jA 30 b.kind<=b.kind.size) (.nd ((0:Int)<=0/\0<=jA 30 b.name/\jA 30 b.name<=b.name.size) (.nd (c2P (c1y x b)) (.nd (((XT x).length+1)*65<=140737488355328) (.nd (cw (BC x+1))
 (.lf (c1b (c1m x (⟨b.kind.extract 0 (jA 30 b.kind).toNat,b.name.extract 0 (jA 30 b.name).toNat,c2R (c1y x b),b.line⟩::XT x) (BC x+1)))))))))) (.lf (c1o x))) (.lf (c1o x))
theorem abJ (x:U1) (b:ak):c2P (c1y x b)/\c2R (c1y x b)=(b.fields.take 12).map DG:=by
 have hl:(XN (c1y x b)).length<=12:=by show(b.fields.take 12).length<=12;rw[abD];omega
 refine⟨⟨trivial,acR _,abz _,?_,by omega⟩,?_⟩
 ·show 0+((XN (c1y x b)).length-0)<=1000;omega
 ·show((((b.fields.take 12).drop 0).map DG).reverse++[]).reverse=_;simp
theorem abn:cL (mi Ccu cuF) 0 0 SD SD [] (Uj DK XQ BC XT c1m (λ_=>True) 1000):=
 OP _ (((nL _ _).add 2 _ Gt).add 1 _ QU) 99 0 0 SD SD [] DK XQ BC XT c1m c1m (λ_=>True) (λx=>abq x ((XS x).getD (BC x).toNat ⟨⟨#[]⟩,⟨#[]⟩,[],0⟩)) 1000
  (λx a _ h0 h1 h2 h3 h4=>by
   obtain⟨q1,q2,q3⟩:=zz (l:=XS x) (k:=12) (⟨⟨#[]⟩,⟨#[]⟩,[],0⟩:ak) h0 h1 h3;show(abq x ((XS x).getD (BC x).toNat ⟨⟨#[]⟩,⟨#[]⟩,[],0⟩)).hit (c1b (c1m x (DK a::XT x) (BC x+1)));rw[q3];obtain⟨p1,p2⟩:=abJ x a;refine aC (decide_eq_true q1) (aC (decide_eq_true q2) ⟨⟨h0,q1⟩,pX 30 a.kind,pX 30 a.name,p1,by omega,⟨by omega,by omega⟩,?_⟩);rw[p2,show(30:Int)=((30:Nat):Int) from rfl,qJ,qJ];rfl)
  (λx _ h=>by
   have h:BC x=(((XS x).take 12).length:Nat):=h;rw[abD] at h;show(abq x _).hit (c1o (c1m x (XT x) (BC x)));by_cases hl:BC x<((XS x).length:Int)
   ·exact aC (decide_eq_true hl) (aK (decide_eq_false (by omega)) rfl)
   ·exact aK (decide_eq_false hl) rfl)
def c0y (s:aF):U1:=((s.title,s.blocks,()),(⟨#[]⟩,[],()),(s.title.extract 0 (jA 40 s.title).toNat,[],()),(0:Int),())
def c1P (y:U1):Prop:=True/\0<=BC y/\(BC y).toNat<=(XQ y).length/\(XT y).length+((XQ y).length-(BC y).toNat)<=1000/\(XQ y).length<=1000
def c1R (y:U1):List ak:=(((XQ y).drop (BC y).toNat).map DK).reverse++XT y
def aSf (t:ByteArray) (l:List ak) (q:Bool):XV:=.agg [.sym (.string t),.list (.st 1) l q]
theorem agz:ao Tryz.prog 22 true (az [(0,.st 2)] λ((s:aF),_)=>.lf (aSf (xH s).title (xH s).blocks (!(xH s).blocks.isEmpty))):=
 aN (C:=Ccu) ((((nL _ _).add 2 _ Gt).add 1 _ QU).add 0 _ abn) true 99 [(0,.st 2)] (λ((s:aF),_)=>.nd ((0:Int)<=0/\0<=jA 40 s.title/\jA 40 s.title<=s.title.size) (.nd (c1P (c0y s)) (.lf (aSf (s.title.extract 0 (jA 40 s.title).toNat) (c1R (c0y s)).reverse (!(c1R (c0y s)).isEmpty))))) (λ⟨(s:aF),_⟩ r _ h=>by
  obtain rfl:aSf (xH s).title (xH s).blocks (!(xH s).blocks.isEmpty)=r:=h;have hl:(XQ (c0y s)).length<=12:=by show(s.blocks.take 12).length<=12;rw[abD];omega
  have hr:c1R (c0y s)=((s.blocks.take 12).map DK).reverse:=by
   show(((s.blocks.take 12).drop 0).map DK).reverse++[]=_;simp
  refine⟨⟨pX 40 s.title,⟨trivial,acR _,abz _,?_,by omega⟩,?_⟩,.inl rfl⟩
  ·show 0+((XQ (c0y s)).length-0)<=1000;omega
  ·show aSf _ _ _=_;rw[hr,aat,ady,show(40:Int)=((40:Nat):Int) from rfl,qJ];rfl) Tryz.func22
theorem VT (n:Nat) (s:ByteArray):(mB n s).size<=n:=by
 unfold mB;rw[exT];show(s.data.toList.take _).length<=n;rw[abD];omega
theorem uo {α β:Type} (f:α->β) (l:List α):((l.take 12).map f).length<=12:=by rw[acf,abD];omega
theorem VQ (s:aF):np (xH s):=by
 have sn:∀{n s},n<=40->cU (mB n s):=λ{n s} h=>aax (VT n s) (aax h (by decide));refine⟨sn (by decide),aax (uo DK _) (by decide),λx hx=>?_⟩;obtain⟨b,_,rfl⟩:=acu.1 hx;refine⟨sn (by decide),sn (by decide),aax (uo DG _) (by decide),λf hf=>?_⟩;obtain⟨g,_,rfl⟩:=acu.1 hf;refine⟨⟨sn (by decide),λv hv=>?_,aax (uo (mB 30) _) (by decide)⟩,aax (uo (mB 30) _) (by decide)⟩;obtain⟨w,_,rfl⟩:=acu.1 hv;exact sn (by decide)
noncomputable def Csc:eP Tryz.prog:=bA xM [⟨_,_,_,od⟩,⟨_,_,_,agz⟩,⟨_,_,_,sp⟩,⟨_,_,_,tD⟩,⟨_,_,_,Gh⟩] []
theorem Q9 (s:aF):((bj s).2.no=0->(bj s).2=⟨0,0⟩)/\((bj s).2.no≠0->(bj s).1=aa.zero):=by
 unfold bj;split
 ·exact⟨λh=>(by cases h),λ_=>rfl⟩
 split
 ·rename_i h;exact⟨λh2=>absurd h2 h,λ_=>rfl⟩
 split
 ·exact⟨λh=>(by cases h),λ_=>rfl⟩
 split
 ·rename_i e he;have hz:=rP he;exact⟨λh=>absurd h hz,λ_=>rfl⟩
 ·exact⟨λ_=>rfl,λh=>absurd rfl h⟩
def VA (p q:dG):Bool:=!(false==(p.no==q.no&&(p.line==q.line&&true)))
def Yz (c:aF):T XV:=.nd (np c) (.nd (zI c) (.br (decide ((eJ c).2.no=0)) (.br true (.br (VA (bj c).2 ⟨0,0⟩) (.lf (aB (EJ (bj c).1 (eJ c).1))) fF) fF) (.br true (.br (VA (bj c).2 (eJ c).2) (.lf (aB (EJ (bj c).1 .zero))) fF) fF)))
theorem lawSCo_ok:ao Tryz.prog 6 false (az [(0,.st 2)] λ((_:aF),_)=>tT):=
 aN (C:=Csc) (nL _ _) false 99 [(0,.st 2)] (λ((s:aF),_)=>Yz (xH s))
  (λ⟨(s:aF),_⟩ r _ h=>by
   obtain rfl:aB true=r:=h;refine⟨?_,.inr rfl⟩;show(Yz (xH s)).hit _;have hc:=VQ s;obtain⟨h1,h2⟩:=Q9 (xH s);have hf:∀p:dG,VA p p=true:=λp=>by unfold VA;simp
   unfold Yz;rw[lM];refine⟨hc,Hp hc,λq=>aC rfl (aC ?_ ?_),λq=>aC rfl (aC (hf _) ?_)⟩
   ·rw[h1 (of_decide_eq_true q)];exact hf _
   ·show aB _=aB true;rw[wC]
   ·show aB _=aB true;rw[h2 (of_decide_eq_false q),wC]) Tryz.func6
theorem lawSCo_any {W:World} {B:Nat} (hT:Ei B W) (hB:B<=W.heap.size) {v:Value} {s:aF} (h:SV W (λb=>b<W.heap.size) v s):Calls Tryz.prog 6 #[v] W (kB W (.bool true)):=
 lawSCo_ok.retVL (xs:=[.agg (jS (.st 2) s)]) (vs:=[v]) ⟨B,hB,hT⟩ (λ_ h=>h) (.cons (h.xr 2) .nil) (rfl:tT.hit (aB true))
instance:Fits ai:=⟨λx=>Fits.fits x.key/\Fits.fits x.vals/\Fits.fits x.line⟩
instance:aM ai:=⟨λx=>aM.bulk x.key+aM.bulk x.vals+aM.bulk x.line+1,λ_=>acN _ _⟩
theorem Tryz.opbField:dX Tryz.prog 93 ai:=by
 intro H enc w base spare held fuel cs x h;obtain⟨xs,n,_,rfl,hl,kC,hf⟩:=DataW.trod_struct Tryz.underlying93 h;have hC:Tryz.prog.cellsOf 93=3:=by kernel_rfl
 have Lt:xs.length=3:=kC;have Gd:cs.length=3:=hl.trans hC;clear kC hl hC;obtain⟨c0,cs,rfl,Lq⟩:=ax Gd;obtain⟨c1,cs,rfl,Lp⟩:=ax Lq;obtain⟨c2,cs,rfl,Qi⟩:=ax Lp;obtain rfl:=aaY Qi;obtain⟨y0,xs,rfl,Ls⟩:=ax Lt;obtain⟨y1,xs,rfl,Lr⟩:=ax Ls;obtain⟨y2,xs,rfl,Qj⟩:=ax Lr;obtain rfl:=aaY Qj;have Lx:=bp hf 0 rfl 0 1 rfl (by kernel_rfl) [c0] rfl y0 rfl;obtain⟨x0,e0,f0,b0⟩:=Tryz.opbStr _ _ _ _ _ _ _ _ _ Lx;obtain rfl:c0=.string x0:=by injection e0
 have Lw:=bp hf 1 rfl 1 1 rfl (by kernel_rfl) [c1] rfl y1 rfl;obtain⟨x1,⟨A1,n1,k1,e1,r1⟩,f1,b1⟩:=Tryz.opbStrs _ _ _ _ _ _ _ _ _ Lw;obtain rfl:c1=.slice A1 n1 k1:=by injection e1
 have Ql:=bp hf 2 rfl 2 1 rfl (by kernel_rfl) [c2] rfl y2 rfl;obtain⟨x2,e2,f2,b2⟩:=Tryz.opbInt _ _ _ _ _ _ _ _ _ Ql;obtain rfl:c2=.int .i64 x2:=by injection e2
 refine⟨⟨x0,x1,x2⟩,⟨A1,n1,k1,rfl,r1⟩,⟨f0,f1,f2⟩,?_⟩;show aM.bulk x0+aM.bulk x1+aM.bulk x2+1<=Rows.uptoBulkAll [y0.1,y1.1,y2.1]+1;simp only[Rows.uptoBulkAll];omega
theorem Tryz.opbFields:dX Tryz.prog 89 (List ai):=fk Tryz.underlying89 (by kernel_rfl) (by show 0<3;omega) Tryz.opbField
instance:Fits ak:=⟨λx=>Fits.fits x.kind/\Fits.fits x.name/\Fits.fits x.fields/\Fits.fits x.line⟩
instance:aM ak:=⟨λx=>aM.bulk x.kind+aM.bulk x.name+aM.bulk x.fields+aM.bulk x.line+1,λ_=>acN _ _⟩
theorem Tryz.opbBlock:dX Tryz.prog 91 ak:=by
 intro H enc w base spare held fuel cs x h;obtain⟨xs,n,_,rfl,hl,kC,hf⟩:=DataW.trod_struct Tryz.underlying91 h;have hC:Tryz.prog.cellsOf 91=4:=by kernel_rfl
 have Lt:xs.length=4:=kC;have Gd:cs.length=4:=hl.trans hC;clear kC hl hC;obtain⟨c0,cs,rfl,Lq⟩:=ax Gd;obtain⟨c1,cs,rfl,Lp⟩:=ax Lq;obtain⟨c2,cs,rfl,Qi⟩:=ax Lp;obtain⟨c3,cs,rfl,hY4⟩:=ax Qi;obtain rfl:=aaY hY4;obtain⟨y0,xs,rfl,Ls⟩:=ax Lt;obtain⟨y1,xs,rfl,Lr⟩:=ax Ls;obtain⟨y2,xs,rfl,Qj⟩:=ax Lr;obtain⟨y3,xs,rfl,hX4⟩:=ax Qj;obtain rfl:=aaY hX4;have Lx:=bp hf 0 rfl 0 1 rfl (by kernel_rfl) [c0] rfl y0 rfl;obtain⟨x0,e0,f0,b0⟩:=Tryz.opbStr _ _ _ _ _ _ _ _ _ Lx;obtain rfl:c0=.string x0:=by injection e0
 have Lw:=bp hf 1 rfl 1 1 rfl (by kernel_rfl) [c1] rfl y1 rfl;obtain⟨x1,e1,f1,b1⟩:=Tryz.opbStr _ _ _ _ _ _ _ _ _ Lw;obtain rfl:c1=.string x1:=by injection e1
 have Ql:=bp hf 2 rfl 2 1 rfl (by kernel_rfl) [c2] rfl y2 rfl;obtain⟨x2,⟨A2,n2,k2,e2,r2⟩,f2,b2⟩:=Tryz.opbFields _ _ _ _ _ _ _ _ _ Ql;obtain rfl:c2=.slice A2 n2 k2:=by injection e2
 have h3a:=bp hf 3 rfl 3 1 rfl (by kernel_rfl) [c3] rfl y3 rfl;obtain⟨x3,e3,f3,b3⟩:=Tryz.opbInt _ _ _ _ _ _ _ _ _ h3a;obtain rfl:c3=.int .i64 x3:=by injection e3
 refine⟨⟨x0,x1,x2,x3⟩,⟨A2,n2,k2,rfl,r2⟩,⟨f0,f1,f2,f3⟩,?_⟩;show aM.bulk x0+aM.bulk x1+aM.bulk x2+aM.bulk x3+1<=Rows.uptoBulkAll [y0.1,y1.1,y2.1,y3.1]+1;simp only[Rows.uptoBulkAll];omega
theorem Tryz.opbBlocks:dX Tryz.prog 31 (List ak):=fk Tryz.underlying31 (by kernel_rfl) (by show 0<4;omega) Tryz.opbBlock
instance:Fits aF:=⟨λx=>Fits.fits x.title/\Fits.fits x.blocks⟩
instance:aM aF:=⟨λx=>aM.bulk x.title+aM.bulk x.blocks+1,λ_=>acN _ _⟩
theorem Tryz.opbSrc:dX Tryz.prog 33 aF:=by
 intro H enc w base spare held fuel cs x h;obtain⟨xs,n,_,rfl,hl,kC,hf⟩:=DataW.trod_struct Tryz.underlying33 h;have hC:Tryz.prog.cellsOf 33=2:=by kernel_rfl
 have Lt:xs.length=2:=kC;have Gd:cs.length=2:=hl.trans hC;clear kC hl hC;obtain⟨c0,cs,rfl,Lq⟩:=ax Gd;obtain⟨c1,cs,rfl,Lp⟩:=ax Lq;obtain rfl:=aaY Lp;obtain⟨y0,xs,rfl,Ls⟩:=ax Lt;obtain⟨y1,xs,rfl,Lr⟩:=ax Ls;obtain rfl:=aaY Lr;have Lx:=bp hf 0 rfl 0 1 rfl (by kernel_rfl) [c0] rfl y0 rfl;obtain⟨x0,e0,f0,b0⟩:=Tryz.opbStr _ _ _ _ _ _ _ _ _ Lx;obtain rfl:c0=.string x0:=by injection e0
 have Lw:=bp hf 1 rfl 1 1 rfl (by kernel_rfl) [c1] rfl y1 rfl;obtain⟨x1,⟨A1,n1,k1,e1,r1⟩,f1,b1⟩:=Tryz.opbBlocks _ _ _ _ _ _ _ _ _ Lw;obtain rfl:c1=.slice A1 n1 k1:=by injection e1
 refine⟨⟨x0,x1⟩,⟨A1,n1,k1,rfl,r1⟩,⟨f0,f1⟩,?_⟩;show aM.bulk x0+aM.bulk x1+1<=Rows.uptoBulkAll [y0.1,y1.1]+1;simp only[Rows.uptoBulkAll];omega
end Go.Proofs.YtdbpbfglhbiadaaGreatDoor
