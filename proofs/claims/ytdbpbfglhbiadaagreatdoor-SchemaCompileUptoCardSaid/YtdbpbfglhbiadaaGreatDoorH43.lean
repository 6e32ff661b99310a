/- Sb3 -/
import Derived.Test.YtdbpbfglhbiadaaGreatDoorH00
import Derived.Test.YtdbpbfglhbiadaaGreatDoorH41
set_option maxHeartbeats 4000000
set_option maxRecDepth 100000
namespace Go.Proofs.YtdbpbfglhbiadaaGreatDoor
open Go Go.RowKit
abbrev Ej:=eB [.d .str,.d (.list (.st 1))]
abbrev WJ:=eB [.d .str,.d .str,.d (.list (.st 0)),.d tI]
abbrev R9:List (Nat×SS):=[(2,sB),(3,u3),(4,u3),(7,sI),(8,NM),(9,NM),(10,sI)]
abbrev Mq:List (Nat×SS):=[(2,sB),(3,u3),(4,u3),(7,sI)]
noncomputable abbrev q7F:=Tryz.f16
noncomputable def Cq7:eP Tryz.prog:=bA (λt=>List.lookup t [(9,.str),(3,tI),(33,.st 2),(93,.st 0),(91,.st 1)]) [⟨_,_,_,BN⟩] []
def pn (x:WJ):List ai:=x.2.2.1
def mh (x:Ej):List ak:=x.2.1
def WW {l:List (Nat×SS)}:LE l l []:=.ret (.one (.val (.bool false))) ()
def q7i (l:Bool) (a b:Ej) (i:Int) (x y:WJ) (k:Int) (f g:ai):T (LE R9 R9 []):=.br (!(f.key.toList==g.key.toList)) (.lf WW) (.br l (.br (!(f.line==g.line)) (.lf WW) (.br (!(decide (f.vals=g.vals))) (.lf WW) (.nd (cw (k+1)) (.lf (.back (l,a,b,i,x,y,k+1,())))))) (.br (!(decide (f.vals=g.vals))) (.lf WW) (.nd (cw (k+1)) (.lf (.back (l,a,b,i,x,y,k+1,()))))))
def q7B (l:Bool) (a b:Ej) (i:Int) (x y:WJ) (k:Int):T (LE R9 R9 []):=.br (decide (k<((pn x).length:Int))) (.nd (0<=k/\k<((pn x).length:Int)) (.nd (0<=k/\k<((pn y).length:Int)) (q7i l a b i x y k ((pn x).getD k.toNat ⟨⟨#[]⟩,[],0⟩) ((pn y).getD k.toNat ⟨⟨#[]⟩,[],0⟩)))) (.lf (.out (l,a,b,i,x,y,k,())))
def TR (l:Bool) (x y:WJ) (k:Int):Prop:=l=true/\y=x/\0<=k/\k<=((pn x).length:Int)/\(pn x).length<=1099511627776
theorem Oc:cL (mi Cq7 q7F) 1 2 R9 R9 [] λz=>.nd (TR z.1 z.2.2.2.2.1 z.2.2.2.2.2.1 z.2.2.2.2.2.2.1) (.lf (.out (z.1,z.2.1,z.2.2.1,z.2.2.2.1,z.2.2.2.2.1,z.2.2.2.2.2.1,(((pn z.2.2.2.2.1).length:Nat):Int),()))):=by
 refine j1 _ (nL _ _) 99 1 2 R9 R9 [] (λz=>q7B z.1 z.2.1 z.2.2.1 z.2.2.2.1 z.2.2.2.2.1 z.2.2.2.2.2.1 z.2.2.2.2.2.2.1) (λz=>(pn z.2.2.2.2.1).length-Int.toNat z.2.2.2.2.2.2.1) ?_;rintro⟨(l:Bool),(a:Ej),(b:Ej),(i:Int),(x:WJ),(y:WJ),(k:Int),_⟩ r _ ⟨h,hr⟩;obtain⟨rfl,rfl,h0,h1,h2⟩:TR l x y k:=h;obtain rfl:(LE.out (true,a,b,i,y,y,(((pn y).length:Nat):Int),()):LE R9 R9 [])=r:=hr;show∃q,(q7B true a b i y y k).hit q/\q.nx _ _ ((pn y).length-k.toNat) _;by_cases hk:k<((pn y).length:Int)
 ·refine⟨.back (true,a,b,i,y,y,k+1,()),aC (decide_eq_true hk) ⟨⟨h0,hk⟩,⟨h0,hk⟩,aK (by simp) (aC rfl (aK (by simp) (aK (by simp) ⟨⟨by omega,by omega⟩,rfl⟩)))⟩,?_,(⟨rfl,rfl,by omega,by omega,h2⟩:TR true y y (k+1)),rfl⟩;show(pn y).length-(k+1).toNat<_;omega
 ·obtain rfl:k=(pn y).length:=by omega
  exact⟨.out (true,a,b,i,y,y,(((pn y).length:Nat):Int),()),aK (decide_eq_false hk) rfl,rfl⟩
def adE (x:ak):WJ:=(x.kind,x.name,x.fields,x.line,())
def q7e (l:Bool) (a b:Ej) (i:Int) (f g:ak):T (LE Mq Mq []):=.br (!((f.fields.length:Int)==(g.fields.length:Int))) (.lf WW) (.nd (TR l (adE f) (adE g) 0) (.nd (cw (i+1)) (.lf (.back (l,a,b,i+1,())))))
def q7o (l:Bool) (a b:Ej) (i:Int) (f g:ak):T (LE Mq Mq []):=.br (!(f.kind.toList==g.kind.toList)) (.lf WW) (.br (!(f.name.toList==g.name.toList)) (.lf WW) (.br l (.br (!(f.line==g.line)) (.lf WW) (q7e l a b i f g)) (q7e l a b i f g)))
def q7A (l:Bool) (a b:Ej) (i:Int):T (LE Mq Mq []):=.br (decide (i<((mh a).length:Int))) (.nd (0<=i/\i<((mh a).length:Int)) (.nd (0<=i/\i<((mh b).length:Int)) (q7o l a b i ((mh a).getD i.toNat ⟨⟨#[]⟩,⟨#[]⟩,[],0⟩) ((mh b).getD i.toNat ⟨⟨#[]⟩,⟨#[]⟩,[],0⟩)))) (.lf (.out (l,a,b,i,())))
def q7N (l:Bool) (a b:Ej) (i:Int):Prop:=l=true/\b=a/\0<=i/\i<=((mh a).length:Int)/\(mh a).length<=1099511627776/\∀x∈mh a,x.fields.length<=1099511627776
theorem Y4:cL (mi Cq7 q7F) 0 0 Mq Mq [] λz=>.nd (q7N z.1 z.2.1 z.2.2.1 z.2.2.2.1) (.lf (.out (z.1,z.2.1,z.2.2.1,(((mh z.2.1).length:Nat):Int),()))):=by
 refine j1 _ ((nL _ _).add 1 _ Oc) 99 0 0 Mq Mq [] (λz=>q7A z.1 z.2.1 z.2.2.1 z.2.2.2.1) (λz=>(mh z.2.1).length-Int.toNat z.2.2.2.1) ?_;rintro⟨(l:Bool),(a:Ej),(b:Ej),(i:Int),_⟩ r _ ⟨h,hr⟩;obtain⟨rfl,rfl,h0,h1,h2,h3⟩:q7N l a b i:=h;obtain rfl:(LE.out (true,b,b,(((mh b).length:Nat):Int),()):LE Mq Mq [])=r:=hr;show∃q,(q7A true b b i).hit q/\q.nx _ _ ((mh b).length-i.toNat) _;by_cases hk:i<((mh b).length:Int)
 ·have hx:(mh b).getD i.toNat ⟨⟨#[]⟩,⟨#[]⟩,[],0⟩∈mh b:=by
   rw[aal,aac (by omega)];exact ach _
  refine⟨.back (true,b,b,i+1,()),aC (decide_eq_true hk) ⟨⟨h0,hk⟩,⟨h0,hk⟩,aK (by simp) (aK (by simp) (aC rfl (aK (by simp) (aK (by simp) ⟨⟨rfl,rfl,acR _,ac3 _,h3 _ hx⟩,⟨by omega,by omega⟩,rfl⟩))))⟩,?_,(⟨rfl,rfl,by omega,by omega,h2,h3⟩:q7N true b b (i+1)),rfl⟩;show(mh b).length-(i+1).toNat<_;omega
 ·obtain rfl:i=(mh b).length:=by omega
  exact⟨.out (true,b,b,(((mh b).length:Nat):Int),()),aK (decide_eq_false hk) rfl,rfl⟩
def GR (s:aF):Prop:=s.blocks.length<=1099511627776/\∀x∈s.blocks,x.fields.length<=1099511627776
theorem aa9:ao Tryz.prog 16 false (az [(0,.st 2),(1,.st 2),(2,sB)] λ((a:aF),(b:aF),(l:Bool),_)=>.nd (l=true/\b=a/\GR a) (.lf (aB true))):=
 aN (C:=Cq7) (((nL _ _).add 1 _ Oc).add 0 _ Y4) false 99 [(0,.st 2),(1,.st 2),(2,sB)] (λ((a:aF),(b:aF),(l:Bool),_)=>.br (!(a.title.toList==b.title.toList)) fF (.br (!((a.blocks.length:Int)==(b.blocks.length:Int))) fF (.nd (q7N l (a.title,a.blocks,()) (b.title,b.blocks,()) 0) (.lf (aB true)))))
  (λ⟨(a:aF),(b:aF),(l:Bool),_⟩ r _ ⟨⟨h1,h2,h3⟩,h⟩=>by
   obtain rfl:l=true:=h1;obtain rfl:b=a:=h2;obtain rfl:aB true=r:=h;exact⟨aK (by simp) (aK (by simp) ⟨⟨rfl,rfl,acR _,ac3 _,h3.1,h3.2⟩,rfl⟩),.inr rfl⟩) Tryz.func16
def adN:aF:=⟨⟨#[]⟩,[]⟩
abbrev aSo (s:aF) (b:Bool):XV:=.tup [(true,jS (.st 2) s),(false,[.sym (.bool b)])]
abbrev aSz:XV:=.tup [(true,[.sym (.string ⟨#[]⟩),.val (.slice none 0 0)]),(false,[.sym (.bool false)])]
noncomputable def ahw:eP Tryz.prog:=bA xM [⟨_,_,_,oM⟩,⟨_,_,_,sK⟩,⟨_,_,_,rp⟩,⟨_,_,_,uQ⟩] []
theorem Kz:ao Tryz.prog 12 true (az [(0,.st 5)] λ((e:aa),_)=>.nd (MA e) (.br (!gy e) (.lf aSz) (.nd (dP e) (.lf (aSo (dt e) true))))):=
 aN (C:=ahw) (nL _ _) true 99 [(0,.st 5)] (λ((e:aa),_)=>.nd (dP e/\di e) (.br (!gy e) (.lf aSz) (.nd (dP e) (.lf (aSo (dt e) true))))) (λ_ _ _ h=>⟨h,.inl rfl⟩) Tryz.func12
theorem Kh:ao Tryz.prog 13 true (az [(0,.st 5)] λ((e:aa),_)=>.nd (MA e) (.br (!fH e) (.lf aSz) (.nd (wF e) (.lf (aSo (dp e) true))))):=
 aN (C:=ahw) (nL _ _) true 99 [(0,.st 5)] (λ((e:aa),_)=>.nd (dP e/\di e) (.br (!fH e) (.lf aSz) (.nd (wF e) (.lf (aSo (dp e) true))))) (λ_ _ _ h=>⟨h,.inl rfl⟩) Tryz.func13
noncomputable def Csv:eP Tryz.prog:=bA xM [⟨_,_,_,od⟩,⟨_,_,_,Kz⟩,⟨_,_,_,Kh⟩,⟨_,_,_,oM⟩,⟨_,_,_,aa9⟩] []
def svE (e:aa) (s t:aF) (ok want:Bool):T XV:=.br true (.nd (dP e/\di e) (.br (gy e==want) (.br (ok==want) (.nd (true=true/\t=s/\GR s) tT) fF) fF)) fF
def svR (e:aa) (s:aF) (ok:Bool):T XV:=.nd (MA e) (.br (!fH e) (svE e s adN ok false) (.nd (wF e) (svE e s (dp e) ok true)))
def svT (e:aa):T XV:=.nd (MA e) (.br (!gy e) (svR e adN false) (.nd (dP e) (svR e (dt e) true)))
theorem J2 {s:aF} (h:np s):GR s:=⟨aax h.2.1 (by decide),λx hx=>aax (h.2.2 x hx).2.2.1 (by decide)⟩
theorem lawSV_ok:ao Tryz.prog 3 false (az [(0,.st 5)] λ((e:aa),_)=>.nd (MA e) (.lf (aB true))):=
 aN (C:=Csv) (nL _ _) false 99 [(0,.st 5)] (λ((e:aa),_)=>svT e)
  (λ⟨(e:aa),_⟩ r _ ⟨h,hr⟩=>by
   obtain rfl:aB true=r:=hr;refine⟨?_,.inr rfl⟩;show(svT e).hit _;have Xk:=valid_eq e;refine⟨h,?_⟩;cases hp:gy e with
   | false=>
    rw[hp] at Xk;refine aC rfl ⟨h,aC (by rw[Xk];rfl) (aC rfl ⟨h,aC (by rw[hp];rfl) (aC rfl ⟨⟨rfl,rfl,abz _,λ_ hx=>by cases hx⟩,rfl⟩)⟩)⟩
   | true=>
    rw[hp] at Xk;have hg:=lv Xk;have hs:jL e=true:=by
     unfold fH at Xk;rw[aav] at Xk;exact Xk.1
    exact aK rfl ⟨h.1,h,aK (by rw[Xk];rfl) ⟨QI hs,aC rfl ⟨h,aC (by rw[hp];rfl) (aC rfl ⟨⟨rfl,(rz hg.n).symm,J2 (BU h.1 h.2)⟩,rfl⟩)⟩⟩⟩) Tryz.func3
theorem lawSV_any {W:World} {B:Nat} (hT:Ei B W) (hB:B<=W.heap.size) {v:Value} {e:aa} (h:SV W (λb=>b<W.heap.size) v e) (he:dP e/\di e):Calls Tryz.prog 3 #[v] W (kB W (.bool true)):=
 lawSV_ok.retVL (xs:=[.agg (jS (.st 5) e)]) (vs:=[v]) ⟨B,hB,hT⟩ (λ_ h=>h) (.cons (h.xr 5) .nil) (⟨he,rfl⟩:(T.nd (MA e) (.lf (aB true))).hit (aB true))
end Go.Proofs.YtdbpbfglhbiadaaGreatDoor
