/- MRun Tm1 Tp1 Ts1 Ts2 Okd Ts3 Ts4 Tp2 -/
import Derived.Test.YtjlhbfbdcfajfaaGreatDoorW00
import Derived.Test.YtjlhbfbdcfajfaaGreatDoorW30
import Derived.Test.YtjlhbfbdcfajfaaGreatDoorProg
import Derived.Lib.SlicesS
import Derived.Test.YtjlhbfbdcfajfaaGreatDoorW05
import Derived.Test.YtjlhbfbdcfajfaaGreatDoorW13
import Derived.Test.YtjlhbfbdcfajfaaGreatDoorW14
import Derived.Test.YtjlhbfbdcfajfaaGreatDoorW15
import Derived.Test.YtjlhbfbdcfajfaaGreatDoorW11
import Derived.Test.YtjlhbfbdcfajfaaGreatDoorW16
set_option maxHeartbeats 8000000
set_option maxRecDepth 100000
namespace Go.Proofs.YtjlhbfbdcfajfaaGreatDoor
open Go Go.RowKit
def bd (f:Func):Code:=f.body.getD .skip
def aaU (c:Code):Code:=match c with
 | .loop b=>b
 | _=>.skip
def adK (f:Func) (k:Nat):Code:=aaU ((kO (bd f))[k]?.getD .skip)
abbrev sD (t:Ty):SS:=.c (.d t)
abbrev sI:SS:=sD tI
abbrev sS:SS:=sD .str
abbrev sB:SS:=sD .bool
abbrev sL:SS:=sD (.list .str)
abbrev aI (n:Int):XV:=.one (.sym (.int .i64 n))
abbrev aB (b:Bool):XV:=.one (.sym (.bool b))
abbrev aS (s:ByteArray):XV:=.one (.sym (.string s))
def TF (v:Int):Bool:=decide (0≤v)
abbrev sG {P:Program} (C:hZ P) (f:Func):Rg P f.ntmps:=Xs C f.ntmps f [] true (.inl rfl)
abbrev LB {P:Program} (C:hZ P) (f:Func) (pb:List Nat):Rg P f.ntmps:=Xs C f.ntmps f pb false (.inr rfl)
abbrev fRg {P:Program} (C:hZ P) (f:Func) (pb:List Nat) (tb:List (Nat×List Nat)):Rg P f.ntmps:=Qn (LB C f pb) tb
abbrev nL {P:Program} {m:Nat} (R:Rg P m) (f:Func):Cj P R.fn m R.pb (kO (bd f)):=noL _ _ _ _ _
theorem TQ {b:Code}:∀{c:Code} {k:Nat},(kO c)[k]?=some (.loop b)→∀(j:Nat) (x:Code),(kO b)[j]?=some x→(kO c)[k+1+j]?=some x:=by
 intro c;have two:∀{l1 l2:List Code} {k:Nat},(∀{k:Nat},l1[k]?=some (.loop b)→∀(j:Nat) (x:Code),(kO b)[j]?=some x→l1[k+1+j]?=some x)→(∀{k:Nat},l2[k]?=some (.loop b)→∀(j:Nat) (x:Code),(kO b)[j]?=some x→l2[k+1+j]?=some x)→(l1++l2)[k]?=some (.loop b)→∀(j:Nat) (x:Code),(kO b)[j]?=some x→(l1++l2)[k+1+j]?=some x:=by
  intro l1 l2 k h1 h2 h j x hj;by_cases hk:k<l1.length
  ·rw[abc hk] at h;have:=h1 h j x hj;rw[abc (aad.1 this).1];exact this
  ·rw[aa8 (by omega)] at h;have:=h2 h j x hj;rw[aa8 (by omega),show k+1+j-l1.length=k-l1.length+1+j by omega];exact this
 induction c with
 | seq x y hx hy=>intro k h;exact two hx hy h
 | cond q x y hx hy=>intro k h;exact two hx hy h
 | block i x hx=>intro k h;exact hx h
 | loop x hx=>
  intro k h j y hj;cases k with
  | zero=>
   injection h with h
   injection h with h
   subst h;rw[abQ,aez];exact hj
  | succ k=>
   have:=hx (k:=k) (by simpa[kO] using h) j y hj;rw[show k+1+1+j=(k+1+j)+1 by omega];exact this
 | _=>intro k h;cases h
def eD {P:Program} {f:Func} (R:Rg P f.ntmps) (k d:Nat) (l lo lr:List (Nat×SS)) (G:cA l→T (LE l lo lr)):Prop:=∀c,(kO (bd f))[k]?=some c→Cm P R.fn f.ntmps R.pb c (lpT R.pb d l lo lr G)
theorem eG {P:Program} {f:Func} (R:Rg P f.ntmps) (L:Cj P R.fn f.ntmps R.pb (kO (bd f))) (n k d:Nat) (l lo lr:List (Nat×SS)) (B:cA l→T (LE l lo lr)) {G:cA l→T (LE l lo lr)} (μ:cA l→Nat) (dl:∀x r,My l x→(G x).hit r→∃q,(B x).hit q∧match q with|.back x'=>μ x'<μ x∧(G x').hit r|q=>q=r) (hB:∀x,rdT R L n k d (adK f k) l lo lr x=B x:=by intro x;kernel_rfl) (hk:(kO (bd f))[k]?=some (.loop (adK f k)):=by kernel_rfl):eD R k d l lo lr G:=by
 intro c hc;rw[hk] at hc;obtain rfl:=aaZ hc;exact adJ R L (n:=n) (k:=k) μ (TQ hk) fun x r h0 h=>by rw[hB];exact dl x r h0 h
theorem bz {P:Program} {f:FuncId} {fn:Func} {C:hZ P} (L:Cj P (sG C fn).fn fn.ntmps (sG C fn).pb (kO (bd fn))) (al:Bool) (n:Nat) (l0:List (Nat×SS)) (B:cA l0→T XV) {G:cA l0→T XV} (h:∀x r,My l0 x→(G x).hit r→(B x).hit r∧(al=true∨r.plain=true)) (hf:P.funcs[f]?=some fn) (hB:∀x,fnT (sG C fn) L n (bd fn) l0 x=B x:=by intro x;kernel_rfl) (Fi:l0.length≤fn.ntmps:=by decide) (hb:fn.body=some (bd fn):=by rfl):av P f al (aU l0 G):=
 pure_ok (sG C fn) L rfl rfl hf hb rfl al n l0 G Fi fun x r h0 h1=>by rw[hB];exact h x r h0 h1
theorem kJ {P:Program} {f:FuncId} {fn:Func} {C:hZ P} {pb:List Nat} (L:Cj P (LB C fn pb).fn fn.ntmps (LB C fn pb).pb (kO (bd fn))) (n:Nat) (l0 lr:List (Nat×SS)) (B:cA l0→T (XV×cA lr)) {G:cA l0→T (XV×cA lr)} (h:∀x r,My l0 x→(G x).hit r→(B x).hit r) (hf:P.funcs[f]?=some fn) (hB:∀x,fnE (LB C fn pb) L n (bd fn) l0 lr x=B x:=by intro x;kernel_rfl) (nR:pb≠[]:=by decide) (Fi:l0.length≤fn.ntmps:=by decide) (hb:fn.body=some (bd fn):=by rfl):gh P f pb l0 lr G:=
 GM (LB C fn pb) L rfl nR hf hb rfl n l0 lr G Fi fun x r h0 h1=>by rw[hB];exact h x r h0 h1
theorem aay {P:Program} {f:FuncId} {fn:Func} {C:hZ P} {pb:List Nat} (tb:List (Nat×List Nat)) (L:Cj P (fRg C fn pb tb).fn fn.ntmps (fRg C fn pb tb).pb (kO (bd fn))) (n:Nat) (l0 lr:List (Nat×SS)) (B:cA l0→T (XV×cA lr)) {G:cA l0→T (XV×cA lr)} (h:∀x r,My l0 x→(G x).hit r→(B x).hit r) (hf:P.funcs[f]?=some fn) (hB:∀x,fnE (fRg C fn pb tb) L n (bd fn) l0 lr x=B x:=by intro x;kernel_rfl) (nR:pb≠[]:=by decide) (Fi:l0.length≤fn.ntmps:=by decide) (hb:fn.body=some (bd fn):=by rfl):gh P f pb l0 lr G:=
 GM (fRg C fn pb tb) L rfl nR hf hb rfl n l0 lr G Fi fun x r h0 h1=>by rw[hB];exact h x r h0 h1
theorem QG {P:Program} {f:FuncId} {fn:Func} {R:Rg P fn.ntmps} (L:Cj P R.fn fn.ntmps R.pb (kO (bd fn))) (n:Nat) (l0 lr:List (Nat×SS)) (B:cA l0→T (XV×cA lr)) {G:cA l0→T (XV×cA lr)} (h:∀x r,My l0 x→(G x).hit r→(B x).hit r) (hf:P.funcs[f]?=some fn) (hB:∀x,fnE R L n (bd fn) l0 lr x=B x:=by intro x;kernel_rfl) (UU:R.fn=fn:=by rfl) (nR:R.pb≠[]:=by decide) (Fi:l0.length≤fn.ntmps:=by decide) (hb:fn.body=some (bd fn):=by rfl):gh P f R.pb l0 lr G:=
 GM R L UU nR hf hb rfl n l0 lr G Fi fun x r h0 h1=>by rw[hB];exact h x r h0 h1
theorem vg {P:Program} {f:FuncId} {fn:Func} {R:Rg P fn.ntmps} (L:Cj P R.fn fn.ntmps R.pb (kO (bd fn))) (al:Bool) (n:Nat) (l0:List (Nat×SS)) (B:cA l0→T XV) {G:cA l0→T XV} (h:∀x r,My l0 x→(G x).hit r→(B x).hit r∧(al=true∨r.plain=true)) (hf:P.funcs[f]?=some fn) (hB:∀x,fnT R L n (bd fn) l0 x=B x:=by intro x;kernel_rfl) (UU:R.fn=fn:=by rfl) (nR:R.pb=[]:=by rfl) (Fi:l0.length≤fn.ntmps:=by decide) (hb:fn.body=some (bd fn):=by rfl):av P f al (aU l0 G):=
 pure_ok R L UU nR hf hb rfl al n l0 G Fi fun x r h0 h1=>by rw[hB];exact h x r h0 h1
noncomputable def shut {α:Type} (a:α):α:=Classical.choose (⟨a,rfl⟩:∃b,b=a)
theorem mQ {α:Type} (a:α):shut a=a:=Classical.choose_spec (⟨a,rfl⟩:∃b,b=a)
theorem aX {α:Type} {b:Bool} {x y:T α} {r:α} (hb:b=true) (h:x.hit r):(T.br b x y).hit r:=⟨fun _=>h,fun e=>by rw[hb] at e;cases e⟩
theorem bg {α:Type} {b:Bool} {x y:T α} {r:α} (hb:b=false) (h:y.hit r):(T.br b x y).hit r:=⟨(fun e=>by rw[hb] at e;cases e),fun _=>h⟩
theorem hB {α:Type} {b:Bool} {x y:T α} {r:α} (h:(T.br b x y).hit r):(b=true∧x.hit r)∨(b=false∧y.hit r):=by
 cases b with
 | true=>exact .inl ⟨rfl,h.1 rfl⟩
 | false=>exact .inr ⟨rfl,h.2 rfl⟩
theorem av.imp {P:Program} {f:FuncId} {al:Bool} {l0:List (Nat×SS)} {F G:cA l0→T XV} (h:av P f al (aU l0 F)) (hi:∀x r,(G x).hit r→∃q,(F x).hit q∧∀(w:World) (S:Nat→Prop) (v:Value),XR [] w S q v→XR [] w S r v):av P f al (aU l0 G):=fun w S xs vs r hW hS hx hr=>by
 unfold aU at hr;split at hr
 ·rename_i x jk;split at hr
  ·rename_i hl;obtain⟨q,h1,h2⟩:=hi x r hr;refine Calls.mono (h w S xs vs q hW hS hx (by unfold aU;rw[jk];simp only[hl,if_true];exact h1)) fun e w' ⟨v,S',e1,e2,e3,e4⟩=>⟨v,S',e1,e2,e3,h2 _ _ _ e4⟩
  ·exact hr.elim
 ·exact hr.elim
def wkA:AV→AV
 | .list t xs _=>.list t xs false
 | a=>a
def Ht:XV→XV
 | .one a=>.one (wkA a)
 | .agg cs=>.agg (cs.map wkA)
 | .tup l=>.tup (l.map fun p=>(p.1,p.2.map wkA))
theorem Fz {bs:List Value} {w:World} {S:Nat→Prop} {x:AV} {v:Value} (h:VR bs w S x v):VR bs w S (wkA x) v:=by
 cases x with
 | list t xs q=>obtain⟨A,n,c,h1,h2,_⟩:=h;exact⟨A,n,c,h1,h2,fun e=>by cases e⟩
 | _=>exact h
theorem sP {bs:List Value} {w:World} {S:Nat→Prop} {x:XV} {v:Value} (h:XR bs w S x v):XR bs w S (Ht x) v:=by
 have hc:∀{ag:Bool} {cs:List AV} {v:Value},CR bs w S ag cs v→CR bs w S ag (cs.map wkA) v:=by
  intro ag cs v h;unfold CR at h ⊢;cases ag with
  | true=>obtain⟨vs,e,h⟩:=h;exact⟨vs,e,h.mapL fun _ _ _ h=>Fz h⟩
  | false=>obtain⟨a,rfl,h⟩:=h;exact⟨_,rfl,Fz h⟩
 cases x with
 | one b=>exact Fz h
 | agg cs=>exact hc (ag:=true) h
 | tup l=>obtain⟨vs,e,h⟩:=h;exact⟨vs,e,h.mapL fun _ _ _ h=>hc h⟩
theorem av.wk {P:Program} {f:FuncId} {al:Bool} {l0:List (Nat×SS)} {F G:cA l0→T XV} (h:av P f al (aU l0 F)) (hi:∀x r,(G x).hit r→∃q,(F x).hit q∧Ht q=r):av P f al (aU l0 G):=h.imp fun x r hr=>by
 obtain⟨q,h1,rfl⟩:=hi x r hr;exact⟨q,h1,fun w S v h=>sP h⟩
theorem Q7 {P:Program} {f:FuncId} {t:Ty} {g:List (El t)→List (El t)→Bool} (h:∀(S:Nat→Prop) (A:Option Addr) (n c:Nat) (A2:Option Addr) (n2 c2:Nat) (xs ys:List (El t)) (w:World),RS w S A n c xs→RS w S A2 n2 c2 ys→Calls P f #[.slice A n c,.slice A2 n2 c2] w (yc w (.bool (g xs ys)))):av P f false (aU [(0,sD (.list t)),(1,sD (.list t))] fun((xs:List (El t)),(ys:List (El t)),_)=>.lf (aB (g xs ys))):=
 gD fun w S x vs r hS he hl hr=>by
  obtain⟨(xs:List (El t)),(ys:List (El t)),_⟩:=x;obtain⟨v,h1,A,q,c,h2,h3,_⟩:=he 0 (.one (.list t xs false)) abh;obtain⟨v',jl,A2,q2,c2,Cv,Lo,_⟩:=he 1 (.one (.list t ys false)) (abr _ abh);obtain rfl:=hr
  match vs,hl,h1,jl with
  | [u,u'],_,h1,jl=>
   injection h1 with h1
   injection jl with jl
   subst h1 jl h2 Cv;exact Calls.mono (h S A q c A2 q2 c2 xs ys w h3 Lo) fun e w' ⟨e1,n,e2⟩=>⟨_,fun _=>False,e1,e2▸below_drewN (Below.refl _ _) n,fun _ q=>q.elim,rfl,rfl⟩
def Vb {t:Ty} (g:FuncId) (q:List (El t)→List (El t)→Bool) (xs:List XV):T XV:=match xs with
 | [x,y,.one (.val (.func (.func k) a b))]=>if k=g∧a.size=0∧b.size=0 then aU [(0,sD (.list t)),(1,sD (.list t))] (fun((xs:List (El t)),(ys:List (El t)),_)=>.lf (aB (q xs ys))) [x,y] else .bad
 | _=>.bad
theorem Xm {P:Program} {f g:FuncId} {t:Ty} {q:List (El t)→List (El t)→Bool} (h:∀(S:Nat→Prop) (A:Option Addr) (n c:Nat) (A2:Option Addr) (n2 c2:Nat) (xs ys:List (El t)) (w:World),RS w S A n c xs→RS w S A2 n2 c2 ys→(∀b,S b→b<w.heap.size)→Calls P f #[.slice A n c,.slice A2 n2 c2,.func (.func g) #[] #[]] w (jQ w (.bool (q xs ys)))):av P f false (Vb (t:=t) g q):=by
 intro w S xs vs r hW hS hx hr;unfold Vb at hr;split at hr
 ·rename_i x y k a b;split at hr
  ·rename_i hc;obtain⟨rfl,ha,hb⟩:=hc;obtain rfl:=abV ha;obtain rfl:=abV hb;cases hx with
   | cons h1 hx=>cases hx with
    | cons h2 hx=>cases hx with
     | cons h3 hx=>
      cases hx
      obtain rfl:_=Value.func (.func k) #[] #[]:=h3.1;obtain⟨⟨(xs:List (El t)),(ys:List (El t)),_⟩,he,hl,hr⟩:=EQ hW hS (.cons h1 (.cons h2 .nil)) hr;obtain⟨v,g1,A,n,c,g2,g3,_⟩:=he 0 (.one (.list t xs false)) abh;obtain⟨v',g1',A2,n2,c2,g2',g3',_⟩:=he 1 (.one (.list t ys false)) (abr _ abh);obtain rfl:=hr;injection g1 with g1
      injection g1' with g1'
      subst g1 g1' g2 g2';exact Calls.mono (h S A n c A2 n2 c2 xs ys w g3 g3' hS) fun e w' e1=>⟨_,fun _=>False,e1.1,e1.2,fun _ q=>q.elim,rfl,rfl⟩
  ·exact hr.elim
 ·exact hr.elim
def EI {α:Type} (ret:T α):List Bool→T α→T α
 | [],t=>t
 | b::l,t=>.br (!b) ret (EI ret l t)
theorem Ar {α:Type} {ret t:T α} {r:α} (h:t.hit r):∀(l:List Bool),l.all id=true→(EI ret l t).hit r
 | [],_=>h
 | b::l,hl=>by
  rw[ab0,aba] at hl;exact bg (by rw[show b=true from hl.1];rfl) (Ar h l hl.2)
theorem Aw {α:Type} {ret t:T α} {r:α} (h:ret.hit r):∀(l:List Bool),l.all id=false→(EI ret l t).hit r
 | b::l,hl=>by
  cases b with
  | false=>exact aX rfl h
  | true=>exact bg rfl (Aw h l hl)
def L9 {α:Type} (ret:T α):List Bool→T α→T α
 | [],t=>t
 | b::l,t=>.br b (L9 ret l t) ret
theorem su {α:Type} {ret t:T α} {r:Bool→α} (hr:ret.hit (r false)) {y:Bool}:∀(l:List Bool),(l.all id=true→t.hit (r y))→(L9 ret l t).hit (r (l.all id&&y))
 | [],h=>h rfl
 | b::l,h=>by
  cases b with
  | false=>exact bg rfl hr
  | true=>exact aX rfl (su hr l fun hl=>h hl)
noncomputable def uC (t:TypeId):Option Ty:=List.lookup t [(9,.str),(3,tI)]
noncomputable def C0:hZ Tryz.prog:=dj uC [] []
theorem eE {x y:ByteArray}:(x.toList==y.toList)=decide (x=y):=by
 have e:∀a:ByteArray,a.toList=a.data.toList:=ByteArray.toList_eq;rw[e,e];by_cases h:x=y
 ·subst h;simp
 ·rw[decide_eq_false h,beq_eq_false_iff_ne];intro h2;exact h (by cases x;cases y;simp at h2;rw[h2])
theorem getD_drop {α:Type} {xs:List α} {i:Nat} (d:α) (h:i<xs.length):xs.drop i=xs.getD i d::xs.drop (i+1):=by
 rw[aaQ,aac h];exact List.drop_eq_getElem_cons h
theorem U7:eD (sG C0 Tryz.f48) 0 0 [(0,sL),(1,sS),(5,sI)] [] [] fun((xs:List ByteArray),(s:ByteArray),(i:Int),_)=>
 .nd (0≤i∧i≤xs.length) (.br (TF (Lib.idxFromS (xs.drop i.toNat) s i.toNat)) (.lf (.ret (aI (Lib.idxFromS (xs.drop i.toNat) s i.toNat)) ())) (.lf (.out ()))):=by
  refine eG _ (nL _ _) 99 0 0 [(0,sL),(1,sS),(5,sI)] [] [] (fun((xs:List ByteArray),(s:ByteArray),(i:Int),_)=>.br (decide (i<xs.length)) (.nd (0≤i∧i<xs.length) (.br ((xs.getD i.toNat ⟨#[]⟩).toList==s.toList) (.lf (.ret (aI i) ())) (.nd (cN (i+1)) (.lf (.back (xs,s,i+1,())))))) (.lf (.out ())))
   (fun((xs:List ByteArray),_,(i:Int),_)=>xs.length-i.toNat) ?_
  rintro⟨(xs:List ByteArray),(s:ByteArray),(i:Int),_⟩ r ⟨hl,_⟩ ⟨⟨h0,h1⟩,h⟩;have hl:xs.length≤9223372036854775807:=hl;obtain⟨k,rfl⟩:∃k:Nat,i=k:=⟨i.toNat,by omega⟩;simp only[aaR,eE] at h ⊢;by_cases hi:k<xs.length
  ·rw[getD_drop ⟨#[]⟩ hi] at h;unfold Lib.idxFromS at h;by_cases hx:xs.getD k ⟨#[]⟩=s
   ·rw[if_pos hx] at h;exact⟨_,aX (decide_eq_true (by omega)) ⟨⟨by omega,by omega⟩,aX (decide_eq_true hx) rfl⟩,((hB h).resolve_right fun q=>by have:=q.1;simp[TF] at this).2⟩
   ·rw[if_neg hx] at h;exact⟨_,aX (decide_eq_true (by omega)) ⟨⟨by omega,by omega⟩,bg (decide_eq_false hx) ⟨⟨by omega,by omega⟩,rfl⟩⟩,by show xs.length-(k+1)<xs.length-k;omega,⟨by omega,by omega⟩,h⟩
  ·rw[abg (by omega)] at h;exact⟨_,bg (decide_eq_false (by omega)) rfl,((hB h).resolve_left fun q=>by have:=q.1;simp[TF,Lib.idxFromS] at this).2⟩
theorem mY:∀(xs:List ByteArray) (s:ByteArray) (i:Nat),0≤Lib.idxFromS xs s i∨Lib.idxFromS xs s i= -1
 | [],_,_=>.inr rfl
 | x::l,s,i=>by
  unfold Lib.idxFromS;split
  ·exact .inl (by omega)
  ·exact mY l s (i+1)
theorem find_ok:av Tryz.prog 48 false (aU [(0,sL),(1,sS)] fun((xs:List ByteArray),(s:ByteArray),_)=>.lf (aI (Lib.idxOfS xs s))):=
 bz (C:=C0) ((nL _ _).add 0 _ U7) false 99 [(0,sL),(1,sS)] (fun((xs:List ByteArray),(s:ByteArray),_)=>.nd ((0:Int)≤0∧(0:Int)≤xs.length) (.br (TF (Lib.idxFromS xs s 0)) (.lf (aI (Lib.idxFromS xs s 0))) (.lf (aI (-1)))))
  (fun⟨xs,s,_⟩ r _ h=>⟨⟨⟨by omega,by omega⟩,by
   obtain rfl:aI (Lib.idxOfS xs s)=r:=h;rcases mY xs s 0 with h|h
   ·exact aX (decide_eq_true h) rfl
   ·exact bg (decide_eq_false (by omega)) (by show aI (-1)=aI (Lib.idxFromS xs s 0);rw[h])⟩,.inr (by obtain rfl:aI (Lib.idxOfS xs s)=r:=h;rfl)⟩) Tryz.func48
section
variable {w w':World} {S:Nat→Prop} {e:Ending} {P:Program} {f:FuncId}
abbrev Wc (w:World) (S:Nat→Prop) (al:Bool) (x:XV) (e:Ending) (w':World):Prop:=∃v S',e=.returned v∧Below w.heap.size w w'∧(∀b,S' b→(al=true∧S b)∨(w.heap.size≤b∧b<w'.heap.size))∧XR [] w' S' x v
theorem I9:∀{n:Nat} {l:List XV} {t:Nat} {y:XV},(t,y)∈rK n l→n≤t
 | _,[],_,_,h=>by cases h
 | n,x::l,t,y,h=>by
  rcases abq.1 h with e|h
  ·injection e with e _;omega
  ·have:=I9 h;omega
theorem acQ {w:World} {S:Nat→Prop}:∀{us vs:List Value} {n:Nat},vs.length=us.length→(∀t y,(t,y)∈rK n (us.map fun u=>XV.one (.sym u))→∃v,vs[t-n]?=some v∧XR [] w S y v)→vs=us
 | [],[],_,_,_=>rfl
 | [],_::_,_,h,_=>by cases h
 | _::_,[],_,h,_=>by cases h
 | u::us,v::vs,n,hl,h=>by
  obtain⟨v',h1,h2,_⟩:=h n _ abh;rw[Nat.sub_self] at h1;injection h1 with h1
  subst h1 h2;refine congrArg (v::·) (acQ (w:=w) (S:=S) (n:=n+1) (by simpa using hl) fun t y hy=>?_);obtain⟨k,rfl⟩:∃k,t=n+1+k:=⟨t-(n+1),by have:=I9 hy;omega⟩;have:=h _ y (abr _ hy);rw[show n+1+k-n=k+1 by omega] at this;rw[show n+1+k-(n+1)=k by omega];exact this
theorem xT {al:Bool} {l0:List (Nat×SS)} {G:cA l0→T XV} (us:cA l0→List Value) (h:∀(w:World) (S:Nat→Prop) (x:cA l0) (r:XV),Wd w→(G x).hit r→Calls P f (us x).toArray w (Wc w S al r)) (hu:∀x,(du l0 x).env=rK 0 ((us x).map fun u=>XV.one (.sym u)):=by intro x;rfl) (hl:∀x,(us x).length=l0.length:=by intro x;rfl) (nD:∀x:cA l0,(du l0 x).heap=[]:=by intro x;rfl):av P f al (aU l0 G):=
 Bb (fun w S x vs r hW hS he Cq hr=>by
  obtain rfl:vs=us x:=acQ (n:=0) (Cq.trans (hl x).symm) fun t y hy=>he t y (by rw[hu x];exact hy);exact h w S x r hW hr) nD
theorem He {al:Bool} {v:Value} (hv:v.oneCell'=true) (h:jQ w v e w'):Wc w S al (.one (.sym v)) e w':=⟨v,fun _=>False,h.1,h.2,fun _ q=>q.elim,rfl,hv⟩
theorem al9 {al:Bool} {x:XV} {v:Value} (hx:XR [] w' (fun _=>False) x v) (h:yc w v e w'):Wc w S al x e w':=⟨v,fun _=>False,h.1,by obtain⟨n,rfl⟩:=h.2;exact below_drewN (Below.refl _ _) n,fun _ q=>q.elim,hx⟩
theorem al8 {al:Bool} {x:XV} {v:Value} (hx:XR [] w' (fun _=>False) x v) (h:jQ w v e w'):Wc w S al x e w':=⟨v,fun _=>False,h.1,h.2,fun _ q=>q.elim,hx⟩
theorem xrT:∀{us:List Value},(∀u∈us,u.oneCell'=true)→XR [] w S (.tup (us.map fun u=>(false,[.sym u]))) (.tuple us.toArray):=fun {us} h=>⟨us,rfl,by
 induction us with
 | nil=>exact .nil
 | cons u us ih=>exact .cons ⟨_,rfl,rfl,h u abh⟩ (ih fun v hv=>h v (abr _ hv))⟩
end
theorem ze:av Tryz.prog 64 false (aU [(0,sS),(1,sI),(2,sI)] fun((s:ByteArray),(a:Int),(b:Int),_)=>.nd (dP s) (.lf (aB (dK s a b)))):=
 xT (fun((s:ByteArray),(a:Int),(b:Int),_)=>[.string s,.int .i64 a,.int .i64 b]) fun w S ⟨(s:ByteArray),(a:Int),(b:Int),_⟩ r _ ⟨hs,hr⟩=>by
  obtain rfl:aB (dK s a b)=r:=hr;exact Calls.mono (Dn s a b w hs) fun _ _ h=>He rfl h
abbrev aT (us:List Value):XV:=.tup (us.map fun u=>(false,[.sym u]))
theorem ID:av Tryz.prog 150 false (aU [(0,sS)] fun((s:ByteArray),_)=>.nd (s.size≤9223372036854775807) (.lf (aT [.int .i64 (cz s.data.toList).1,.bool (cz s.data.toList).2]))):=
 xT (fun((s:ByteArray),_)=>[.string s]) fun w S ⟨(s:ByteArray),_⟩ r _ ⟨hs,hr⟩=>by
  obtain rfl:aT [.int .i64 (cz s.data.toList).1,.bool (cz s.data.toList).2]=r:=hr;exact Calls.mono (YE s w hs) fun _ _ h=>al8 (xrT (us:=[.int .i64 (cz s.data.toList).1,.bool (cz s.data.toList).2]) (by simp[Value.oneCell'])) h
theorem Vq:av Tryz.prog 148 false (aU [(0,sS),(1,sS)] fun((s:ByteArray),(t:ByteArray),_)=>.nd (s.size≤9223372036854775807∧t=⟨#[47]⟩) (.lf (aT [.string ⟨(ed s.data.toList).toArray⟩,.string ⟨(dO s.data.toList).toArray⟩,.bool (jp s.data.toList)]))):=
 xT (fun((s:ByteArray),(t:ByteArray),_)=>[.string s,.string t]) fun w S ⟨(s:ByteArray),(t:ByteArray),_⟩ r _ ⟨⟨hs,ht⟩,hr⟩=>by
  obtain rfl:aT [.string ⟨(ed s.data.toList).toArray⟩,.string ⟨(dO s.data.toList).toArray⟩,.bool (jp s.data.toList)]=r:=hr;subst ht;exact Calls.mono (QN s w hs) fun _ _ h=>al9 (xrT (us:=[.string ⟨(ed s.data.toList).toArray⟩,.string ⟨(dO s.data.toList).toArray⟩,.bool (jp s.data.toList)]) (by simp[Value.oneCell'])) h
theorem Rq:av Tryz.prog 120 false (aU [(0,sS)] fun((s:ByteArray),_)=>.nd (s.size≤9223372036854775807) (.lf (aB (iK s.data.toList)))):=
 xT (fun((s:ByteArray),_)=>[.string s]) fun w S ⟨(s:ByteArray),_⟩ r _ ⟨hs,hr⟩=>by
  obtain rfl:aB (iK s.data.toList)=r:=hr;exact Calls.mono (JI s w hs) fun _ _ h=>He rfl h
theorem SV.xr {w:World} {S:Nat→Prop} {v:Value} (k:Nat) {x:Hi k} (h:@SV _ (yS k) w S v x):XR [] w S (.agg (lJ (.st k) x)) v:=let ⟨cs,e,h⟩:=h;⟨cs,e,kh (t:=.st k) h⟩
theorem Qp:av Tryz.prog 178 false (aU [(0,sI),(1,sI)] fun((a:Int),(b:Int),_)=>.nd (cN a∧cN b) (.lf (.agg (lJ (.st 8) (fN a b).raw)))):=
 xT (fun((a:Int),(b:Int),_)=>[.int .i64 a,.int .i64 b]) fun w S ⟨(a:Int),(b:Int),_⟩ r _ ⟨⟨⟨h1,h2⟩,h3,h4⟩,hr⟩=>by
  obtain rfl:XV.agg (lJ (.st 8) (fN a b).raw)=r:=hr;refine Calls.mono (U5 a b w h1 h2 h3 h4) fun e w' ⟨v,e1,e2,e3⟩=>⟨v,cW w w',e1,e3,fun b q=>.inr q,SV.xr 8 (x:=(fN a b).raw) e2⟩
theorem Hb {w:World} {S:Nat→Prop} {x:Raw} {v:Value} (h:XR [] w S (.agg (lJ (.st 8) x)) v):SV w S v x:=by
 obtain⟨vs,rfl,hf⟩:=h;exact⟨vs,rfl,lC (t:=.st 8) (us:=lJ (.st 8) x) rfl hf⟩
theorem JA:av Tryz.prog 81 false (aU [(0,.st 8),(1,.st 8)] fun((a:Raw),(b:Raw),_)=>.nd (a.short 67108864∧b.short 67108864) (.lf (aI (oI a.q b.flip.q)))):=
 gD fun w S x vs r hS he hl hr=>by
  obtain⟨(a:Raw),(b:Raw),_⟩:=x;obtain⟨v,h1,h2⟩:=he 0 (.agg (lJ (.st 8) a)) abh;obtain⟨v',jl,Cv⟩:=he 1 (.agg (lJ (.st 8) b)) (abr _ abh);obtain⟨⟨k1,k2⟩,rfl⟩:=hr
  match vs,hl,h1,jl with
  | [u,u'],_,h1,jl=>
   injection h1 with h1
   injection jl with jl
   subst h1 jl;exact Calls.mono (Vy (Hb h2) (Hb Cv) hS hS k1 k2) fun e w' h=>⟨_,fun _=>False,h.1,h.2,fun _ q=>q.elim,rfl,rfl⟩
theorem Uc:av Tryz.prog 124 false (aU [(0,sL),(1,sI)] fun((l:List ByteArray),(n:Int),_)=>.nd (∀s∈l,dP s) (.lf (aI (eO l n)))):=
 gD fun w S x vs r hS he hl hr=>by
  obtain⟨(l:List ByteArray),(n:Int),_⟩:=x;obtain⟨v,h1,A,q,c,h2,h3,_⟩:=he 0 (.one (.list .str l false)) abh;obtain⟨v',jl,Cv,_⟩:=he 1 (aI n) (abr _ abh);obtain⟨hn,rfl⟩:=hr
  match vs,hl,h1,jl with
  | [u,u'],_,h1,jl=>
   injection h1 with h1
   injection jl with jl
   subst h1 jl h2 Cv;exact Calls.mono (Ua n h3 hS hn) fun _ _ h=>He rfl h
theorem Ja:av Tryz.prog 98 false (aU [(0,sL),(1,sS)] fun((l:List ByteArray),(s:ByteArray),_)=>.lf (aI (Lib.idxOfS l s))):=
 gD fun w S x vs r hS he hl hr=>by
  obtain⟨(l:List ByteArray),(s:ByteArray),_⟩:=x;obtain⟨v,h1,A,q,c,h2,h3,_⟩:=he 0 (.one (.list .str l false)) abh;obtain⟨v',jl,Cv,_⟩:=he 1 (aS s) (abr _ abh);obtain rfl:=hr
  match vs,hl,h1,jl with
  | [u,u'],_,h1,jl=>
   injection h1 with h1
   injection jl with jl
   subst h1 jl h2 Cv;exact Calls.mono (Uv h3 s) fun _ _ h=>He rfl ⟨h.1,h.2▸Below.refl _ _⟩
theorem Jl:av Tryz.prog 121 false (aU [(0,sL),(1,sS)] fun((l:List ByteArray),(s:ByteArray),_)=>.lf (aB (Lib.containsS l s))):=
 gD fun w S x vs r hS he hl hr=>by
  obtain⟨(l:List ByteArray),(s:ByteArray),_⟩:=x;obtain⟨v,h1,A,q,c,h2,h3,_⟩:=he 0 (.one (.list .str l false)) abh;obtain⟨v',jl,Cv,_⟩:=he 1 (aS s) (abr _ abh);obtain rfl:=hr
  match vs,hl,h1,jl with
  | [u,u'],_,h1,jl=>
   injection h1 with h1
   injection jl with jl
   subst h1 jl h2 Cv;exact Calls.mono (si h3 s) fun _ _ h=>He rfl ⟨h.1,h.2▸Below.refl _ _⟩
theorem tT:av Tryz.prog 69 false (aU [(0,sL)] fun((l:List ByteArray),_)=>.nd (l.length≤1099511627776) (.lf (.one (.list .str l false)))):=
 gD fun w S x vs r hS he hl hr=>by
  obtain⟨(l:List ByteArray),_⟩:=x;obtain⟨v,h1,A,q,c,h2,h3,_⟩:=he 0 (.one (.list .str l false)) abh;obtain⟨hn,rfl⟩:=hr
  match vs,hl,h1 with
  | [u],_,h1=>
   injection h1 with h1
   subst h1 h2;refine Calls.mono (LU h3 (by rw[←h3.len];exact hn)) fun e w' h=>?_;obtain⟨v',rfl,ho,h2⟩:=h;obtain⟨A,q,c,rfl,_⟩:=ho.slice;exact⟨_,cW w w',rfl,h2,fun b q=>.inr q,A,q,c,rfl,ho.fresh (abi _),fun e=>by cases e⟩
def Xl (F:ByteArray→XV) (d:XV) (k:ByteArray):List ByteArray→T XV
 | []=>.lf d
 | a::l=>.br (k.toList==a.toList) (.lf (F a)) (Xl F d k l)
theorem JC {F:ByteArray→XV} {d:XV} {k:ByteArray}:∀{l:List ByteArray},(k∉l→∀(w:World) (S:Nat→Prop) (v:Value),XR [] w S d v→XR [] w S (F k) v)→∃q,(Xl F d k l).hit q∧∀(w:World) (S:Nat→Prop) (v:Value),XR [] w S q v→XR [] w S (F k) v
 | [],h=>⟨_,rfl,h (by simp)⟩
 | a::l,h=>by
  by_cases e:k=a
  ·subst e;exact⟨_,aX (by simp) rfl,fun _ _ _ h=>h⟩
  ·obtain⟨q,h1,h2⟩:=JC (k:=k) (l:=l) fun hl=>h (by simp[e,hl]);exact⟨q,bg (by rw[eE];exact decide_eq_false e) h1,h2⟩
theorem xQ {f:FuncId} {F:ByteArray→XV} {d:XV} {l:List ByteArray} (h:av Tryz.prog f true (aU [(0,sS)] fun((k:ByteArray),_)=>Xl F d k l)) (hd:∀k,k∉l→F k=d∨∃xs:List ByteArray,xs=[]∧F k=.one (.list .str xs true)∧d=.one (.val (.slice none 0 0))):av Tryz.prog f true (aU [(0,sS)] fun((k:ByteArray),_)=>.lf (F k)):=
 h.imp fun⟨(k:ByteArray),_⟩ r hr=>by
  obtain rfl:F k=r:=hr;refine JC fun hn w S v hv=>?_;rcases hd k hn with e|⟨xs,e,e1,e2⟩
  ·rw[e];exact hv
  ·subst e;rw[e1];rw[e2] at hv;exact⟨none,0,0,hv.1,RS.nil _ _,fun _ _=>rfl⟩
abbrev Xu (xs:List ByteArray):XV:=.one (.list .str xs true)
abbrev ady:XV:=.one (.val (.slice none 0 0))
theorem tG:av Tryz.prog 118 true (aU [(0,sS)] fun((k:ByteArray),_)=>.lf (Xu (aM k))):=
 xQ (F:=fun k=>Xu (aM k)) (bz (C:=C0) (nL _ _) true 99 [(0,sS)] (fun((k:ByteArray),_)=>Xl (fun k=>Xu (aM k)) ady k fq) (fun _ _ _ h=>⟨h,.inl rfl⟩) Tryz.func118) fun k h=>.inr ⟨_,by simp only[fq,abq,abz,or_false,not_or] at h;simp[aM,h],rfl,rfl⟩
abbrev alI:List ByteArray:=[⟨#[109,101,116,104,111,100]⟩,⟨#[116,105,101,115]⟩,⟨#[111,118,101,114,118,111,116,101]⟩,⟨#[115,107,105,112]⟩]
theorem EH:av Tryz.prog 128 true (aU [(0,sS)] fun((k:ByteArray),_)=>.lf (Xu (bc k))):=
 xQ (F:=fun k=>Xu (bc k)) (bz (C:=C0) (nL _ _) true 99 [(0,sS)] (fun((k:ByteArray),_)=>Xl (fun k=>Xu (bc k)) ady k alI) (fun _ _ _ h=>⟨h,.inl rfl⟩) Tryz.func128) fun k h=>.inr ⟨_,by simp only[abq,abz,or_false,not_or] at h;simp[bc,h],rfl,rfl⟩
theorem Uj:av Tryz.prog 123 true (aU [(0,sS)] fun((k:ByteArray),_)=>.lf (aI (dn k))):=
 xQ (F:=fun k=>aI (dn k)) (bz (C:=C0) (nL _ _) true 99 [(0,sS)] (fun((k:ByteArray),_)=>Xl (fun k=>aI (dn k)) (aI 0) k [⟨#[110,97,109,101,115]⟩,⟨#[112,114,101,99,105,110,99,116,115]⟩,⟨#[99,111,110,116,101,115,116,115]⟩,⟨#[99,97,110,100,105,100,97,116,101,115]⟩]) (fun _ _ _ h=>⟨h,.inl rfl⟩) Tryz.func123) fun k h=>.inl (by simp only[abq,abz,or_false,not_or] at h;simp[dn,h])
theorem VB:av Tryz.prog 122 true (aU [(0,sS)] fun((k:ByteArray),_)=>.lf (aI (ew k))):=
 xQ (F:=fun k=>aI (ew k)) (bz (C:=C0) (nL _ _) true 99 [(0,sS)] (fun((k:ByteArray),_)=>Xl (fun k=>aI (ew k)) (aI 6) k [ah]) (fun _ _ _ h=>⟨h,.inl rfl⟩) Tryz.func122) fun k h=>.inl (by simp only[ab7] at h;rw[show ew k=6 from if_neg h])
theorem VF:av Tryz.prog 151 true (aU [(0,sS)] fun((k:ByteArray),_)=>.lf (aT [.int .i64 (fx k).1,.int .i64 (fx k).2])):=
 xQ (F:=fun k=>aT [.int .i64 (fx k).1,.int .i64 (fx k).2]) (bz (C:=C0) (nL _ _) true 99 [(0,sS)] (fun((k:ByteArray),_)=>Xl (fun k=>aT [.int .i64 (fx k).1,.int .i64 (fx k).2]) (aT [.int .i64 0,.int .i64 0]) k
  [⟨#[100,111,116,115]⟩,bq,bb,⟨#[99,111,117,110,116]⟩,⟨#[98,97,116,99,104]⟩,bf,⟨#[114,97,110,107,115]⟩,az,⟨#[99,101,108,108]⟩]) (fun _ _ _ h=>⟨h,.inl rfl⟩) Tryz.func151) fun k h=>.inl (by simp only[bq,bb,bf,az,abq,abz,or_false,not_or] at h;simp[fx,h])
theorem KV:av Tryz.prog 119 true (aU [(0,sS)] fun((k:ByteArray),_)=>.lf (aB (mV k))):=
 bz (C:=C0) (nL _ _) true 99 [(0,sS)] (fun((k:ByteArray),_)=>.br (k.toList==ah.toList) (.lf (aB true)) (.lf (aB (k.toList==(⟨#[115,116,121,108,101]⟩:ByteArray).toList)))) (fun⟨(k:ByteArray),_⟩ r _ h=>⟨by
  obtain rfl:aB (mV k)=r:=h;show(T.br _ _ _).hit (aB (if k=ah then true else if k=⟨#[115,116,121,108,101]⟩ then true else false));by_cases e:k=ah
  ·exact aX (by rw[e];simp) (by rw[if_pos e];rfl)
  ·refine bg (by rw[eE];exact decide_eq_false e) ?_;rw[if_neg e,eE];split<;>rename_i e2
   ·exact congrArg aB (decide_eq_true e2)
   ·exact congrArg aB (decide_eq_false e2),.inl rfl⟩) Tryz.func119
theorem Gj:av Tryz.prog 66 true (aU [] fun _=>.lf (Xu fq)):=
 bz (C:=C0) (nL _ _) true 99 [] (fun _=>.lf (Xu fq)) (fun _ _ _ h=>⟨h,.inl rfl⟩) Tryz.func66
theorem O5:av Tryz.prog 102 false (aU [(0,sI)] fun((n:Int),_)=>.nd (cN n) (.lf (aS (rJ n)))):=
 Bb fun w S x vs r hW hS he hl hr=>by
  obtain⟨(n:Int),_⟩:=x;obtain⟨v,h1,h2,_⟩:=he 0 (aI n) abh;obtain⟨⟨hn,hn2⟩,rfl⟩:=hr;obtain⟨B,hB,hT⟩:=hW
  match vs,hl,h1 with
  | [u],_,h1=>
   injection h1 with h1
   subst h1 h2;exact Calls.mono (Uu hT n hn hn2) fun e w' h=>⟨_,fun _=>False,h.1,h.2,fun _ q=>q.elim,rfl,rfl⟩
theorem EG:av Tryz.prog 128 true (aU [(0,sS)] fun((k:ByteArray),_)=>.lf (.one (.list .str (bc k) false))):=EH.wk fun⟨(_:ByteArray),_⟩ _ h=>⟨_,rfl,h⟩
theorem Dm:av Tryz.prog 73 false (aU [(0,.st 8)] fun((x:Raw),_)=>.nd (x.short 67108864) (.lf (aS ⟨(iE x.q).toArray⟩))):=
 gD fun w S x vs r hS he hl hr=>by
  obtain⟨(x:Raw),_⟩:=x;obtain⟨v,h1,SF,rfl,h2⟩:=he 0 (.agg (lJ (.st 8) x)) abh;obtain⟨a1,rfl⟩:=hr;have hr:@aG.rep (Hi 8) (yS 8) w S SF x:=lC (t:=.st 8) (us:=lJ (.st 8) x) rfl h2
  match vs,hl,h1 with
  | [u],_,h1=>
   injection h1 with h1
   subst h1;exact Calls.mono (M5 ⟨_,rfl,hr⟩ hS a1) fun e w' h=>⟨_,fun _=>False,h.1,h.2,fun _ q=>q.elim,rfl,rfl⟩
noncomputable def CI (t:TypeId):Option Ty:=List.lookup t [(9,.str),(3,tI),(113,.st 0),(110,.st 1)]
noncomputable def Cs1:hZ Tryz.prog:=dj CI [⟨_,_,_,O5⟩,⟨_,_,_,EG⟩] []
def adB (f:ao):XV:=.agg [.sym (.string f.key),.list .str f.vals true,.sym (.int .i64 f.line)]
theorem yQ:av Tryz.prog 72 true (aU [(0,sS),(1,sS)] fun((k:ByteArray),(s:ByteArray),_)=>.lf (.agg (lJ (.st 0) (⟨k,[s],0⟩:ao)))):=
 (bz (C:=Cs1) (nL _ _) true 99 [(0,sS),(1,sS)] (fun((k:ByteArray),(s:ByteArray),_)=>.lf (adB ⟨k,[s],0⟩)) (fun _ _ _ h=>⟨h,.inl rfl⟩) Tryz.func72).wk fun _ r h=>⟨_,rfl,h⟩
theorem vZ:av Tryz.prog 68 true (aU [(0,sS),(1,sI)] fun((k:ByteArray),(n:Int),_)=>.nd (cN n) (.lf (.agg (lJ (.st 0) (⟨k,[rJ n],0⟩:ao))))):=
 (bz (C:=Cs1) (nL _ _) true 99 [(0,sS),(1,sI)] (fun((k:ByteArray),(n:Int),_)=>.nd (cN n) (.lf (adB ⟨k,[rJ n],0⟩))) (fun _ _ _ h=>⟨h,.inl rfl⟩) Tryz.func68).wk fun _ r ⟨h1,h⟩=>⟨_,⟨h1,rfl⟩,h⟩
theorem GV:av Tryz.prog 103 false (aU [(0,sS),(1,sI)] fun((k:ByteArray),(n:Int),_)=>.nd (cN n) (.lf (aS (jG k n)))):=
 bz (C:=Cs1) (nL _ _) false 99 [(0,sS),(1,sI)] (fun((k:ByteArray),(n:Int),_)=>.br (decide (n<1)) (.lf (aS ⟨#[]⟩)) (.br (decide (n>(bc k).length)) (.lf (aS ⟨#[]⟩)) (.nd (cN (n-1)) (.nd (0≤n-1∧n-1<(bc k).length) (.lf (aS ((bc k).getD (n-1).toNat ⟨#[]⟩)))))))
  (fun⟨(k:ByteArray),(n:Int),_⟩ r _ ⟨hn,h⟩=>by
   obtain rfl:aS (jG k n)=r:=h;refine⟨?_,.inr rfl⟩;unfold jG;by_cases h1:n<1
   ·rw[if_pos (.inl h1)];exact aX (decide_eq_true h1) rfl
   ·by_cases h2:((bc k).length:Int)<n
    ·rw[if_pos (.inr h2)];exact bg (decide_eq_false h1) (aX (decide_eq_true h2) rfl)
    ·rw[if_neg (by omega)];refine bg (decide_eq_false h1) (bg (decide_eq_false (by omega)) ⟨⟨by omega,by have:=hn.2;omega⟩,⟨by omega,by omega⟩,?_⟩);rw[show(n-1).toNat=n.toNat-1 by omega];rfl) Tryz.func103
noncomputable abbrev adx:=Tryz.f71
noncomputable abbrev ai6:Rg Tryz.prog adx.ntmps:=sG Cs1 adx
abbrev nfC:List CS:=[.d .str,.own .str 9,.d tI]
abbrev nuC:List CS:=[.d .str,.d (.list .str),.d tI]
abbrev Mu:=eY nfC
abbrev NuC:=eY nuC
abbrev nmL:List (Nat×SS):=[(2,sL),(6,.box 113 nuC),(7,.box 113 nfC),(13,sD (.list tI)),(14,sI),(15,sI)]
abbrev nmO:List (Nat×SS):=[(6,.box 113 nuC),(7,.box 113 nfC)]
abbrev NmE:=LE nmL nmO []
def Mu.row (f:Mu):List ByteArray:=f.2.1
def Mu.put (f:Mu) (r:List ByteArray):Mu:=(f.1,r,f.2.2)
def IE (u:NuC) (f:Mu) (r:List ByteArray):NmE:=.out (u,f.put r,())
def TG (l:List ByteArray) (u:NuC) (f:Mu) (x:List Int) (n i:Int) (s:ByteArray):T NmE:=.nd ((f.row.length+1)*17≤140737488355328) (.nd (cN (i+1)) (.lf (.back (l,u,f.put (s::f.row),x,n,i+1,()))))
def nmT (l:List ByteArray) (u:NuC) (f:Mu) (x:List Int) (n i:Int):T NmE:=.br (decide (i<n)) (.nd (0≤i∧i<x.length) (.br (decide (x.getD i.toNat 0≥0)) (.br (decide (x.getD i.toNat 0<l.length))
 (.nd (0≤x.getD i.toNat 0∧x.getD i.toNat 0<l.length) (TG l u f x n i (l.getD (x.getD i.toNat 0).toNat ⟨#[]⟩))) (TG l u f x n i ⟨#[]⟩)) (TG l u f x n i ⟨#[]⟩))) (.lf (.out (u,f,())))
def nmN (f:Mu) (x:List Int) (n i:Int):Prop:=0≤i∧i≤x.length∧n=x.length∧(f.row.length:Int)=i∧x.length≤1099511627776
theorem Oq:eD ai6 0 0 nmL nmO [] fun((l:List ByteArray),(u:NuC),(f:Mu),(x:List Int),(n:Int),(i:Int),_)=>.nd (nmN f x n i) (.lf (IE u f ((dL (x.drop i.toNat) l).reverse++f.row))):=by
 refine eG _ (nL _ _) 99 0 0 nmL nmO [] (fun((l:List ByteArray),(u:NuC),(f:Mu),(x:List Int),(n:Int),(i:Int),_)=>nmT l u f x n i) (fun(_,_,_,(x:List Int),_,(i:Int),_)=>x.length-i.toNat) ?_;rintro⟨(l:List ByteArray),(u:NuC),(f:Mu),(x:List Int),(n:Int),(i:Int),_⟩ r _ ⟨⟨h0,h1,rfl,h2,h3⟩,hr⟩;obtain⟨k,rfl⟩:∃k:Nat,i=k:=⟨i.toNat,by omega⟩;have hr:IE u f ((dL (x.drop k) l).reverse++f.row)=r:=hr;subst hr;show∃q,(nmT l u f x x.length k).hit q∧_;unfold nmT;rw[aaR];by_cases hk:k<x.length
 ·rw[getD_drop 0 hk];obtain⟨s,hs⟩:∃s,nameAt l (x.getD k 0)=s:=⟨_,rfl⟩;have nx:nmN (f.put (s::f.row)) x x.length ((k:Int)+1):=⟨by omega,by omega,rfl,by show((s::f.row).length:Int)=_;rw[abp];omega,h3⟩;have eq:IE u (f.put (s::f.row)) ((dL (x.drop (k+1)) l).reverse++s::f.row)=IE u f ((dL (x.getD k 0::x.drop (k+1)) l).reverse++f.row):=by
   unfold dL;rw[abY,abL,abD,hs];rfl
  have dec:x.length-(k+1)<x.length-k:=by omega
  have bk:(TG l u f x x.length k s).hit (.back (l,u,f.put (s::f.row),x,(x.length:Int),(k:Int)+1,())):=⟨by omega,⟨by omega,by omega⟩,rfl⟩;have eX:0≤(k:Int)∧(k:Int)<x.length:=⟨by omega,by omega⟩;by_cases h4:x.getD k 0<0
  ·rw[show s=⟨#[]⟩ by rw[←hs];exact if_neg (by omega)] at nx eq bk;exact⟨_,aX (decide_eq_true (by omega)) ⟨eX,bg (decide_eq_false (by omega)) bk⟩,dec,nx,eq⟩
  by_cases h5:(l.length:Int)≤x.getD k 0
  ·rw[show s=⟨#[]⟩ by rw[←hs];exact if_neg (by omega)] at nx eq bk;exact⟨_,aX (decide_eq_true (by omega)) ⟨eX,aX (decide_eq_true (by omega)) (bg (decide_eq_false (by omega)) bk)⟩,dec,nx,eq⟩
  ·rw[show s=l.getD (x.getD k 0).toNat ⟨#[]⟩ by rw[←hs];exact if_pos ⟨by omega,by omega⟩] at nx eq bk;exact⟨_,aX (decide_eq_true (by omega)) ⟨eX,aX (decide_eq_true (by omega)) (aX (decide_eq_true (by omega)) ⟨⟨by omega,by omega⟩,bk⟩)⟩,dec,nx,eq⟩
 ·rw[abg (by omega)];exact⟨_,bg (decide_eq_false (by omega)) rfl,rfl⟩
def nmR (k:ByteArray) (r:List ByteArray):XV:=.agg [.sym (.string k),.list .str r.reverse !r.isEmpty,.sym (.int .i64 0)]
theorem KU:av Tryz.prog 71 true (aU [(0,sS),(1,sD (.list tI)),(2,sL)] fun((k:ByteArray),(x:List Int),(l:List ByteArray),_)=>.nd (x.length≤1099511627776) (.lf (.agg (lJ (.st 0) (⟨k,dL x l,0⟩:ao))))):=
 av.wk (l0:=[(0,sS),(1,sD (.list tI)),(2,sL)]) (F:=fun((k:ByteArray),(x:List Int),(l:List ByteArray),_)=>.nd (x.length≤1099511627776) (.lf (nmR k (dL x l).reverse)))
  (bz (C:=Cs1) ((nL _ _).add 0 _ Oq) true 99 [(0,sS),(1,sD (.list tI)),(2,sL)] (fun((k:ByteArray),(x:List Int),(l:List ByteArray),_)=>.nd (nmN (k,[],(0:Int),()) x x.length 0) (.lf (nmR k ((dL (x.drop 0) l).reverse++[]))))
   (fun⟨(k:ByteArray),(x:List Int),(l:List ByteArray),_⟩ r _ ⟨h1,h⟩=>by
    obtain rfl:nmR k (dL x l).reverse=r:=h;refine⟨⟨⟨by omega,by omega,rfl,rfl,h1⟩,?_⟩,.inl rfl⟩;show nmR k _=_;rw[ab2,abZ]) Tryz.func71)
  fun⟨(k:ByteArray),(x:List Int),(l:List ByteArray),_⟩ r ⟨h1,h⟩=>⟨_,⟨h1,rfl⟩,by
   obtain rfl:XV.agg (lJ (.st 0) (⟨k,dL x l,0⟩:ao))=r:=h;show XV.agg [.sym (.string k),.list .str (dL x l).reverse.reverse false,.sym (.int .i64 0)]=_;rw[aa7];rfl⟩
noncomputable def Cs2:hZ Tryz.prog:=dj CI [⟨_,_,_,GV⟩,⟨_,_,_,yQ⟩,⟨_,_,_,vZ⟩,⟨_,_,_,tT⟩] []
def Fq (v:Int):Prop:= -9223372036854775808≤v∧v≤9223372036854775807
def oS (x:ai):Prop:=Fq x.method∧Fq x.seats∧Fq x.ranks∧Fq x.digits∧Fq x.ties∧Fq x.over∧Fq x.skip∧x.cands.length≤274877906944
structure cH (e:aa):Prop where
 dots:Fq e.dots
 blank:Fq e.blank
 marked:Fq e.marked
 scan:Fq e.scan
 batch:Fq e.batch
 cell:Fq e.cell
 conts:∀x∈e.cont,oS x
 styls:∀x∈e.styl,x.prec.length≤274877906944∧x.cont.length≤274877906944
 lc:e.cont.length≤34359738368
 ls:e.styl.length≤34359738367
 lp:e.prec.length≤274877906944
 short:e.risk.short 67108864
def JY (f:ao):Prop:=dP f.key∧(∀s∈f.vals,dP s)∧f.vals.length≤1099511627776
def il (x:aw):Prop:=dP x.kind∧dP x.name∧x.fields.length≤274877906944∧∀f∈x.fields,JY f∧f.vals.length≤274877906944
def E2 (s:cO):Prop:=dP s.title∧s.blocks.length≤68719476736∧∀x∈s.blocks,il x
def scX (c:ai) (l:List ao):XV:=.agg [.sym (.string ah),.sym (.string c.name),.list (.st 0) ([jY aN c.method,gF bf c.seats,gF bS c.ranks]++l++[jY db c.ties,jY aV c.over,jY dc c.skip,⟨cF,c.cands,0⟩]) true,.sym (.int .i64 0)]
def scE (c:ai) (n:Nat) (l:List ao):T XV:=.nd (cN c.ties) (.nd (cN c.over) (.nd (cN c.skip) (.nd (c.cands.length≤1099511627776) (.nd ((n+4)*49≤140737488355328) (.lf (scX c l))))))
def scB (c:ai):T XV:=.nd (cN c.method) (.nd (cN c.seats) (.nd (cN c.ranks) (.br (c.method==2) (.nd (cN c.digits) (.nd ((3+1)*49≤140737488355328) (scE c 4 [gF az c.digits]))) (scE c 3 []))))
theorem AS:av Tryz.prog 70 true (aU [(0,.st 3)] fun((c:ai),_)=>.nd (oS c) (.lf (.agg (lJ (.st 1) (fl c))))):=
 (bz (C:=Cs2) (nL _ _) true 99 [(0,.st 3)] (G:=fun((c:ai),_)=>.nd (oS c) (.lf (scX c (if c.method=2 then[gF az c.digits] else[])))) (fun((c:ai),_)=>scB c)
  (fun⟨(c:ai),_⟩ r _ ⟨⟨h1,h2,h3,h4,h5,h6,h7,h8⟩,h⟩=>by
   obtain rfl:scX c (if c.method=2 then[gF az c.digits] else[])=r:=h;refine⟨⟨h1,h2,h3,?_⟩,.inl rfl⟩;by_cases hm:c.method=2
   ·rw[if_pos hm];exact aX (beq_iff_eq.2 hm) ⟨h4,by omega,h5,h6,h7,by omega,by omega,rfl⟩
   ·rw[if_neg hm];exact bg (beq_eq_false_iff_ne.2 hm) ⟨h5,h6,h7,by omega,by omega,rfl⟩) Tryz.func70).wk
  fun⟨(c:ai),_⟩ r ⟨h0,h⟩=>⟨_,⟨h0,rfl⟩,h⟩
noncomputable def Cs3:hZ Tryz.prog:=dj CI [⟨_,_,_,yQ⟩,⟨_,_,_,vZ⟩,⟨_,_,_,tT⟩,⟨_,_,_,KU⟩,⟨_,_,_,AS⟩,⟨_,_,_,Dm⟩] []
noncomputable abbrev XN:=Tryz.f42
noncomputable abbrev S5:Rg Tryz.prog XN.ntmps:=Qn (sG Cs3 XN) [(9,[4])]
abbrev zeC:List CS:=[.d .str,.d tI,.d tI,.d tI,.d (.list .str),.d (.list (.st 3)),.d (.list (.st 4)),.d tI,.d tI,.d .bool,.d (.list .limb),.d (.list .limb),.d tI,.d .str]
abbrev zsC:List CS:=[.d .str,.own (.st 1) 110]
abbrev zvC:List CS:=[.d .str,.d (.list (.st 1))]
abbrev qI:=eY zeC
abbrev vB:=eY zsC
abbrev Mt:=eY zvC
abbrev SK:SS:=.box 30 zeC
abbrev szS:SS:=.box 81 zsC
abbrev szV:SS:=.box 81 zvC
abbrev z0O:List (Nat×SS):=[(1,SK),(2,szV),(3,szS),(4,.c (.own .str 9))]
abbrev z0L:List (Nat×SS):=[(1,SK),(2,szV),(3,szS),(4,.c (.own .str 9)),(39,sD (.list (.st 3))),(40,sI),(41,sI)]
abbrev z1O:List (Nat×SS):=[(1,SK),(2,szV),(3,szS)]
abbrev z1L:List (Nat×SS):=[(1,SK),(2,szV),(3,szS),(4,sL),(59,sD (.list (.st 4))),(60,sI),(61,sI)]
def qI.pr (e:qI):List ByteArray:=e.2.2.2.2.1
def vB.bs (s:vB):List aw:=s.2.1
def vB.put (s:vB) (b:aw):vB:=(s.1,b::s.bs,())
def ai.z0:ai:=⟨⟨#[]⟩,[],0,0,0,0,0,0,0⟩
def ax.z0:ax:=⟨⟨#[]⟩,[],[]⟩
def Hs (e:qI) (v:Mt) (s:vB) (l:List ByteArray):LE z0L z0O []:=.out (e,v,s,l,())
def z0E (e:qI) (v:Mt) (s:vB) (l:List ByteArray) (cs:List ai) (n i:Int) (c:ai):T (LE z0L z0O []):=.nd (oS c) (.nd ((s.bs.length+1)*65≤140737488355328) (.nd ((l.length+1)*17≤140737488355328) (.nd (cN (i+1)) (.lf (.back (e,v,s.put (fl c),c.name::l,cs,n,i+1,()))))))
def z0T (e:qI) (v:Mt) (s:vB) (l:List ByteArray) (cs:List ai) (n i:Int):T (LE z0L z0O []):=.br (decide (i<n)) (.nd (0≤i∧i<cs.length) (z0E e v s l cs n i (cs.getD i.toNat ai.z0))) (.lf (Hs e v s l))
def z0N (s:vB) (l:List ByteArray) (cs:List ai) (n i:Int):Prop:=0≤i∧i≤cs.length∧n=cs.length∧cs.length≤34359738368∧(∀c∈cs,oS c)∧(l.length:Int)=i∧s.bs.length≤3+i
theorem S4:eD S5 0 0 z0L z0O [] fun((e:qI),(v:Mt),(s:vB),(l:List ByteArray),(cs:List ai),(n:Int),(i:Int),_)=>.nd (z0N s l cs n i) (.lf (Hs e v (s.1,((cs.drop i.toNat).map fl).reverse++s.bs,()) (((cs.drop i.toNat).map ai.name).reverse++l))):=by
 refine eG _ (nL _ _) 99 0 0 z0L z0O [] (fun((e:qI),(v:Mt),(s:vB),(l:List ByteArray),(cs:List ai),(n:Int),(i:Int),_)=>z0T e v s l cs n i)
  (fun(_,_,_,_,(cs:List ai),_,(i:Int),_)=>cs.length-i.toNat) ?_
 rintro⟨(e:qI),(v:Mt),(s:vB),(l:List ByteArray),(cs:List ai),(n:Int),(i:Int),_⟩ r _ ⟨⟨h0,h1,rfl,h2,h3,h4,h5⟩,hr⟩;have hr:Hs e v (s.1,((cs.drop i.toNat).map fl).reverse++s.bs,()) (((cs.drop i.toNat).map ai.name).reverse++l)=r:=hr;obtain rfl:=hr;obtain⟨k,rfl⟩:∃k:Nat,i=k:=⟨i.toNat,by omega⟩;rw[aaR];show∃q,(z0T e v s l cs cs.length k).hit q∧_;unfold z0T;by_cases hk:k<cs.length
 ·rw[getD_drop ai.z0 hk,aaR];obtain⟨c,hc⟩:∃c,cs.getD k ai.z0=c:=⟨_,rfl⟩;have hcc:=h3 c (by rw[←hc,aaQ,aac hk];exact abI hk);rw[hc];refine⟨_,aX (decide_eq_true (by omega)) ⟨⟨by omega,by omega⟩,hcc,by omega,by omega,⟨by omega,by omega⟩,rfl⟩,?_,⟨by omega,by omega,rfl,h2,h3,(show((l.length+1:Nat):Int)=(k:Int)+1 by omega),?_⟩,?_⟩
  ·show cs.length-(k+1)<cs.length-k;omega
  ·have:(s.put (fl c)).bs.length=s.bs.length+1:=rfl;omega
  ·show Hs e v (s.1,((cs.drop (k+1)).map fl).reverse++(fl c::s.bs),()) (((cs.drop (k+1)).map ai.name).reverse++(c.name::l))=_;rw[abY,abY,abL,abL,abD,abD];rfl
 ·rw[abg (by omega)];exact⟨_,bg (decide_eq_false (by omega)) rfl,rfl⟩
def Hr (e:qI) (v:Mt) (s:vB):LE z1L z1O []:=.out (e,v,s,())
def z1E (e:qI) (v:Mt) (s:vB) (l:List ByteArray) (cs:List ax) (n i:Int) (y:ax):T (LE z1L z1O []):=.nd (y.prec.length≤1099511627776) (.nd (y.cont.length≤1099511627776) (.nd ((s.bs.length+1)*65≤140737488355328) (.nd (cN (i+1)) (.lf (.back (e,v,s.put (fy e.pr l y),l,cs,n,i+1,()))))))
def z1T (e:qI) (v:Mt) (s:vB) (l:List ByteArray) (cs:List ax) (n i:Int):T (LE z1L z1O []):=.br (decide (i<n)) (.nd (0≤i∧i<cs.length) (z1E e v s l cs n i (cs.getD i.toNat ax.z0))) (.lf (Hr e v s))
def z1N (s:vB) (cs:List ax) (n i:Int):Prop:=0≤i∧i≤cs.length∧n=cs.length∧cs.length≤34359738367∧(∀y∈cs,y.prec.length≤274877906944∧y.cont.length≤274877906944)∧s.bs.length≤34359738371+i
theorem S3:eD S5 1 2 z1L z1O [] fun((e:qI),(v:Mt),(s:vB),(l:List ByteArray),(cs:List ax),(n:Int),(i:Int),_)=>.nd (z1N s cs n i) (.lf (Hr e v (s.1,((cs.drop i.toNat).map (fy e.pr l)).reverse++s.bs,()))):=by
 refine eG _ (nL _ _) 99 1 2 z1L z1O [] (fun((e:qI),(v:Mt),(s:vB),(l:List ByteArray),(cs:List ax),(n:Int),(i:Int),_)=>z1T e v s l cs n i)
  (fun(_,_,_,_,(cs:List ax),_,(i:Int),_)=>cs.length-i.toNat) ?_
 rintro⟨(e:qI),(v:Mt),(s:vB),(l:List ByteArray),(cs:List ax),(n:Int),(i:Int),_⟩ r _ ⟨⟨h0,h1,rfl,h2,h3,h5⟩,hr⟩;have hr:Hr e v (s.1,((cs.drop i.toNat).map (fy e.pr l)).reverse++s.bs,())=r:=hr;obtain rfl:=hr;obtain⟨k,rfl⟩:∃k:Nat,i=k:=⟨i.toNat,by omega⟩;rw[aaR];show∃q,(z1T e v s l cs cs.length k).hit q∧_;unfold z1T;by_cases hk:k<cs.length
 ·rw[getD_drop ax.z0 hk,aaR];obtain⟨y,hy⟩:∃y,cs.getD k ax.z0=y:=⟨_,rfl⟩;obtain⟨WO,R9⟩:=h3 y (by rw[←hy,aaQ,aac hk];exact abI hk);rw[hy];refine⟨_,aX (decide_eq_true (by omega)) ⟨⟨by omega,by omega⟩,by omega,by omega,by omega,⟨by omega,by omega⟩,rfl⟩,?_,⟨by omega,by omega,rfl,h2,h3,?_⟩,?_⟩
  ·show cs.length-(k+1)<cs.length-k;omega
  ·have:(s.put (fy e.pr l y)).bs.length=s.bs.length+1:=rfl;omega
  ·show Hr e v (s.1,((cs.drop (k+1)).map (fy e.pr l)).reverse++(fy e.pr l y::s.bs),())=_;rw[abY,abL,abD];rfl
 ·rw[abg (by omega)];exact⟨_,bg (decide_eq_false (by omega)) rfl,rfl⟩
def zR3 (e:aa):List aw:=[⟨af,⟨#[]⟩,[⟨bY,e.prec,0⟩],0⟩,⟨au,⟨#[]⟩,[gF bZ e.scan,gF cf e.batch],0⟩,⟨aP,⟨#[]⟩,[gF dh e.dots,gF bq e.blank,gF bb e.marked],0⟩]
def zS0 (e:aa):vB:=(e.title,zR3 e,())
def zL (e:aa):List ByteArray:=(((e.cont.drop (Int.toNat 0)).map ai.name).reverse++[]).reverse
def zS1 (e:aa):vB:=(e.title,((e.cont.drop (Int.toNat 0)).map fl).reverse++zR3 e,())
def zB2 (e:aa):List aw:=((e.styl.drop (Int.toNat 0)).map (fy e.prec (zL e))).reverse++(zS1 e).bs
def zF (e:aa):List aw:=⟨aY,⟨#[]⟩,[gF dH e.cell],0⟩::⟨aO,⟨#[]⟩,[⟨bL,[⟨(iE e.risk.q).toArray⟩],0⟩,⟨cM,[e.seed],0⟩],0⟩::zB2 e
def zX (e:aa) (l:List aw):XV:=.agg [.sym (.string e.title),.list (.st 1) l true]
def zT (e:aa):T XV:=.nd (cN e.dots) (.nd (cN e.blank) (.nd (cN e.marked) (.nd (cN e.scan) (.nd (cN e.batch) (.nd (e.prec.length≤1099511627776) (.nd (z0N (zS0 e) [] e.cont e.cont.length 0) (.nd (z1N (zS1 e) e.styl e.styl.length 0)
 (.nd (e.risk.short 67108864) (.nd (cN e.cell) (.nd (((zB2 e).length+2)*65≤140737488355328) (.lf (zX e (zF e).reverse))))))))))))
theorem acm (e:aa):(zF e).reverse=(eW e).blocks:=by
 unfold zF zB2 zS1 zL zR3 eW vB.bs;simp
theorem CN:av Tryz.prog 42 true (aU [(0,.st 5)] fun((e:aa),_)=>.nd (cH e) (.lf (.agg (lJ (.st 2) (eW e))))):=
 (vg (R:=S5) (((nL S5 XN).add 0 _ S4).add 1 _ S3) true 99 [(0,.st 5)] (G:=fun((e:aa),_)=>.nd (cH e) (.lf (zX e (eW e).blocks))) (fun((e:aa),_)=>zT e) (fun⟨(e:aa),_⟩ r hb ⟨h0,h⟩=>by
  obtain rfl:zX e (eW e).blocks=r:=h;have e0:(zB2 e).length=e.styl.length+(e.cont.length+3):=by
   unfold zB2 zS1 vB.bs zR3;simp
  have e1:(zS1 e).bs.length=e.cont.length+3:=by
   unfold zS1 vB.bs zR3;simp
  have l1:=h0.lc;have l2:=h0.ls;have l3:=h0.lp;refine⟨⟨h0.dots,h0.blank,h0.marked,h0.scan,h0.batch,by omega,⟨by omega,aer _,rfl,l1,h0.conts,rfl,by show(3:Int)≤3+0;omega⟩,⟨by omega,aer _,rfl,l2,h0.styls,by rw[e1];omega⟩,h0.short,h0.cell,by rw[e0];omega,?_⟩,.inl rfl⟩;rw[acm];rfl) Tryz.func42).wk
  fun⟨(e:aa),_⟩ r ⟨h0,h⟩=>⟨_,⟨h0,rfl⟩,h⟩
theorem GH:av Tryz.prog 76 false (aU [(0,sL),(1,sL)] fun((xs:List ByteArray),(ys:List ByteArray),_)=>.lf (aB (decide (xs=ys)))):=Q7 (t:=.str) (g:=fun(xs ys:List ByteArray)=>decide (xs=ys)) fun _ _ _ _ _ _ _ xs ys _ h1 h2=>z7 (xs:=xs) (ys:=ys) h1 h2
theorem GJ:av Tryz.prog 77 false (Vb (t:=.st 3) 78 fun(xs ys:List ai)=>ij bi xs ys):=Xm (t:=.st 3) (q:=fun(xs ys:List ai)=>ij bi xs ys) fun _ _ _ _ _ _ _ xs ys _ h1 h2 hS=>BU (xs:=xs) (ys:=ys) h1 h2 hS hS
theorem Lx:av Tryz.prog 79 false (Vb (t:=.st 4) 80 fun(xs ys:List ax)=>ij bB xs ys):=Xm (t:=.st 4) (q:=fun(xs ys:List ax)=>ij bB xs ys) fun _ _ _ _ _ _ _ xs ys _ h1 h2 hS=>GG (xs:=xs) (ys:=ys) h1 h2 hS hS
noncomputable def Cs4:hZ Tryz.prog:=dj uC [⟨_,_,_,GH⟩,⟨_,_,_,GJ⟩,⟨_,_,_,Lx⟩,⟨_,_,_,JA⟩] []
def aap (a b:aa):List Bool:=[a.title.toList==b.title.toList,a.dots==b.dots,a.blank==b.blank,a.marked==b.marked,decide (a.prec=b.prec),ij bi a.cont b.cont,ij bB a.styl b.styl,a.scan==b.scan,a.batch==b.batch]
def alw (a b:aa):T XV:=L9 (.lf (aB false)) (aap a b) (.nd (a.risk.short 67108864∧b.risk.short 67108864) (L9 (.lf (aB false)) [oI a.risk.q b.risk.flip.q==0,a.cell==b.cell] (.lf (aB (a.seed.toList==b.seed.toList)))))
theorem GF (a b:aa):lK a b=((aap a b).all id&&([oI a.risk.q b.risk.flip.q==0,a.cell==b.cell].all id&&(a.seed.toList==b.seed.toList))):=by
 rw[acs];simp only[lK,aap,ab0,aci,id,eE,aba,decide_eq_true_eq,beq_iff_eq,and_assoc,true_and]
theorem Lw:av Tryz.prog 44 false (aU [(0,.st 5),(1,.st 5)] fun((a:aa),(b:aa),_)=>.nd (a.risk.short 67108864∧b.risk.short 67108864) (.lf (aB (lK a b)))):=
 bz (C:=Cs4) (nL _ _) false 99 [(0,.st 5),(1,.st 5)] (fun((a:aa),(b:aa),_)=>alw a b)
  (fun⟨(a:aa),(b:aa),_⟩ r _ ⟨h0,h⟩=>by
   obtain rfl:aB (lK a b)=r:=h;refine⟨?_,.inr rfl⟩;rw[GF];refine su (ret:=.lf (aB false)) (r:=aB) rfl _ fun _=>⟨h0,?_⟩;exact su (ret:=.lf (aB false)) (t:=.lf (aB (a.seed.toList==b.seed.toList))) (r:=aB) rfl _ fun _=>rfl) Tryz.func44
abbrev csV:List CS:=[.mp .s tI,.mp .s (.list .str),.mp .s tI,.d .bool,.d (.list .limb),.d (.list .limb),.d .str]
abbrev sV:SS:=.box 168 csV
abbrev pV:List Nat:=[0]
abbrev VX:=eY csV
abbrev uz (r:XV) (x:VX):XV×VX×Unit:=(r,x,())
noncomputable def M8 (t:TypeId):Option Ty:=List.lookup t [(9,.str),(3,tI),(4,.bool),(22,.list .str)]
noncomputable def CV1:hZ Tryz.prog:=dj M8 [⟨_,_,_,ID⟩,⟨_,_,_,Vq⟩,⟨_,_,_,Qp⟩,⟨_,_,_,JA⟩] []
def VX.setR (x:VX) (r:Raw):VX:=(x.1,x.2.1,x.2.2.1,r.neg,r.num,r.den,x.2.2.2.2.2.2)
def VX.wr (x:VX):Option Raw→VX
 | none=>x
 | some r=>x.setR r
def szB (s:ByteArray):Prop:=s.size≤9223372036854775807
def SI (l:List UInt8):ByteArray:=⟨l.toArray⟩
def aiz (x:VX) (s:ByteArray):T (XV×VX×Unit):=
 .nd (szB s∧(⟨#[47]⟩:ByteArray)=⟨#[47]⟩) (.nd (szB (SI (ed s.data.toList))) (.nd (szB (SI (dO s.data.toList)))
 (.br (!(cz (ed s.data.toList)).2) (.lf (uz (aI 5) x)) (.br (!(cz (dO s.data.toList)).2) (.lf (uz (aI 5) x)) (.nd (cN (cz (ed s.data.toList)).1∧cN (cz (dO s.data.toList)).1)
 (.br ((cz (dO s.data.toList)).1==0) (.lf (uz (aI 4) x)) (.nd (cN 1∧cN 1000) (.nd ((fN (cz (ed s.data.toList)).1 (cz (dO s.data.toList)).1).raw.short 67108864∧(fN 1 1000).raw.short 67108864)
 (.br (decide (pD (fN (cz (ed s.data.toList)).1 (cz (dO s.data.toList)).1) (fN 1 1000)<0)) (.lf (uz (aI 4) x)) (.nd (cN 1∧cN 2) (.nd ((fN (cz (ed s.data.toList)).1 (cz (dO s.data.toList)).1).raw.short 67108864∧(fN 1 2).raw.short 67108864)
 (.br (decide (pD (fN (cz (ed s.data.toList)).1 (cz (dO s.data.toList)).1) (fN 1 2)>0)) (.lf (uz (aI 4) x)) (.lf (uz (aI 0) (x.setR (fN (cz (ed s.data.toList)).1 (cz (dO s.data.toList)).1).raw)))))))))))))))
theorem aaG (l:List UInt8):(ed l).length≤l.length∧(dO l).length≤l.length:=by
 unfold ed dO;have h:=congrArg List.length (List.takeWhile_append_dropWhile (p:=(· !=47)) (l:=l));rw[abm] at h;rw[abW];omega
theorem mZ {a b:Int} (ha:cN a) (hb:cN b):(fN a b).raw.short 67108864:=by
 unfold cN at ha hb;obtain⟨h1,h2⟩:=zk (decide (a<0) !=decide (b<0)) a.natAbs b.natAbs (by omega) (by omega);exact⟨abk h1 (by decide),abk h2 (by decide)⟩
theorem MY {s:ByteArray} {l:List UInt8} (h:szB s) (hl:l.length≤s.data.toList.length):szB (SI l):=by
 unfold szB SI at*;have:s.size=s.data.toList.length:=abC.symm;show l.toArray.size≤_;rw[abM];omega
theorem IC (l:List UInt8):cN (cz l).1:=by have:=iy l;unfold cN;omega
theorem NA:gh Tryz.prog 149 pV [(0,sV),(1,sS)] [(0,sV)] fun((x:VX),(s:ByteArray),_)=>.nd (szB s) (.lf (uz (aI (iW s.data.toList).1) (x.wr (iW s.data.toList).2))):=
 kJ (C:=CV1) (nL _ _) 99 [(0,sV),(1,sS)] [(0,sV)] (fun((x:VX),(s:ByteArray),_)=>aiz x s) (fun⟨(x:VX),(s:ByteArray),_⟩ r _ ⟨hs,h⟩=>by
  obtain rfl:uz (aI (iW s.data.toList).1) (x.wr (iW s.data.toList).2)=r:=h;have hc:=aaG s.data.toList;have i1:=IC (ed s.data.toList);have i2:=IC (dO s.data.toList);have one:cN 1∧cN 1000:=by unfold cN;omega
  have two:cN 1∧cN 2:=by unfold cN;omega
  refine⟨⟨hs,rfl⟩,MY hs hc.1,MY hs hc.2,?_⟩;unfold iW;by_cases h1:(cz (ed s.data.toList)).2=false
  ·exact aX (by rw[h1];rfl) (by rw[h1];rfl)
  by_cases h2:(cz (dO s.data.toList)).2=false
  ·exact bg (by simpa using h1) (aX (by rw[h2];rfl) (by rw[h2,adz];rfl))
  rw[if_neg (by simp[h1,h2])];refine bg (by simpa using h1) (bg (by simpa using h2) ⟨⟨i1,i2⟩,?_⟩);by_cases h3:(cz (dO s.data.toList)).1=0
  ·rw[if_pos (.inl h3)];exact aX (by rw[h3];rfl) rfl
  refine bg (beq_false_of_ne h3) ⟨one,⟨mZ i1 i2,mZ one.1 one.2⟩,?_⟩;by_cases h4:pD (fN (cz (ed s.data.toList)).1 (cz (dO s.data.toList)).1) (fN 1 1000)<0
  ·rw[if_pos (.inr (.inl h4))];exact aX (decide_eq_true h4) rfl
  refine bg (decide_eq_false h4) ⟨two,⟨mZ i1 i2,mZ two.1 two.2⟩,?_⟩;by_cases h5:0<pD (fN (cz (ed s.data.toList)).1 (cz (dO s.data.toList)).1) (fN 1 2)
  ·rw[if_pos (.inr (.inr h5))];exact aX (decide_eq_true h5) rfl
  ·rw[if_neg (fun q=>q.elim h3 fun q=>q.elim h4 h5)];exact bg (decide_eq_false h5) rfl) Tryz.func149
def VX.setN (x:VX) (k:ByteArray) (v:Int):VX:=((x.1.1+1,mT .s x.1.2 k v),x.2)
def VX.num (x:VX) (k:ByteArray):Int:=(x.1.2 k).getD (0:Int)
def VX.setS (x:VX) (s:ByteArray):VX:=(x.1,x.2.1,x.2.2.1,x.2.2.2.1,x.2.2.2.2.1,x.2.2.2.2.2.1,s,())
def VX.v (x:VX):aC:=⟨x.1.2,x.2.1.2,x.2.2.1.2,⟨x.2.2.2.1,x.2.2.2.2.1,x.2.2.2.2.2.1⟩,x.2.2.2.2.2.2.1⟩
def I5 (k:ByteArray) (x:VX):Prop:=Kt.ok .s k∧x.1.1<1000000000000
def ai1 (x:VX) (k s:ByteArray):T (XV×VX×Unit):=
 .br (!((bc k).isEmpty)) (.nd (cN (Lib.idxOfS (bc k) s+1)) (.nd (I5 k x) (.nd (Kt.ok .s k) (.br ((x.setN k (Lib.idxOfS (bc k) s+1)).num k==0) (.lf (uz (aI 2) (x.setN k (Lib.idxOfS (bc k) s+1)))) (.lf (uz (aI 0) (x.setN k (Lib.idxOfS (bc k) s+1))))))))
 (.br (k.toList==bL.toList) (.nd (szB s) (.lf (uz (aI (iW s.data.toList).1) (x.wr (iW s.data.toList).2))))
 (.br (k.toList==cM.toList) (.nd (dP s) (.br (!(dK s 0 24)) (.lf (uz (aI 8) x)) (.lf (uz (aI 0) (x.setS s)))))
 (.nd (szB s) (.br (!(cz s.data.toList).2) (.lf (uz (aI 5) x)) (.br (decide ((cz s.data.toList).1<(fx k).1)) (.lf (uz (aI 4) x)) (.br (decide ((cz s.data.toList).1>(fx k).2)) (.lf (uz (aI 4) x)) (.nd (I5 k x) (.lf (uz (aI 0) (x.setN k (cz s.data.toList).1))))))))))
noncomputable def CV2:hZ Tryz.prog:=dj M8 [⟨_,_,_,ID⟩,⟨_,_,_,EH⟩,⟨_,_,_,Ja⟩,⟨_,_,_,ze⟩,⟨_,_,_,VF⟩] [⟨_,_,_,_,_,NA⟩]
def oi (k s:ByteArray) (x:VX):Int×VX:=
 if bc k≠[] then(if Lib.idxOfS (bc k) s+1=0 then 2 else 0,x.setN k (Lib.idxOfS (bc k) s+1))
 else if k=bL then((iW s.data.toList).1,x.wr (iW s.data.toList).2)
 else if k=cM then(if dK s 0 24 then(0,x.setS s) else(8,x))
 else if(cz s.data.toList).2=false then(5,x)
 else if(cz s.data.toList).1<(fx k).1∨(fx k).2<(cz s.data.toList).1 then(4,x)
 else(0,x.setN k (cz s.data.toList).1)
theorem KH {α:Type} (f:ByteArray→Option α) (k:ByteArray) (v:α):mT .s f k v=setF f k v:=by
 funext t
 by_cases h:t=k
 ·exact(if_pos (Kt.eqb_iff.2 h)).trans (if_pos h).symm
 ·exact(if_neg fun e=>h (Kt.eqb_iff.1 e)).trans (if_neg h).symm
theorem VX.v_setN (x:VX) (k:ByteArray) (v:Int):(x.setN k v).v={ x.v with num:=setF x.v.num k v }:=
 congrArg (fun f:ByteArray→Option Int=>(⟨f,x.2.1.2,x.2.2.1.2,⟨x.2.2.2.1,x.2.2.2.2.1,x.2.2.2.2.2.1⟩,x.2.2.2.2.2.2.1⟩:aC)) (KH x.1.2 k v)
theorem VX.num_setN (x:VX) (k:ByteArray) (v:Int):(x.setN k v).num k=v:=congrArg (·.getD (0:Int)) (gO (kt:=.s))
theorem VX.v_wr (x:VX) (r:Option Raw):(x.wr r).v=x.v.withRisk r:=by cases r<;>rfl
theorem Yz (k s:ByteArray) (x:VX):yz k s x.v=((oi k s x).1,(oi k s x).2.v):=by
 unfold yz oi;split
 ·rw[VX.v_setN]
 split
 ·rw[VX.v_wr]
 split
 ·split<;>rfl
 split
 ·rfl
 split
 ·rfl
 ·rw[VX.v_setN]
theorem dP.szB {s:ByteArray} (h:dP s):szB s:=abk h (by decide)
theorem Od (k s:ByteArray) (x:VX):(oi k s x).2.1.1≤x.1.1+1∧(oi k s x).2.2.1=x.2.1∧(oi k s x).2.2.2.1=x.2.2.1:=by
 have hw:∀r:Option Raw,(x.wr r).1.1≤x.1.1+1∧(x.wr r).2.1=x.2.1∧(x.wr r).2.2.1=x.2.2.1:=fun r=>by cases r<;>exact⟨Nat.le_succ _,rfl,rfl⟩
 have h0:x.1.1≤x.1.1+1∧x.2.1=x.2.1∧x.2.2.1=x.2.2.1:=⟨Nat.le_succ _,rfl,rfl⟩;unfold oi;split
 ·exact⟨abi _,rfl,rfl⟩
 split
 ·exact hw _
 split
 ·split<;>exact h0
 split
 ·exact h0
 split
 ·exact h0
 ·exact⟨abi _,rfl,rfl⟩
theorem Tx:gh Tryz.prog 125 pV [(0,sV),(1,sS),(2,sS)] [(0,sV)] fun((x:VX),(k:ByteArray),(s:ByteArray),_)=>.nd (I5 k x∧dP s) (.lf (uz (aI (oi k s x).1) (oi k s x).2)):=
 kJ (C:=CV2) (nL _ _) 99 [(0,sV),(1,sS),(2,sS)] [(0,sV)] (fun((x:VX),(k:ByteArray),(s:ByteArray),_)=>ai1 x k s) (fun⟨(x:VX),(k:ByteArray),(s:ByteArray),_⟩ r _ ⟨⟨hk,hs⟩,h⟩=>by
  obtain rfl:uz (aI (oi k s x).1) (oi k s x).2=r:=h;unfold oi;by_cases h1:bc k=[]
  ·rw[if_neg (by simp[h1])];refine bg (by rw[h1];rfl) ?_;by_cases h2:k=bL
   ·rw[if_pos h2];exact aX (by rw[h2];simp) ⟨hs.szB,rfl⟩
   refine bg (by rw[eE];exact decide_eq_false h2) ?_;rw[if_neg h2];by_cases h3:k=cM
   ·rw[if_pos h3];refine aX (by rw[h3];simp) ⟨hs,?_⟩;cases h4:dK s 0 24
    ·exact aX rfl rfl
    ·exact bg rfl rfl
   refine bg (by rw[eE];exact decide_eq_false h3) ⟨hs.szB,?_⟩;rw[if_neg h3];by_cases h4:(cz s.data.toList).2=false
   ·rw[if_pos h4];exact aX (by rw[h4];rfl) rfl
   refine bg (by simpa using h4) ?_;rw[if_neg h4];by_cases h5:(cz s.data.toList).1<(fx k).1
   ·rw[if_pos (.inl h5)];exact aX (decide_eq_true h5) rfl
   refine bg (decide_eq_false h5) ?_;by_cases h6:(fx k).2<(cz s.data.toList).1
   ·rw[if_pos (.inr h6)];exact aX (decide_eq_true h6) rfl
   ·rw[if_neg (fun q=>q.elim h5 h6)];exact bg (decide_eq_false h6) ⟨hk,rfl⟩
  ·rw[if_pos h1];refine aX (by simpa using h1) ⟨by have:=ue k s;unfold cN;omega,hk,hk.1,?_⟩;rw[VX.num_setN];by_cases h2:Lib.idxOfS (bc k) s+1=0
   ·rw[if_pos h2];exact aX (by rw[h2];rfl) rfl
   ·rw[if_neg h2];exact bg (beq_false_of_ne h2) rfl) Tryz.func125
end Go.Proofs.YtjlhbfbdcfajfaaGreatDoor
