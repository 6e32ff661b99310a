/- MRun Tm1 Okd Ef1 Ef2 Ef3 Ef4 Tp1 -/
import Derived.Test.YtdbpbfglhbiadaaGreatDoorL00
import Derived.Test.YtdbpbfglhbiadaaGreatDoorL30
import Derived.Test.YtdbpbfglhbiadaaGreatDoorProg
import Derived.Lib.SlicesS
import Derived.Test.YtdbpbfglhbiadaaGreatDoorL11
import Derived.Test.YtdbpbfglhbiadaaGreatDoorL05
import Derived.Test.YtdbpbfglhbiadaaGreatDoorL13
import Derived.Test.YtdbpbfglhbiadaaGreatDoorL14
set_option maxHeartbeats 8000000
set_option maxRecDepth 100000
namespace Go.Proofs.YtdbpbfglhbiadaaGreatDoor
open Go Go.RowKit
def bd (f:Func):Code:=f.body.getD .skip
def abz (c:Code):Code:=match c with
 | .loop b=>b
 | _=>.skip
def aen (f:Func) (k:Nat):Code:=abz ((kQ (bd f))[k]?.getD .skip)
abbrev sD (t:Ty):SS:=.c (.d t)
abbrev sI:SS:=sD tI
abbrev sS:SS:=sD .str
abbrev sB:SS:=sD .bool
abbrev sL:SS:=sD (.list .str)
abbrev aI (n:Int):XV:=.one (.sym (.int .i64 n))
abbrev aB (b:Bool):XV:=.one (.sym (.bool b))
abbrev aS (s:ByteArray):XV:=.one (.sym (.string s))
def TJ (v:Int):Bool:=decide (0≤v)
abbrev vI {P:Program} (C:ik P) (f:Func):Rg P f.ntmps:=Xv C f.ntmps f [] true (.inl rfl)
abbrev LU {P:Program} (C:ik P) (f:Func) (pb:List Nat):Rg P f.ntmps:=Xv C f.ntmps f pb false (.inr rfl)
abbrev fRg {P:Program} (C:ik P) (f:Func) (pb:List Nat) (tb:List (Nat×List Nat)):Rg P f.ntmps:=Qw (LU C f pb) tb
abbrev nL {P:Program} {m:Nat} (R:Rg P m) (f:Func):Cq P R.fn m R.pb (kQ (bd f)):=noL _ _ _ _ _
theorem TW {b:Code}:∀{c:Code} {k:Nat},(kQ c)[k]?=some (.loop b)→∀(j:Nat) (x:Code),(kQ b)[j]?=some x→(kQ c)[k+1+j]?=some x:=by
 intro c;have two:∀{l1 l2:List Code} {k:Nat},(∀{k:Nat},l1[k]?=some (.loop b)→∀(j:Nat) (x:Code),(kQ b)[j]?=some x→l1[k+1+j]?=some x)→(∀{k:Nat},l2[k]?=some (.loop b)→∀(j:Nat) (x:Code),(kQ b)[j]?=some x→l2[k+1+j]?=some x)→(l1++l2)[k]?=some (.loop b)→∀(j:Nat) (x:Code),(kQ b)[j]?=some x→(l1++l2)[k+1+j]?=some x:=by
  intro l1 l2 k h1 h2 h j x hj;by_cases hk:k<l1.length
  ·rw[aaz hk] at h;have:=h1 h j x hj;rw[aaz (aag.1 this).1];exact this
  ·rw[aam (by omega)] at h;have:=h2 h j x hj;rw[aam (by omega),show k+1+j-l1.length=k-l1.length+1+j by omega];exact this
 induction c with
 | seq x y hx hy=>intro k h;exact two hx hy h
 | cond q x y hx hy=>intro k h;exact two hx hy h
 | block i x hx=>intro k h;exact hx h
 | loop x hx=>
  intro k h j y hj;cases k with
  | zero=>
   injection h with h
   injection h with h
   subst h;rw[ab7,adn];exact hj
  | succ k=>
   have:=hx (k:=k) (by simpa[kQ] using h) j y hj;rw[show k+1+1+j=(k+1+j)+1 by omega];exact this
 | _=>intro k h;cases h
def eS {P:Program} {f:Func} (R:Rg P f.ntmps) (k d:Nat) (l lo lr:List (Nat×SS)) (G:cF l→T (LE l lo lr)):Prop:=∀c,(kQ (bd f))[k]?=some c→Ct P R.fn f.ntmps R.pb c (lpT R.pb d l lo lr G)
theorem eY {P:Program} {f:Func} (R:Rg P f.ntmps) (L:Cq P R.fn f.ntmps R.pb (kQ (bd f))) (n k d:Nat) (l lo lr:List (Nat×SS)) (B:cF l→T (LE l lo lr)) {G:cF l→T (LE l lo lr)} (μ:cF l→Nat) (dp:∀x r,MM l x→(G x).hit r→∃q,(B x).hit q∧match q with|.back x'=>μ x'<μ x∧(G x').hit r|q=>q=r) (hB:∀x,rdT R L n k d (aen f k) l lo lr x=B x:=by intro x;kernel_rfl) (hk:(kQ (bd f))[k]?=some (.loop (aen f k)):=by kernel_rfl):eS R k d l lo lr G:=by
 intro c hc;rw[hk] at hc;obtain rfl:=aal hc;exact aem R L (n:=n) (k:=k) μ (TW hk) fun x r h0 h=>by rw[hB];exact dp x r h0 h
theorem bC {P:Program} {f:FuncId} {fn:Func} {C:ik P} (L:Cq P (vI C fn).fn fn.ntmps (vI C fn).pb (kQ (bd fn))) (al:Bool) (n:Nat) (l0:List (Nat×SS)) (B:cF l0→T XV) {G:cF l0→T XV} (h:∀x r,MM l0 x→(G x).hit r→(B x).hit r∧(al=true∨r.plain=true)) (hf:P.funcs[f]?=some fn) (hB:∀x,fnT (vI C fn) L n (bd fn) l0 x=B x:=by intro x;kernel_rfl) (BR:l0.length≤fn.ntmps:=by decide) (hb:fn.body=some (bd fn):=by rfl):av P f al (aU l0 G):=
 pure_ok (vI C fn) L rfl rfl hf hb rfl al n l0 G BR fun x r h0 h1=>by rw[hB];exact h x r h0 h1
theorem kM {P:Program} {f:FuncId} {fn:Func} {C:ik P} {pb:List Nat} (L:Cq P (LU C fn pb).fn fn.ntmps (LU C fn pb).pb (kQ (bd fn))) (n:Nat) (l0 lr:List (Nat×SS)) (B:cF l0→T (XV×cF lr)) {G:cF l0→T (XV×cF lr)} (h:∀x r,MM l0 x→(G x).hit r→(B x).hit r) (hf:P.funcs[f]?=some fn) (hB:∀x,fnE (LU C fn pb) L n (bd fn) l0 lr x=B x:=by intro x;kernel_rfl) (nT:pb≠[]:=by decide) (BR:l0.length≤fn.ntmps:=by decide) (hb:fn.body=some (bd fn):=by rfl):gi P f pb l0 lr G:=
 GY (LU C fn pb) L rfl nT hf hb rfl n l0 lr G BR fun x r h0 h1=>by rw[hB];exact h x r h0 h1
theorem abe {P:Program} {f:FuncId} {fn:Func} {C:ik P} {pb:List Nat} (tb:List (Nat×List Nat)) (L:Cq P (fRg C fn pb tb).fn fn.ntmps (fRg C fn pb tb).pb (kQ (bd fn))) (n:Nat) (l0 lr:List (Nat×SS)) (B:cF l0→T (XV×cF lr)) {G:cF l0→T (XV×cF lr)} (h:∀x r,MM l0 x→(G x).hit r→(B x).hit r) (hf:P.funcs[f]?=some fn) (hB:∀x,fnE (fRg C fn pb tb) L n (bd fn) l0 lr x=B x:=by intro x;kernel_rfl) (nT:pb≠[]:=by decide) (BR:l0.length≤fn.ntmps:=by decide) (hb:fn.body=some (bd fn):=by rfl):gi P f pb l0 lr G:=
 GY (fRg C fn pb tb) L rfl nT hf hb rfl n l0 lr G BR fun x r h0 h1=>by rw[hB];exact h x r h0 h1
theorem QL {P:Program} {f:FuncId} {fn:Func} {R:Rg P fn.ntmps} (L:Cq P R.fn fn.ntmps R.pb (kQ (bd fn))) (n:Nat) (l0 lr:List (Nat×SS)) (B:cF l0→T (XV×cF lr)) {G:cF l0→T (XV×cF lr)} (h:∀x r,MM l0 x→(G x).hit r→(B x).hit r) (hf:P.funcs[f]?=some fn) (hB:∀x,fnE R L n (bd fn) l0 lr x=B x:=by intro x;kernel_rfl) (U2:R.fn=fn:=by rfl) (nT:R.pb≠[]:=by decide) (BR:l0.length≤fn.ntmps:=by decide) (hb:fn.body=some (bd fn):=by rfl):gi P f R.pb l0 lr G:=
 GY R L U2 nT hf hb rfl n l0 lr G BR fun x r h0 h1=>by rw[hB];exact h x r h0 h1
theorem vF {P:Program} {f:FuncId} {fn:Func} {R:Rg P fn.ntmps} (L:Cq P R.fn fn.ntmps R.pb (kQ (bd fn))) (al:Bool) (n:Nat) (l0:List (Nat×SS)) (B:cF l0→T XV) {G:cF l0→T XV} (h:∀x r,MM l0 x→(G x).hit r→(B x).hit r∧(al=true∨r.plain=true)) (hf:P.funcs[f]?=some fn) (hB:∀x,fnT R L n (bd fn) l0 x=B x:=by intro x;kernel_rfl) (U2:R.fn=fn:=by rfl) (nT:R.pb=[]:=by rfl) (BR:l0.length≤fn.ntmps:=by decide) (hb:fn.body=some (bd fn):=by rfl):av P f al (aU l0 G):=
 pure_ok R L U2 nT hf hb rfl al n l0 G BR fun x r h0 h1=>by rw[hB];exact h x r h0 h1
noncomputable def shut {α:Type} (a:α):α:=Classical.choose (⟨a,rfl⟩:∃b,b=a)
theorem mT {α:Type} (a:α):shut a=a:=Classical.choose_spec (⟨a,rfl⟩:∃b,b=a)
theorem aZ {α:Type} {b:Bool} {x y:T α} {r:α} (hb:b=true) (h:x.hit r):(T.br b x y).hit r:=⟨fun _=>h,fun e=>by rw[hb] at e;cases e⟩
theorem bh {α:Type} {b:Bool} {x y:T α} {r:α} (hb:b=false) (h:y.hit r):(T.br b x y).hit r:=⟨(fun e=>by rw[hb] at e;cases e),fun _=>h⟩
theorem hB {α:Type} {b:Bool} {x y:T α} {r:α} (h:(T.br b x y).hit r):(b=true∧x.hit r)∨(b=false∧y.hit r):=by
 cases b with
 | true=>exact .inl ⟨rfl,h.1 rfl⟩
 | false=>exact .inr ⟨rfl,h.2 rfl⟩
theorem av.imp {P:Program} {f:FuncId} {al:Bool} {l0:List (Nat×SS)} {F G:cF l0→T XV} (h:av P f al (aU l0 F)) (hi:∀x r,(G x).hit r→∃q,(F x).hit q∧∀(w:World) (S:Nat→Prop) (v:Value),XR [] w S q v→XR [] w S r v):av P f al (aU l0 G):=fun w S xs vs r hW hS hx hr=>by
 unfold aU at hr;split at hr
 ·rename_i x ji;split at hr
  ·rename_i hl;obtain⟨q,h1,h2⟩:=hi x r hr;refine Calls.mono (h w S xs vs q hW hS hx (by unfold aU;rw[ji];simp only[hl,if_true];exact h1)) fun e w' ⟨v,S',e1,e2,e3,e4⟩=>⟨v,S',e1,e2,e3,h2 _ _ _ e4⟩
  ·exact hr.elim
 ·exact hr.elim
def wkA:AV→AV
 | .list t xs _=>.list t xs false
 | a=>a
def Mw:XV→XV
 | .one a=>.one (wkA a)
 | .agg cs=>.agg (cs.map wkA)
 | .tup l=>.tup (l.map fun p=>(p.1,p.2.map wkA))
theorem FK {bs:List Value} {w:World} {S:Nat→Prop} {x:AV} {v:Value} (h:VR bs w S x v):VR bs w S (wkA x) v:=by
 cases x with
 | list t xs q=>obtain⟨A,n,c,h1,h2,_⟩:=h;exact⟨A,n,c,h1,h2,fun e=>by cases e⟩
 | _=>exact h
theorem AP {bs:List Value} {w:World} {S:Nat→Prop} {x:XV} {v:Value} (h:XR bs w S x v):XR bs w S (Mw x) v:=by
 have hc:∀{ag:Bool} {cs:List AV} {v:Value},CR bs w S ag cs v→CR bs w S ag (cs.map wkA) v:=by
  intro ag cs v h;unfold CR at h ⊢;cases ag with
  | true=>obtain⟨vs,e,h⟩:=h;exact⟨vs,e,h.mapL fun _ _ _ h=>FK h⟩
  | false=>obtain⟨a,rfl,h⟩:=h;exact⟨_,rfl,FK h⟩
 cases x with
 | one b=>exact FK h
 | agg cs=>exact hc (ag:=true) h
 | tup l=>obtain⟨vs,e,h⟩:=h;exact⟨vs,e,h.mapL fun _ _ _ h=>hc h⟩
theorem av.wk {P:Program} {f:FuncId} {al:Bool} {l0:List (Nat×SS)} {F G:cF l0→T XV} (h:av P f al (aU l0 F)) (hi:∀x r,(G x).hit r→∃q,(F x).hit q∧Mw q=r):av P f al (aU l0 G):=h.imp fun x r hr=>by
 obtain⟨q,h1,rfl⟩:=hi x r hr;exact⟨q,h1,fun w S v h=>AP h⟩
theorem Rc {P:Program} {f:FuncId} {t:Ty} {g:List (El t)→List (El t)→Bool} (h:∀(S:Nat→Prop) (A:Option Addr) (n c:Nat) (A2:Option Addr) (n2 c2:Nat) (xs ys:List (El t)) (w:World),RS w S A n c xs→RS w S A2 n2 c2 ys→Calls P f #[.slice A n c,.slice A2 n2 c2] w (yt w (.bool (g xs ys)))):av P f false (aU [(0,sD (.list t)),(1,sD (.list t))] fun((xs:List (El t)),(ys:List (El t)),_)=>.lf (aB (g xs ys))):=
 gH fun w S x vs r hS he hl hr=>by
  obtain⟨(xs:List (El t)),(ys:List (El t)),_⟩:=x;obtain⟨v,h1,A,q,c,h2,h3,_⟩:=he 0 (.one (.list t xs false)) aaw;obtain⟨v',jj,A2,q2,c2,CF,LF,_⟩:=he 1 (.one (.list t ys false)) (aaN _ aaw);obtain rfl:=hr
  match vs,hl,h1,jj with
  | [u,u'],_,h1,jj=>
   injection h1 with h1
   injection jj with jj
   subst h1 jj h2 CF;exact Calls.mono (h S A q c A2 q2 c2 xs ys w h3 LF) fun e w' ⟨e1,n,e2⟩=>⟨_,fun _=>False,e1,e2▸below_drewN (Below.refl _ _) n,fun _ q=>q.elim,rfl,rfl⟩
def Vi {t:Ty} (g:FuncId) (q:List (El t)→List (El t)→Bool) (xs:List XV):T XV:=match xs with
 | [x,y,.one (.val (.func (.func k) a b))]=>if k=g∧a.size=0∧b.size=0 then aU [(0,sD (.list t)),(1,sD (.list t))] (fun((xs:List (El t)),(ys:List (El t)),_)=>.lf (aB (q xs ys))) [x,y] else .bad
 | _=>.bad
theorem Xp {P:Program} {f g:FuncId} {t:Ty} {q:List (El t)→List (El t)→Bool} (h:∀(S:Nat→Prop) (A:Option Addr) (n c:Nat) (A2:Option Addr) (n2 c2:Nat) (xs ys:List (El t)) (w:World),RS w S A n c xs→RS w S A2 n2 c2 ys→(∀b,S b→b<w.heap.size)→Calls P f #[.slice A n c,.slice A2 n2 c2,.func (.func g) #[] #[]] w (jZ w (.bool (q xs ys)))):av P f false (Vi (t:=t) g q):=by
 intro w S xs vs r hW hS hx hr;unfold Vi at hr;split at hr
 ·rename_i x y k a b;split at hr
  ·rename_i hc;obtain⟨rfl,ha,hb⟩:=hc;obtain rfl:=acf ha;obtain rfl:=acf hb;cases hx with
   | cons h1 hx=>cases hx with
    | cons h2 hx=>cases hx with
     | cons h3 hx=>
      cases hx
      obtain rfl:_=Value.func (.func k) #[] #[]:=h3.1;obtain⟨⟨(xs:List (El t)),(ys:List (El t)),_⟩,he,hl,hr⟩:=E8 hW hS (.cons h1 (.cons h2 .nil)) hr;obtain⟨v,g1,A,n,c,g2,g3,_⟩:=he 0 (.one (.list t xs false)) aaw;obtain⟨v',g1',A2,n2,c2,g2',g3',_⟩:=he 1 (.one (.list t ys false)) (aaN _ aaw);obtain rfl:=hr;injection g1 with g1
      injection g1' with g1'
      subst g1 g1' g2 g2';exact Calls.mono (h S A n c A2 n2 c2 xs ys w g3 g3' hS) fun e w' e1=>⟨_,fun _=>False,e1.1,e1.2,fun _ q=>q.elim,rfl,rfl⟩
  ·exact hr.elim
 ·exact hr.elim
def Hb {α:Type} (ret:T α):List Bool→T α→T α
 | [],t=>t
 | b::l,t=>.br (!b) ret (Hb ret l t)
theorem EY {α:Type} {ret t:T α} {r:α} (h:t.hit r):∀(l:List Bool),l.all id=true→(Hb ret l t).hit r
 | [],_=>h
 | b::l,hl=>by
  rw[acG,aaI] at hl;exact bh (by rw[show b=true from hl.1];rfl) (EY h l hl.2)
theorem JJ {α:Type} {ret t:T α} {r:α} (h:ret.hit r):∀(l:List Bool),l.all id=false→(Hb ret l t).hit r
 | b::l,hl=>by
  cases b with
  | false=>exact aZ rfl h
  | true=>exact bh rfl (JJ h l hl)
def Mp {α:Type} (ret:T α):List Bool→T α→T α
 | [],t=>t
 | b::l,t=>.br b (Mp ret l t) ret
theorem sY {α:Type} {ret t:T α} {r:Bool→α} (hr:ret.hit (r false)) {y:Bool}:∀(l:List Bool),(l.all id=true→t.hit (r y))→(Mp ret l t).hit (r (l.all id&&y))
 | [],h=>h rfl
 | b::l,h=>by
  cases b with
  | false=>exact bh rfl hr
  | true=>exact aZ rfl (sY hr l fun hl=>h hl)
noncomputable def uT (t:TypeId):Option Ty:=List.lookup t [(9,.str),(3,tI)]
noncomputable def C0:ik Tryz.prog:=dE uT [] []
theorem eG {x y:ByteArray}:(x.toList==y.toList)=decide (x=y):=by
 have e:∀a:ByteArray,a.toList=a.data.toList:=ByteArray.toList_eq;rw[e,e];by_cases h:x=y
 ·subst h;simp
 ·rw[decide_eq_false h,beq_eq_false_iff_ne];intro h2;exact h (by cases x;cases y;simp at h2;rw[h2])
theorem getD_drop {α:Type} {xs:List α} {i:Nat} (d:α) (h:i<xs.length):xs.drop i=xs.getD i d::xs.drop (i+1):=by
 rw[aai,aae h];exact List.drop_eq_getElem_cons h
theorem Ve:eS (vI C0 Tryz.f64) 0 0 [(0,sL),(1,sS),(5,sI)] [] [] fun((xs:List ByteArray),(s:ByteArray),(i:Int),_)=>
 .nd (0≤i∧i≤xs.length) (.br (TJ (Lib.idxFromS (xs.drop i.toNat) s i.toNat)) (.lf (.ret (aI (Lib.idxFromS (xs.drop i.toNat) s i.toNat)) ())) (.lf (.out ()))):=by
  refine eY _ (nL _ _) 99 0 0 [(0,sL),(1,sS),(5,sI)] [] [] (fun((xs:List ByteArray),(s:ByteArray),(i:Int),_)=>.br (decide (i<xs.length)) (.nd (0≤i∧i<xs.length) (.br ((xs.getD i.toNat ⟨#[]⟩).toList==s.toList) (.lf (.ret (aI i) ())) (.nd (cf (i+1)) (.lf (.back (xs,s,i+1,())))))) (.lf (.out ())))
   (fun((xs:List ByteArray),_,(i:Int),_)=>xs.length-i.toNat) ?_
  rintro⟨(xs:List ByteArray),(s:ByteArray),(i:Int),_⟩ r ⟨hl,_⟩ ⟨⟨h0,h1⟩,h⟩;have hl:xs.length≤9223372036854775807:=hl;obtain⟨k,rfl⟩:∃k:Nat,i=k:=⟨i.toNat,by omega⟩;simp only[aak,eG] at h ⊢;by_cases hi:k<xs.length
  ·rw[getD_drop ⟨#[]⟩ hi] at h;unfold Lib.idxFromS at h;by_cases hx:xs.getD k ⟨#[]⟩=s
   ·rw[if_pos hx] at h;exact⟨_,aZ (decide_eq_true (by omega)) ⟨⟨by omega,by omega⟩,aZ (decide_eq_true hx) rfl⟩,((hB h).resolve_right fun q=>by have:=q.1;simp[TJ] at this).2⟩
   ·rw[if_neg hx] at h;exact⟨_,aZ (decide_eq_true (by omega)) ⟨⟨by omega,by omega⟩,bh (decide_eq_false hx) ⟨⟨by omega,by omega⟩,rfl⟩⟩,by show xs.length-(k+1)<xs.length-k;omega,⟨by omega,by omega⟩,h⟩
  ·rw[aaL (by omega)] at h;exact⟨_,bh (decide_eq_false (by omega)) rfl,((hB h).resolve_left fun q=>by have:=q.1;simp[TJ,Lib.idxFromS] at this).2⟩
theorem mZ:∀(xs:List ByteArray) (s:ByteArray) (i:Nat),0≤Lib.idxFromS xs s i∨Lib.idxFromS xs s i= -1
 | [],_,_=>.inr rfl
 | x::l,s,i=>by
  unfold Lib.idxFromS;split
  ·exact .inl (by omega)
  ·exact mZ l s (i+1)
theorem find_ok:av Tryz.prog 64 false (aU [(0,sL),(1,sS)] fun((xs:List ByteArray),(s:ByteArray),_)=>.lf (aI (Lib.idxOfS xs s))):=
 bC (C:=C0) ((nL _ _).add 0 _ Ve) false 99 [(0,sL),(1,sS)] (fun((xs:List ByteArray),(s:ByteArray),_)=>.nd ((0:Int)≤0∧(0:Int)≤xs.length) (.br (TJ (Lib.idxFromS xs s 0)) (.lf (aI (Lib.idxFromS xs s 0))) (.lf (aI (-1)))))
  (fun⟨xs,s,_⟩ r _ h=>⟨⟨⟨by omega,by omega⟩,by
   obtain rfl:aI (Lib.idxOfS xs s)=r:=h;rcases mZ xs s 0 with h|h
   ·exact aZ (decide_eq_true h) rfl
   ·exact bh (decide_eq_false (by omega)) (by show aI (-1)=aI (Lib.idxFromS xs s 0);rw[h])⟩,.inr (by obtain rfl:aI (Lib.idxOfS xs s)=r:=h;rfl)⟩) Tryz.func64
def FC (v:Int):Prop:= -9223372036854775808≤v∧v≤9223372036854775807
def oU (x:ae):Prop:=FC x.method∧FC x.seats∧FC x.ranks∧FC x.digits∧FC x.ties∧FC x.over∧FC x.skip∧x.cands.length≤274877906944
structure dV (e:aa):Prop where
 dots:FC e.dots
 blank:FC e.blank
 marked:FC e.marked
 scan:FC e.scan
 batch:FC e.batch
 cell:FC e.cell
 conts:∀x∈e.cont,oU x
 styls:∀x∈e.styl,x.prec.length≤274877906944∧x.cont.length≤274877906944
 lc:e.cont.length≤34359738368
 ls:e.styl.length≤34359738367
 lp:e.prec.length≤274877906944
 short:e.risk.short 67108864
def J5 (f:ar):Prop:=dR f.key∧(∀s∈f.vals,dR s)∧f.vals.length≤1099511627776
def il (x:aw):Prop:=dR x.kind∧dR x.name∧x.fields.length≤274877906944∧∀f∈x.fields,J5 f∧f.vals.length≤274877906944
def Fi (s:cI):Prop:=dR s.title∧s.blocks.length≤68719476736∧∀x∈s.blocks,il x
structure lS (v:az):Prop where
 num:∀k,(v.ln k).isSome=true→¬0<bW k→aO k=[]→k≠bH→k≠cz→(dZ k).1≤v.n k∧v.n k≤(dZ k).2
 cho:∀k,(v.ln k).isSome=true→¬0<bW k→aO k≠[]→1≤v.n k∧v.n k≤(aO k).length
 lst:∀k,(v.ln k).isSome=true→0<bW k→db (v.s k) (bW k)=0
theorem CM:lS az.zero:=⟨(fun _ h=>by cases h),(fun _ h=>by cases h),(fun _ h=>by cases h)⟩
theorem qp {α:Type} (f:ByteArray→Option α) (k:ByteArray) (x:α):setF f k x k=some x:=if_pos rfl
theorem ci {α:Type} (f:ByteArray→Option α) {k t:ByteArray} (x:α) (h:t≠k):setF f k x t=f t:=if_neg h
theorem sd (x:ByteArray):∀(zs:List ByteArray) (i:Nat),Lib.idxFromS zs x i= -1∨((i:Int)≤Lib.idxFromS zs x i∧Lib.idxFromS zs x i<(i+zs.length:Nat))
 | [],i=>.inl rfl
 | z::zs,i=>by
  have:=sd x zs (i+1);unfold Lib.idxFromS;rw[aaO];split
  ·exact .inr ⟨by omega,by omega⟩
  ·rcases this with h|h
   ·exact .inl h
   ·exact .inr ⟨by omega,by omega⟩
theorem xC (zs:List ByteArray) (x:ByteArray):Lib.idxOfS zs x= -1∨(0≤Lib.idxOfS zs x∧Lib.idxOfS zs x<zs.length):=by
 have:=sd x zs 0;rw[ab7] at this;exact this
theorem Oc {kind:ByteArray} {f:ar} {v:az} (hv:lS v) (h:(aX kind f v).1=0):lS (aX kind f v).2:=by
 unfold aX at h ⊢;split at h
 ·cases h
 rename_i h1;rw[if_neg h1];split at h
 ·cases h
 rename_i h2;rw[if_neg h2];split at h
 ·rename_i h3;rw[if_pos h3];refine⟨fun k hk hl hc hr hs=>?_,fun k hk hl hc=>?_,fun k hk hl=>?_⟩
  ·by_cases e:k=f.key
   ·subst e;exact absurd h3 hl
   ·exact hv.num k (by simpa[ci _ _ e] using hk) hl hc hr hs
  ·by_cases e:k=f.key
   ·subst e;exact absurd h3 hl
   ·exact hv.cho k (by simpa[ci _ _ e] using hk) hl hc
  ·by_cases e:k=f.key
   ·subst e;show db ((setF v.lst f.key f.vals f.key).getD []) _=0;rw[qp];exact h
   ·show db ((setF v.lst f.key f.vals k).getD []) _=0;rw[ci _ _ e];exact hv.lst k (by simpa[ci _ _ e] using hk) hl
 ·rename_i h3;rw[if_neg h3];split at h
  ·cases h
  ·rename_i h4;rw[if_neg h4];generalize f.vals.getD 0 ⟨#[]⟩=s at h ⊢;unfold wT at h ⊢;split at h
   ·rename_i h5;rw[if_pos h5];have h6:¬Lib.idxOfS (aO f.key) s+1=0:=fun e=>by
     simp only[e,if_true] at h;cases h
    refine⟨fun k hk hl hc hr hs=>?_,fun k hk hl hc=>?_,fun k hk hl=>?_⟩
    ·by_cases e:k=f.key
     ·subst e;exact absurd hc h5
     ·show _≤(setF v.num f.key _ k).getD 0∧(setF v.num f.key _ k).getD 0≤_;rw[ci _ _ e];exact hv.num k (by simpa[ci _ _ e] using hk) hl hc hr hs
    ·by_cases e:k=f.key
     ·subst e;show 1≤(setF v.num f.key _ f.key).getD 0∧(setF v.num f.key _ f.key).getD 0≤_;rw[qp];show 1≤Lib.idxOfS (aO f.key) s+1∧Lib.idxOfS (aO f.key) s+1≤_;rcases xC (aO f.key) s with h7|h7<;>omega
     ·show 1≤(setF v.num f.key _ k).getD 0∧(setF v.num f.key _ k).getD 0≤_;rw[ci _ _ e];exact hv.cho k (by simpa[ci _ _ e] using hk) hl hc
    ·by_cases e:k=f.key
     ·subst e;exact absurd hl h3
     ·exact hv.lst k (by simpa[ci _ _ e] using hk) hl
   ·rename_i h5;rw[if_neg h5];have h5':aO f.key=[]:=ab2.1 h5;have old:∀v':az,v'.num=v.num→v'.lst=v.lst→v'.ln=setF v.ln f.key f.line→(f.key=bH∨f.key=cz)→lS v':=fun v' e1 e2 e3 hk=>by
     refine⟨fun k oF hl hc hr hs=>?_,fun k oF hl hc=>?_,fun k oF hl=>?_⟩
     ·by_cases e:k=f.key
      ·subst e;rcases hk with hk|hk;exact absurd hk hr;exact absurd hk hs
      ·unfold az.n;rw[e1];exact hv.num k (by rw[e3,ci _ _ e] at oF;exact oF) hl hc hr hs
     ·by_cases e:k=f.key
      ·subst e;exact absurd h5' hc
      ·unfold az.n;rw[e1];exact hv.cho k (by rw[e3,ci _ _ e] at oF;exact oF) hl hc
     ·by_cases e:k=f.key
      ·subst e;exact absurd hl h3
      ·unfold az.s;rw[e2];exact hv.lst k (by rw[e3,ci _ _ e] at oF;exact oF) hl
    split at h
    ·rename_i h6;rw[if_pos h6];refine old _ ?_ ?_ ?_ (.inl h6)<;>(unfold az.withRisk;split<;>rfl)
    ·rename_i h6;rw[if_neg h6];split at h
     ·rename_i h7;rw[if_pos h7];split at h
      ·rename_i h8;rw[if_pos h8];exact old _ rfl rfl rfl (.inr h7)
      ·cases h
     ·rename_i h7;rw[if_neg h7];split at h
      ·cases h
      ·rename_i h8;rw[if_neg h8];split at h
       ·cases h
       ·rename_i h9;rw[if_neg h9];have h9':(dZ f.key).1≤(ck s.data.toList).1∧(ck s.data.toList).1≤(dZ f.key).2:=by omega
        refine⟨fun k hk hl hc hr hs=>?_,fun k hk hl hc=>?_,fun k hk hl=>?_⟩
        ·by_cases e:k=f.key
         ·subst e;show _≤(setF v.num f.key _ f.key).getD 0∧(setF v.num f.key _ f.key).getD 0≤_;rw[qp];exact h9'
         ·show _≤(setF v.num f.key _ k).getD 0∧(setF v.num f.key _ k).getD 0≤_;rw[ci _ _ e];exact hv.num k (by simpa[ci _ _ e] using hk) hl hc hr hs
        ·by_cases e:k=f.key
         ·subst e;exact absurd h5' hc
         ·show 1≤(setF v.num f.key _ k).getD 0∧(setF v.num f.key _ k).getD 0≤_;rw[ci _ _ e];exact hv.cho k (by simpa[ci _ _ e] using hk) hl hc
        ·by_cases e:k=f.key
         ·subst e;exact absurd hl h3
         ·exact hv.lst k (by simpa[ci _ _ e] using hk) hl
theorem zn {kind:ByteArray}:∀{l:List ar} {v:az},lS v→(eJ kind l v).1.no=0→lS (eJ kind l v).2
 | [],v,hv,_=>hv
 | f::l,v,hv,h=>by
  unfold eJ at h ⊢;split at h
  ·rename_i h1;exact absurd h h1
  ·rename_i h1;rw[if_neg h1];exact zn (Oc hv (ab2.1 h1)) h
theorem zD {v:az} {line:Int} {e:eE}:∀{l:List ByteArray},(oy v line e l).no=0→e.no=0∧∀k∈l,eZ v k=false
 | [],h=>⟨h,fun k hk=>by cases hk⟩
 | k::l,h=>by
  unfold oy at h;split at h
  ·cases h
  ·rename_i h1;obtain⟨h2,h3⟩:=zD h;refine⟨h2,fun j hj=>?_⟩;rcases aaP.1 hj with rfl|hj
   ·simpa using h1
   ·exact h3 j hj
theorem tS {v:az} {k:ByteArray} (h:eZ v k=false) (hk:k≠ay):(v.ln k).isSome=true:=by
 unfold eZ at h;rw[decide_eq_true hk,Bool.true_or,Bool.and_true] at h;simpa using h
structure XH (c:ae):Prop where
 cands:1≤c.cands.length∧c.cands.length≤7
 method:1≤c.method∧c.method≤3
 seats:1≤c.seats∧c.seats≤5
 ranks:1≤c.ranks∧c.ranks≤7
 ties:1≤c.ties∧c.ties≤3
 over:1≤c.over∧c.over≤2
 skip:1≤c.skip∧c.skip≤3
theorem uv {ig:Int}:∀{l pre:List ByteArray},fp ig pre l=0→(pre.length:Int)≤ig→((pre.length+l.length:Nat):Int)≤ig
 | [],pre,_,h=>by simpa using h
 | s::r,pre,h,hp=>by
  unfold fp at h;split at h
  ·cases h
  ·rename_i h1;split at h
   ·cases h
   ·split at h
    ·cases h
    ·have:=uv h (by rw[aaD,abE];omega);rw[aaD,abE] at this;rw[aaO];omega
theorem qF {l:List ByteArray} {ig:Int} (h:db l ig=0) (hm:0≤ig):1≤l.length∧(l.length:Int)≤ig:=by
 unfold db at h;split at h
 ·cases h
 ·rename_i h1;have:=uv h (by simpa using hm);rw[abZ,ab7] at this;refine⟨?_,this⟩;cases l with
  | nil=>exact absurd rfl h1
  | cons a l=>simp
structure qU (b:bZ):Prop where
 scan:b.of aH≠[]→(2≤b.e.dots∧b.e.dots≤7)∧(1≤b.e.blank∧b.e.blank≤b.e.marked∧b.e.marked≤100)
 scanners:b.of ak≠[]→(1≤b.e.scan∧b.e.scan≤6)∧1≤b.e.batch∧b.e.batch≤16
 prec:b.of af≠[]→db b.e.prec 12=0
 cell:b.of aN≠[]→1≤b.e.cell∧b.e.cell≤400
 cont:∀c∈b.e.cont,XH c
 lcont:b.e.cont.length=(b.of ah).length∧(b.of ah).length≤4
 styl:∀v∈b.vals,db (v.s af) 12=0∧db (v.s ax) 4=0
 lstyl:b.e.styl.length=b.vals.length∧b.vals.length=(b.of aC).length∧(b.of aC).length≤6
theorem KX {b:bZ} {k nm t:ByteArray}:(b.named k nm).of t=if t=k then b.of k++[nm] else b.of t:=by
 show(setF b.names k (b.of k++[nm]) t).getD []=_;unfold setF;split<;>rfl
theorem E4 (t:ByteArray):qU (bZ.start t):=
 ⟨(fun h=>absurd rfl h),(fun h=>absurd rfl h),(fun h=>absurd rfl h),(fun h=>absurd rfl h),(fun _ h=>by cases h),⟨rfl,ab0 _⟩,(fun _ h=>by cases h),⟨rfl,rfl,ab0 _⟩⟩
theorem DC {v:az} (hv:lS v) (k:ByteArray) (lo hi:Int) (hm:eZ v k=false) (h0:k≠ay:=by decide) (h1:¬0<bW k:=by decide) (h2:aO k=[]:=by decide) (h3:k≠bH:=by decide) (h4:k≠cz:=by decide) (h5:dZ k=(lo,hi):=by decide):lo≤v.n k∧v.n k≤hi:=by
 have:=hv.num k (tS hm h0) h1 h2 h3 h4;rw[h5] at this;exact this
theorem JI {v:az} (hv:lS v) (k:ByteArray) (n:Nat) (hm:eZ v k=false) (h0:k≠ay:=by decide) (h1:¬0<bW k:=by decide) (h2:aO k≠[]:=by decide) (h5:(aO k).length=n:=by decide):1≤v.n k∧v.n k≤n:=by
 have:=hv.cho k (tS hm h0) h1 h2;rw[h5] at this;exact this
theorem TV {v:az} (hv:lS v) (k:ByteArray) (n:Int) (hm:eZ v k=false) (h0:k≠ay:=by decide) (h1:0<bW k:=by decide) (h5:bW k=n:=by decide):db (v.s k) n=0:=by
 have:=hv.lst k (tS hm h0) h1;rw[h5] at this;exact this
theorem Pk {k:ByteArray} (h:aD k≠[]):k=aH∨k=ak∨k=af∨k=ah∨k=aC∨k=aJ∨k=aN:=by
 unfold aD at h;split at h
 ·rename_i e;exact .inl e
 split at h
 ·rename_i e;exact .inr (.inl e)
 split at h
 ·rename_i e;exact .inr (.inr (.inl e))
 split at h
 ·rename_i e;exact .inr (.inr (.inr (.inl e)))
 split at h
 ·rename_i e;exact .inr (.inr (.inr (.inr (.inl e))))
 split at h
 ·rename_i e;exact .inr (.inr (.inr (.inr (.inr (.inl e)))))
 split at h
 ·rename_i e;exact .inr (.inr (.inr (.inr (.inr (.inr e)))))
 ·exact absurd rfl h
theorem tV:aD aH=[cV,bi,aW]:=by rfl
theorem pR:aD ak=[bQ,bR]:=by rfl
theorem Ll:aD af=[bP]:=by rfl
theorem jy:aD ah=[aM,bb,bM,ay,cT,aP,cU,bY]:=by rfl
theorem zW:aD aC=[af,ax]:=by rfl
theorem Lk:aD aN=[dm]:=by rfl
theorem LA {k nm:ByteArray} {ns:List ByteArray} (h:fM k nm ns=0):aD k≠[]∧(lM k=true→(ns.length:Int)≠dt k):=by
 unfold fM at h;split at h
 ·cases h
 rename_i h1;refine⟨h1,fun hn=>?_⟩;rw[hn] at h;rw[if_neg (by decide)] at h;split at h
 ·cases h
 split at h
 ·cases h
 split at h
 ·cases h
 split at h
 ·cases h
 ·rename_i h2;exact h2
theorem Ki {k nm:ByteArray} {v:az} {b:bZ} (hb:qU b) (hv:lS v) (hh:fM k nm (b.of k)=0) (hm:∀j∈aD k,eZ v j=false) (hr:k=aH→¬v.n aW<v.n bi):qU (be k nm v (b.named k nm)):=by
 obtain⟨hk,hc⟩:=LA hh;have PR:∀(e:aa) (vs:List az) (t:ByteArray),bZ.of ⟨e,(b.named k nm).names,vs⟩ t=if t=k then b.of k++[nm] else b.of t:=fun _ _ _=>KX
 have ne:∀l:List ByteArray,l++[nm]≠[]:=fun l=>by simp
 rcases Pk hk with rfl|rfl|rfl|rfl|rfl|rfl|rfl
 ·have e:be aH nm v (b.named aH nm)=⟨{ b.e with dots:=v.n cV,blank:=v.n bi,marked:=v.n aW },(b.named aH nm).names,b.vals⟩:=by unfold be;rw[if_pos rfl];rfl
  rw[e];have h1:=DC hv cV 2 7 (hm _ (by rw[tV];simp));have h2:=DC hv bi 1 100 (hm _ (by rw[tV];simp));have h3:=DC hv aW 1 100 (hm _ (by rw[tV];simp));have h4:=hr rfl;constructor<;>simp only[PR]
  ·exact fun _=>⟨h1,h2.1,by omega,h3.2⟩
  ·rw[if_neg (by decide)];exact hb.scanners
  ·rw[if_neg (by decide)];exact hb.prec
  ·rw[if_neg (by decide)];exact hb.cell
  ·exact hb.cont
  ·rw[if_neg (by decide)];exact hb.lcont
  ·exact hb.styl
  ·rw[if_neg (by decide)];exact hb.lstyl
 ·have e:be ak nm v (b.named ak nm)=⟨{ b.e with scan:=v.n bQ,batch:=v.n bR },(b.named ak nm).names,b.vals⟩:=by unfold be;rw[if_neg (by decide),if_pos rfl];rfl
  rw[e];have h1:=DC hv bQ 1 6 (hm _ (by rw[pR];simp));have h2:=DC hv bR 1 16 (hm _ (by rw[pR];simp));constructor<;>simp only[PR]
  ·rw[if_neg (by decide)];exact hb.scan
  ·exact fun _=>⟨h1,h2⟩
  ·rw[if_neg (by decide)];exact hb.prec
  ·rw[if_neg (by decide)];exact hb.cell
  ·exact hb.cont
  ·rw[if_neg (by decide)];exact hb.lcont
  ·exact hb.styl
  ·rw[if_neg (by decide)];exact hb.lstyl
 ·have e:be af nm v (b.named af nm)=⟨{ b.e with prec:=v.s bP },(b.named af nm).names,b.vals⟩:=by unfold be;rw[if_neg (by decide),if_neg (by decide),if_pos rfl];rfl
  rw[e];have h1:=TV hv bP 12 (hm _ (by rw[Ll];simp));constructor<;>simp only[PR]
  ·rw[if_neg (by decide)];exact hb.scan
  ·rw[if_neg (by decide)];exact hb.scanners
  ·exact fun _=>h1
  ·rw[if_neg (by decide)];exact hb.cell
  ·exact hb.cont
  ·rw[if_neg (by decide)];exact hb.lcont
  ·exact hb.styl
  ·rw[if_neg (by decide)];exact hb.lstyl
 ·have e:be ah nm v (b.named ah nm)=⟨{ b.e with cont:=b.e.cont++[cR nm v] },(b.named ah nm).names,b.vals⟩:=by unfold be;rw[if_neg (by decide),if_neg (by decide),if_neg (by decide),if_pos rfl];rfl
  rw[e];have lP:=hc (by decide);rw[show dt ah=4 from by decide] at lP;constructor<;>simp only[PR]
  ·rw[if_neg (by decide)];exact hb.scan
  ·rw[if_neg (by decide)];exact hb.scanners
  ·rw[if_neg (by decide)];exact hb.prec
  ·rw[if_neg (by decide)];exact hb.cell
  ·intro c hc;rcases abW.1 hc with hc|hc
   ·exact hb.cont c hc
   ·obtain rfl:=ab5.1 hc;have hl:=qF (TV hv bY 7 (hm _ (by rw[jy];simp))) (by decide);exact⟨⟨hl.1,by have:=hl.2;show(v.s bY).length≤7;omega⟩,JI hv aM 3 (hm _ (by rw[jy];simp)),DC hv bb 1 5 (hm _ (by rw[jy];simp)),DC hv bM 1 7 (hm _ (by rw[jy];simp)),JI hv cT 3 (hm _ (by rw[jy];simp)),JI hv aP 2 (hm _ (by rw[jy];simp)),JI hv cU 3 (hm _ (by rw[jy];simp))⟩
  ·have h1:=hb.lcont;simp only[if_true,aaD,abE];omega
  ·exact hb.styl
  ·rw[if_neg (by decide)];exact hb.lstyl
 ·have e:be aC nm v (b.named aC nm)=⟨{ b.e with styl:=b.e.styl++[⟨nm,[],[]⟩] },(b.named aC nm).names,b.vals++[v]⟩:=by unfold be;rw[if_neg (by decide),if_neg (by decide),if_neg (by decide),if_neg (by decide),if_pos rfl];rfl
  rw[e];have lP:=hc (by decide);rw[show dt aC=6 from by decide] at lP;constructor<;>simp only[PR]
  ·rw[if_neg (by decide)];exact hb.scan
  ·rw[if_neg (by decide)];exact hb.scanners
  ·rw[if_neg (by decide)];exact hb.prec
  ·rw[if_neg (by decide)];exact hb.cell
  ·exact hb.cont
  ·rw[if_neg (by decide)];exact hb.lcont
  ·intro u hu;rcases abW.1 hu with hu|hu
   ·exact hb.styl u hu
   ·obtain rfl:=ab5.1 hu;exact⟨TV hv af 12 (hm _ (by rw[zW];simp)),TV hv ax 4 (hm _ (by rw[zW];simp))⟩
  ·have h1:=hb.lstyl;simp only[if_true,aaD,abE];omega
 ·have e:be aJ nm v (b.named aJ nm)=⟨{ b.e with risk:=v.risk,seed:=v.seed },(b.named aJ nm).names,b.vals⟩:=by unfold be;rw[if_neg (by decide),if_neg (by decide),if_neg (by decide),if_neg (by decide),if_neg (by decide),if_pos rfl];rfl
  rw[e];constructor<;>simp only[PR]
  ·rw[if_neg (by decide)];exact hb.scan
  ·rw[if_neg (by decide)];exact hb.scanners
  ·rw[if_neg (by decide)];exact hb.prec
  ·rw[if_neg (by decide)];exact hb.cell
  ·exact hb.cont
  ·rw[if_neg (by decide)];exact hb.lcont
  ·exact hb.styl
  ·rw[if_neg (by decide)];exact hb.lstyl
 ·have e:be aN nm v (b.named aN nm)=⟨{ b.e with cell:=v.n dm },(b.named aN nm).names,b.vals⟩:=by unfold be;rw[if_neg (by decide),if_neg (by decide),if_neg (by decide),if_neg (by decide),if_neg (by decide),if_neg (by decide),if_pos rfl];rfl
  rw[e];have h1:=DC hv dm 1 400 (hm _ (by rw[Lk];simp));constructor<;>simp only[PR]
  ·rw[if_neg (by decide)];exact hb.scan
  ·rw[if_neg (by decide)];exact hb.scanners
  ·rw[if_neg (by decide)];exact hb.prec
  ·exact fun _=>h1
  ·exact hb.cont
  ·rw[if_neg (by decide)];exact hb.lcont
  ·exact hb.styl
  ·rw[if_neg (by decide)];exact hb.lstyl
theorem KH {k:ByteArray} {line:Int} {v:az} (h:(jJ k line v).no=0) (hk:k=aH):¬v.n aW<v.n bi:=by
 unfold jJ at h;split at h
 ·cases h
 split at h
 ·cases h
 split at h
 ·cases h
 ·rename_i h1;exact fun h2=>h1 ⟨hk,h2⟩
theorem Me {x:aw} {b:bZ} (hb:qU b) (h:(gr x b).1.no=0):qU (gr x b).2:=by
 unfold gr at h ⊢;split at h
 ·rename_i h1;exact absurd h h1
 rename_i h1;rw[if_neg h1];split at h
 ·rename_i h2;exact absurd h h2
 rename_i h2;rw[if_neg h2];split at h
 ·rename_i h3;exact absurd h h3
 rename_i h3;rw[if_neg h3];obtain⟨g1,g2⟩:=zD (ab2.1 h3);exact Ki hb (zn CM (ab2.1 h2)) (ab2.1 h1) g2 (KH g1)
theorem yj:∀{l:List aw} {b:bZ},qU b→(di l b).1.no=0→qU (di l b).2
 | [],_,hb,_=>hb
 | x::l,b,hb,h=>by
  unfold di at h ⊢;split at h
  ·rename_i h1;exact absurd h h1
  ·rename_i h1;rw[if_neg h1];exact yj (Me hb (ab2.1 h1)) h
structure RD (n:Nat) (used:List Bool) (done:List aj):Prop where
 len:used.length=n
 mem:∀p:Nat,p<n→(used.getD p false=true↔∃s∈done,(p:Int)∈s.prec)
theorem uw {prec:List ByteArray} {line:Int}:∀{l:List ByteArray} {used oa:List Bool} {ew ps:List Int},dG prec line l used ew=.ok (oa,ps)→used.length=prec.length→ (∀p∈ew,0≤p∧p<prec.length∧used.getD p.toNat false=true)→ew.Nodup→ oa.length=prec.length∧(∀p∈ps,0≤p∧p<prec.length)∧ps.Nodup∧ps.length=ew.length+l.length∧(∀p∈ps,p∈ew∨used.getD p.toNat false=false)∧(∀p∈ew,p∈ps)∧∀p:Nat,p<prec.length→(oa.getD p false=true↔used.getD p false=true∨(p:Int)∈ps)
 | [],used,oa,ew,ps,h,hl,ha,hn=>by
  injection h with h
  injection h with h1 h2
  subst h1 h2;refine⟨hl,fun p hp=>⟨(ha p hp).1,(ha p hp).2.1⟩,hn,by simp,fun p hp=>.inl hp,fun p hp=>hp,fun p hp=>⟨fun h=>.inl h,fun h=>h.elim id fun h=>?_⟩⟩;have:=(ha p h).2.2;simpa using this
 | s::l,used,oa,ew,ps,h,hl,ha,hn=>by
  unfold dG at h;split at h
  ·cases h
  rename_i h1;split at h
  ·cases h
  rename_i h2;have hi:0≤Lib.idxOfS prec s∧Lib.idxOfS prec s<prec.length:=by
   rcases xC prec s with h3|h3
   ·omega
   ·exact h3
  obtain⟨i,hi1⟩:∃i:Nat,Lib.idxOfS prec s=i:=⟨(Lib.idxOfS prec s).toNat,by omega⟩;rw[hi1] at h h2 hi;rw[aak] at h h2;have h2:used.getD i false=false:=by simpa using h2
  have sg:∀q:Nat,(used.set i true).getD q false=if q=i then true else used.getD q false:=fun q=>by
   rw[aai,aai];by_cases e:q=i
   ·subst e;rw[aaQ (by omega),if_pos rfl];rfl
   ·rw[aaK (fun e2=>e e2.symm),if_neg e]
  have Sr:(i:Int)∉ew:=fun hm=>by
   have:=(ha _ hm).2.2;rw[aak,h2] at this;cases this
  obtain⟨k1,k2,k3,k4,k5,k6,k7⟩:=uw h (by rw[abY];exact hl) (fun p hp=>by
   rcases abW.1 hp with hp|hp
   ·have:=ha p hp;refine⟨this.1,this.2.1,?_⟩;rw[sg];split
    ·rfl
    ·exact this.2.2
   ·obtain rfl:=ab5.1 hp;refine⟨by omega,by omega,?_⟩;rw[sg,aak,if_pos rfl]) (by
   rw[List.nodup_append];refine⟨hn,by simp,fun a ha' b hb e=>?_⟩;obtain rfl:=ab5.1 hb;exact Sr (e▸ha'))
  refine⟨k1,k2,k3,?_,fun p hp=>?_,fun p hp=>k6 p (List.mem_append_left _ hp),fun p hp=>?_⟩
  ·rw[k4,aaD,abE,aaO];omega
  ·rcases k5 p hp with h3|h3
   ·rcases abW.1 h3 with h3|h3
    ·exact .inl h3
    ·obtain rfl:=ab5.1 h3;right
     rw[aak];exact h2
   ·right
    rw[sg] at h3;split at h3
    ·cases h3
    ·exact h3
  ·rw[k7 p hp,sg];constructor
   ·rintro(h3|h3)
    ·split at h3
     ·rename_i e;right;rw[e];exact k6 _ (ac8 _ aaw)
     ·exact .inl h3
    ·exact .inr h3
   ·rintro(h3|h3)
    ·left;split
     ·rfl
     ·exact h3
    ·exact .inr h3
theorem pT (nm:ByteArray):∀(l:List ae) (i:Nat),bA nm l i= -1∨((i:Int)≤bA nm l i∧bA nm l i<(i+l.length:Nat))
 | [],i=>.inl rfl
 | c::l,i=>by
  have:=pT nm l (i+1);unfold bA;rw[aaO];split
  ·exact .inr ⟨by omega,by omega⟩
  ·rcases this with h|h
   ·exact .inl h
   ·exact .inr ⟨by omega,by omega⟩
theorem uy {cont:List ae} {line:Int}:∀{l:List ByteArray} {ew cs:List Int},eg cont line l ew=.ok cs→(∀k∈ew,0≤k∧k<cont.length)→(∀k∈cs,0≤k∧k<cont.length)∧cs.length=ew.length+l.length∧cs=ew++l.map fun s=>bA s cont 0
 | [],ew,cs,h,ha=>by
  injection h with h
  subst h;exact⟨ha,by simp,by simp⟩
 | s::l,ew,cs,h,ha=>by
  unfold eg at h;split at h
  ·cases h
  rename_i h1;have hi:0≤bA s cont 0∧bA s cont 0<cont.length:=by
   rcases pT s cont 0 with h3|h3<;>omega
  obtain⟨k1,k2,k3⟩:=uy h fun k hk=>by
   rcases abW.1 hk with hk|hk
   ·exact ha k hk
   ·obtain rfl:=ab5.1 hk;exact hi
  refine⟨k1,by rw[k2,aaD,abE,aaO];omega,?_⟩;rw[k3,acg,abP];rfl
structure RE (n m:Nat) (s:aj):Prop where
 prec:∀p∈s.prec,0≤p∧p<n
 nodup:s.prec.Nodup
 cont:∀k∈s.cont,0≤k∧k<m
 lcont:1≤s.cont.length∧s.cont.length≤4
structure Hu (n m:Nat) (l:List aj):Prop where
 each:∀s∈l,RE n m s
 once:∀i j:Nat,∀s t:aj,l[i]?=some s→l[j]?=some t→∀p,p∈s.prec→p∈t.prec→i=j
theorem zJ {prec:List ByteArray} {cont:List ae}:∀{vs:List az} {ss:List aj} {used:List Bool} {done l:List aj},eK prec cont vs ss used done=.ok l→(∀v∈vs,db (v.s af) 12=0∧db (v.s ax) 4=0)→vs.length=ss.length→RD prec.length used done→Hu prec.length cont.length done→ Hu prec.length cont.length l∧l.length=done.length+ss.length∧∀p:Nat,p<prec.length→∃s∈l,(p:Int)∈s.prec
 | v::vs,s::ss,used,done,l,h,hv,hl,hu,hd=>by
  unfold eK at h;split at h
  ·cases h
  rename_i oa ps h1;split at h
  ·cases h
  rename_i cs h2;obtain⟨k1,k2,k3,k4,k5,_,k7⟩:=uw h1 hu.len (fun p hp=>by cases hp) List.nodup_nil;obtain⟨c1,c2,_⟩:=uy h2 (fun p hp=>by cases hp);have hvv:=hv v aaw;have hlc:=qF hvv.2 (by decide);have nP:RE prec.length cont.length ⟨s.name,ps,cs⟩:=⟨k2,k3,c1,by
   show 1≤cs.length∧cs.length≤4;rw[c2,abZ,ab7];omega⟩
  obtain⟨r1,r2,r3⟩:=zJ h (fun v Ls=>hv v (aaN _ Ls)) (by simpa using hl) (⟨k1,fun p hp=>by
   rw[k7 p hp,hu.mem p hp];constructor
   ·rintro(⟨t,ht,h3⟩|h3)
    ·exact⟨t,List.mem_append_left _ ht,h3⟩
    ·exact⟨_,ac8 _ aaw,h3⟩
   ·rintro⟨t,ht,h3⟩;rcases abW.1 ht with ht|ht
    ·exact .inl ⟨t,ht,h3⟩
    ·obtain rfl:=ab5.1 ht;exact .inr h3⟩:RD prec.length oa (done++[⟨s.name,ps,cs⟩])) ⟨fun t ht=>by
   rcases abW.1 ht with ht|ht
   ·exact hd.each t ht
   ·obtain rfl:=ab5.1 ht;exact nP,by
   have key:∀(i:Nat) (t:aj),(done++[⟨s.name,ps,cs⟩])[i]?=some t→(i<done.length∧done[i]?=some t)∨(i=done.length∧t=⟨s.name,ps,cs⟩):=by
    intro i t ht;by_cases hi:i<done.length
    ·rw[aaz hi] at ht;exact .inl ⟨hi,ht⟩
    ·have hlt:=(aag.1 ht).1;rw[aaD,abE] at hlt;obtain rfl:i=done.length:=by omega
     rw[aam (aaJ _),aee] at ht;injection ht with ht
     exact .inr ⟨rfl,ht.symm⟩
   have Xn:∀(i:Nat) (t:aj),done[i]?=some t→∀p,p∈t.prec→p∉ps:=by
    intro i t ht p hp Z2;have hb:=(hd.each t (ack ht)).prec p hp;rcases k5 p Z2 with h3|h3
    ·cases h3
    ·have:=(hu.mem p.toNat (by omega)).2 ⟨t,ack ht,by rw[show((p.toNat:Nat):Int)=p by omega];exact hp⟩;rw[h3] at this;cases this
   intro i j t u ht vO p hp hq;rcases key i t ht with⟨_,ht⟩|⟨e1,e2⟩
   ·rcases key j u vO with⟨_,vO⟩|⟨e3,e4⟩
    ·exact hd.once i j t u ht vO p hp hq
    ·subst e4;exact absurd hq (Xn i t ht p hp)
   ·rcases key j u vO with⟨_,vO⟩|⟨e3,e4⟩
    ·subst e2;exact absurd hp (Xn j u vO p hq)
    ·omega⟩
  refine⟨r1,?_,r3⟩;rw[r2,aaD,abE,aaO];omega
 | [],ss,used,done,l,h,_,hl,hu,hd=>by
  have hs:ss=[]:=aaS (by simpa using hl.symm);subst hs;unfold eK at h;split at h
  ·cases h
  rename_i h1;injection h with h
  subst h;refine⟨hd,by simp,fun p hp=>(hu.mem p hp).1 ?_⟩;cases e:used.getD p false with
  | true=>rfl
  | false=>
   exfalso
   refine h1 (List.contains_iff_mem.2 ?_);have hp2:p<used.length:=by rw[hu.len];exact hp
   rw[aai,aae hp2] at e;have e:used[p]=false:=e;rw[←e];exact abF _
 | v::vs,[],used,done,l,h,_,hl,hu,hd=>by cases hl
structure tg (e:aa):Prop where
 dots:2≤e.dots∧e.dots≤7
 marks:1≤e.blank∧e.blank≤e.marked∧e.marked≤100
 scan:1≤e.scan∧e.scan≤6
 batch:1≤e.batch∧e.batch≤16
 prec:1≤e.prec.length∧e.prec.length≤12
 lcont:e.cont.length≤4
 lstyl:e.styl.length≤6
 cont:∀c∈e.cont,XH c
 styl:Hu e.prec.length e.cont.length e.styl
 has:∀p:Nat,p<e.prec.length→∃s∈e.styl,(p:Int)∈s.prec
theorem xy:eQ=[aH,ak,af,ah,aC,aJ,aN]:=by rfl
theorem L9 {s:cI} (h:(cX s).2.no=0):tg (cX s).1:=by
 unfold cX at h ⊢;split at h
 ·cases h
 rename_i h1;rw[if_neg h1];split at h
 ·rename_i h2;exact absurd h h2
 rename_i h2;rw[if_neg h2];split at h
 ·cases h
 rename_i h3;rw[if_neg h3];have hb:=yj (E4 s.title) (ab2.1 h2);generalize (di s.blocks (bZ.start s.title)).2=b at h h3 hb ⊢;have hk:∀k∈eQ,b.of k≠[]:=fun k hk he=>h3 (acX.2 ⟨k,hk,decide_eq_true he⟩);split at h
 ·rename_i e he;exfalso
  have:∀{vs:List az} {ss:List aj} {u:List Bool} {d:List aj} {e:eE},eK b.e.prec b.e.cont vs ss u d=.error e→e.no≠0:=by
   have hp:∀{line:Int} {l:List ByteArray} {u:List Bool} {ew:List Int} {e:eE},dG b.e.prec line l u ew=.error e→e.no≠0:=by
    intro line l;induction l with
    | nil=>intro u ew e h;cases h
    | cons s l ih=>
     intro u ew e h;unfold dG at h;split at h
     ·injection h with h;subst h;exact(by omega:(2:Int)≠0)
     split at h
     ·injection h with h;subst h;exact(by omega:(3:Int)≠0)
     ·exact ih h
   have hc:∀{line:Int} {l:List ByteArray} {ew:List Int} {e:eE},eg b.e.cont line l ew=.error e→e.no≠0:=by
    intro line l;induction l with
    | nil=>intro ew e h;cases h
    | cons s l ih=>
     intro ew e h;unfold eg at h;split at h
     ·injection h with h;subst h;exact(by omega:(2:Int)≠0)
     ·exact ih h
   intro vs;induction vs with
   | nil=>
    intro ss u d e h;unfold eK at h;split at h
    ·injection h with h;subst h;decide
    ·cases h
   | cons v vs ih=>
    intro ss u d e h;cases ss with
    | nil=>
     unfold eK at h;split at h
     ·injection h with h;subst h;decide
     ·cases h
    | cons s ss=>
     unfold eK at h;split at h
     ·rename_i e' h1;injection h with h;subst h;exact hp h1
     ·split at h
      ·rename_i e' h1;injection h with h;subst h;exact hc h1
      ·exact ih h
  exact this (vs:=b.vals) (ss:=b.e.styl) he h
 ·rename_i l hl;have hl:eK b.e.prec b.e.cont b.vals b.e.styl (List.replicate b.e.prec.length false) []=.ok l:=hl;obtain⟨r1,r2,r3⟩:=zJ hl hb.styl (by have:=hb.lstyl;omega) ⟨by simp,fun p hp=>by simp[hp]⟩ ⟨(fun s hs=>by cases hs),(fun i j s t hs=>by cases hs)⟩;have h4:=hb.scan (hk _ (by rw[xy];simp));have h5:=hb.scanners (hk _ (by rw[xy];simp));have h6:=qF (hb.prec (hk _ (by rw[xy];simp))) (by decide);have h7:=hb.lcont;have h8:=hb.lstyl;exact⟨h4.1,h4.2,h5.1,h5.2,⟨h6.1,by have:=h6.2;show b.e.prec.length≤12;omega⟩,(by show b.e.cont.length≤4;omega),(by show l.length≤6;rw[r2,abZ];omega),hb.cont,r1,r3⟩
theorem yp {α:Type} {f:α→α→Bool} (hf:∀a b,f a b=true→a=b):∀{l m:List α},gU f l m=true→l=m
 | [],[],_=>rfl
 | x::l,y::m,h=>by
  simp only[gU,aaI] at h;rw[hf _ _ h.1,yp hf h.2]
 | [],_::_,h=>by cases h
 | _::_,[],h=>by cases h
theorem Bg {a b:aj} (h:bw a b=true):a=b:=by
 unfold bw at h;simp only[aaI,decide_eq_true_eq] at h;obtain⟨h1,h2,h3⟩:=h;cases a;cases b;simp_all
theorem wI {a b:ae} (h:bc a b=true):a=b:=by
 unfold bc at h;simp only[aaI,decide_eq_true_eq] at h;cases a;cases b;simp_all
theorem AQ {e:aa} (h:gn e=true):tg e:=by
 unfold gn kL at h;simp only[aaI,decide_eq_true_eq] at h;obtain⟨h0,_,_,h2,h3,h4,h5,h6,h7,h8,h9,_⟩:=h;have hf:=L9 h0;have h6:=yp (fun _ _=>wI) h6;have h7:=yp (fun _ _=>Bg) h7;obtain⟨g1,g2,g3,g4,g5,g6,g7,g8,g9,g10⟩:=hf;rw[h2] at g1;rw[h3,h4] at g2;rw[h8] at g3;rw[h9] at g4;rw[h5] at g5 g9 g10;rw[h6] at g6 g8 g9;rw[h7] at g7 g9 g10;exact⟨g1,g2,g3,g4,g5,g6,g7,g8,g9,g10⟩
section
variable {w w':World} {S:Nat→Prop} {e:Ending} {P:Program} {f:FuncId}
abbrev Wl (w:World) (S:Nat→Prop) (al:Bool) (x:XV) (e:Ending) (w':World):Prop:=∃v S',e=.returned v∧Below w.heap.size w w'∧(∀b,S' b→(al=true∧S b)∨(w.heap.size≤b∧b<w'.heap.size))∧XR [] w' S' x v
theorem Jh:∀{n:Nat} {l:List XV} {t:Nat} {y:XV},(t,y)∈sa n l→n≤t
 | _,[],_,_,h=>by cases h
 | n,x::l,t,y,h=>by
  rcases aaP.1 h with e|h
  ·injection e with e _;omega
  ·have:=Jh h;omega
theorem adu {w:World} {S:Nat→Prop}:∀{us vs:List Value} {n:Nat},vs.length=us.length→(∀t y,(t,y)∈sa n (us.map fun u=>XV.one (.sym u))→∃v,vs[t-n]?=some v∧XR [] w S y v)→vs=us
 | [],[],_,_,_=>rfl
 | [],_::_,_,h,_=>by cases h
 | _::_,[],_,h,_=>by cases h
 | u::us,v::vs,n,hl,h=>by
  obtain⟨v',h1,h2,_⟩:=h n _ aaw;rw[aee] at h1;injection h1 with h1
  subst h1 h2;refine congrArg (v::·) (adu (w:=w) (S:=S) (n:=n+1) (by simpa using hl) fun t y hy=>?_);obtain⟨k,rfl⟩:∃k,t=n+1+k:=⟨t-(n+1),by have:=Jh hy;omega⟩;have:=h _ y (aaN _ hy);rw[show n+1+k-n=k+1 by omega] at this;rw[show n+1+k-(n+1)=k by omega];exact this
theorem yh {al:Bool} {l0:List (Nat×SS)} {G:cF l0→T XV} (us:cF l0→List Value) (h:∀(w:World) (S:Nat→Prop) (x:cF l0) (r:XV),Wd w→(G x).hit r→Calls P f (us x).toArray w (Wl w S al r)) (hu:∀x,(dz l0 x).env=sa 0 ((us x).map fun u=>XV.one (.sym u)):=by intro x;rfl) (hl:∀x,(us x).length=l0.length:=by intro x;rfl) (nC:∀x:cF l0,(dz l0 x).heap=[]:=by intro x;rfl):av P f al (aU l0 G):=
 Bo (fun w S x vs r hW hS he Cy hr=>by
  obtain rfl:vs=us x:=adu (n:=0) (Cy.trans (hl x).symm) fun t y hy=>he t y (by rw[hu x];exact hy);exact h w S x r hW hr) nC
theorem Hs {al:Bool} {v:Value} (hv:v.oneCell'=true) (h:jZ w v e w'):Wl w S al (.one (.sym v)) e w':=⟨v,fun _=>False,h.1,h.2,fun _ q=>q.elim,rfl,hv⟩
theorem amn {al:Bool} {x:XV} {v:Value} (hx:XR [] w' (fun _=>False) x v) (h:yt w v e w'):Wl w S al x e w':=⟨v,fun _=>False,h.1,by obtain⟨n,rfl⟩:=h.2;exact below_drewN (Below.refl _ _) n,fun _ q=>q.elim,hx⟩
theorem amm {al:Bool} {x:XV} {v:Value} (hx:XR [] w' (fun _=>False) x v) (h:jZ w v e w'):Wl w S al x e w':=⟨v,fun _=>False,h.1,h.2,fun _ q=>q.elim,hx⟩
theorem xrT:∀{us:List Value},(∀u∈us,u.oneCell'=true)→XR [] w S (.tup (us.map fun u=>(false,[.sym u]))) (.tuple us.toArray):=fun {us} h=>⟨us,rfl,by
 induction us with
 | nil=>exact .nil
 | cons u us ih=>exact .cons ⟨_,rfl,rfl,h u aaw⟩ (ih fun v hv=>h v (aaN _ hv))⟩
end
theorem zt:av Tryz.prog 57 false (aU [(0,sS),(1,sI),(2,sI)] fun((s:ByteArray),(a:Int),(b:Int),_)=>.nd (dR s) (.lf (aB (dN s a b)))):=
 yh (fun((s:ByteArray),(a:Int),(b:Int),_)=>[.string s,.int .i64 a,.int .i64 b]) fun w S ⟨(s:ByteArray),(a:Int),(b:Int),_⟩ r _ ⟨hs,hr⟩=>by
  obtain rfl:aB (dN s a b)=r:=hr;exact Calls.mono (Dv s a b w hs) fun _ _ h=>Hs rfl h
abbrev aT (us:List Value):XV:=.tup (us.map fun u=>(false,[.sym u]))
theorem IN:av Tryz.prog 196 false (aU [(0,sS)] fun((s:ByteArray),_)=>.nd (s.size≤9223372036854775807) (.lf (aT [.int .i64 (ck s.data.toList).1,.bool (ck s.data.toList).2]))):=
 yh (fun((s:ByteArray),_)=>[.string s]) fun w S ⟨(s:ByteArray),_⟩ r _ ⟨hs,hr⟩=>by
  obtain rfl:aT [.int .i64 (ck s.data.toList).1,.bool (ck s.data.toList).2]=r:=hr;exact Calls.mono (YY s w hs) fun _ _ h=>amm (xrT (us:=[.int .i64 (ck s.data.toList).1,.bool (ck s.data.toList).2]) (by simp[Value.oneCell'])) h
theorem Vs:av Tryz.prog 194 false (aU [(0,sS),(1,sS)] fun((s:ByteArray),(t:ByteArray),_)=>.nd (s.size≤9223372036854775807∧t=⟨#[47]⟩) (.lf (aT [.string ⟨(ek s.data.toList).toArray⟩,.string ⟨(dQ s.data.toList).toArray⟩,.bool (jo s.data.toList)]))):=
 yh (fun((s:ByteArray),(t:ByteArray),_)=>[.string s,.string t]) fun w S ⟨(s:ByteArray),(t:ByteArray),_⟩ r _ ⟨⟨hs,ht⟩,hr⟩=>by
  obtain rfl:aT [.string ⟨(ek s.data.toList).toArray⟩,.string ⟨(dQ s.data.toList).toArray⟩,.bool (jo s.data.toList)]=r:=hr;subst ht;exact Calls.mono (QS s w hs) fun _ _ h=>amn (xrT (us:=[.string ⟨(ek s.data.toList).toArray⟩,.string ⟨(dQ s.data.toList).toArray⟩,.bool (jo s.data.toList)]) (by simp[Value.oneCell'])) h
theorem Rw:av Tryz.prog 143 false (aU [(0,sS)] fun((s:ByteArray),_)=>.nd (s.size≤9223372036854775807) (.lf (aB (iI s.data.toList)))):=
 yh (fun((s:ByteArray),_)=>[.string s]) fun w S ⟨(s:ByteArray),_⟩ r _ ⟨hs,hr⟩=>by
  obtain rfl:aB (iI s.data.toList)=r:=hr;exact Calls.mono (JQ s w hs) fun _ _ h=>Hs rfl h
theorem SV.xr {w:World} {S:Nat→Prop} {v:Value} (k:Nat) {x:Hw k} (h:@SV _ (zi k) w S v x):XR [] w S (.agg (kS (.st k) x)) v:=let ⟨cs,e,h⟩:=h;⟨cs,e,ki (t:=.st k) h⟩
theorem Qy:av Tryz.prog 230 false (aU [(0,sI),(1,sI)] fun((a:Int),(b:Int),_)=>.nd (cf a∧cf b) (.lf (.agg (kS (.st 8) (fN a b).raw)))):=
 yh (fun((a:Int),(b:Int),_)=>[.int .i64 a,.int .i64 b]) fun w S ⟨(a:Int),(b:Int),_⟩ r _ ⟨⟨⟨h1,h2⟩,h3,h4⟩,hr⟩=>by
  obtain rfl:XV.agg (kS (.st 8) (fN a b).raw)=r:=hr;refine Calls.mono (Vb a b w h1 h2 h3 h4) fun e w' ⟨v,e1,e2,e3⟩=>⟨v,cY w w',e1,e3,fun b q=>.inr q,SV.xr 8 (x:=(fN a b).raw) e2⟩
theorem Hp {w:World} {S:Nat→Prop} {x:Raw} {v:Value} (h:XR [] w S (.agg (kS (.st 8) x)) v):SV w S v x:=by
 obtain⟨vs,rfl,hf⟩:=h;exact⟨vs,rfl,kz (t:=.st 8) (us:=kS (.st 8) x) rfl hf⟩
theorem JG:av Tryz.prog 54 false (aU [(0,.st 8),(1,.st 8)] fun((a:Raw),(b:Raw),_)=>.nd (a.short 67108864∧b.short 67108864) (.lf (aI (oK a.q b.flip.q)))):=
 gH fun w S x vs r hS he hl hr=>by
  obtain⟨(a:Raw),(b:Raw),_⟩:=x;obtain⟨v,h1,h2⟩:=he 0 (.agg (kS (.st 8) a)) aaw;obtain⟨v',jj,CF⟩:=he 1 (.agg (kS (.st 8) b)) (aaN _ aaw);obtain⟨⟨k1,k2⟩,rfl⟩:=hr
  match vs,hl,h1,jj with
  | [u,u'],_,h1,jj=>
   injection h1 with h1
   injection jj with jj
   subst h1 jj;exact Calls.mono (VA (Hp h2) (Hp CF) hS hS k1 k2) fun e w' h=>⟨_,fun _=>False,h.1,h.2,fun _ q=>q.elim,rfl,rfl⟩
theorem Ui:av Tryz.prog 147 false (aU [(0,sL),(1,sI)] fun((l:List ByteArray),(n:Int),_)=>.nd (∀s∈l,dR s) (.lf (aI (db l n)))):=
 gH fun w S x vs r hS he hl hr=>by
  obtain⟨(l:List ByteArray),(n:Int),_⟩:=x;obtain⟨v,h1,A,q,c,h2,h3,_⟩:=he 0 (.one (.list .str l false)) aaw;obtain⟨v',jj,CF,_⟩:=he 1 (aI n) (aaN _ aaw);obtain⟨hn,rfl⟩:=hr
  match vs,hl,h1,jj with
  | [u,u'],_,h1,jj=>
   injection h1 with h1
   injection jj with jj
   subst h1 jj h2 CF;exact Calls.mono (Ug n h3 hS hn) fun _ _ h=>Hs rfl h
theorem Ji:av Tryz.prog 106 false (aU [(0,sL),(1,sS)] fun((l:List ByteArray),(s:ByteArray),_)=>.lf (aI (Lib.idxOfS l s))):=
 gH fun w S x vs r hS he hl hr=>by
  obtain⟨(l:List ByteArray),(s:ByteArray),_⟩:=x;obtain⟨v,h1,A,q,c,h2,h3,_⟩:=he 0 (.one (.list .str l false)) aaw;obtain⟨v',jj,CF,_⟩:=he 1 (aS s) (aaN _ aaw);obtain rfl:=hr
  match vs,hl,h1,jj with
  | [u,u'],_,h1,jj=>
   injection h1 with h1
   injection jj with jj
   subst h1 jj h2 CF;exact Calls.mono (UA h3 s) fun _ _ h=>Hs rfl ⟨h.1,h.2▸Below.refl _ _⟩
theorem Ju:av Tryz.prog 144 false (aU [(0,sL),(1,sS)] fun((l:List ByteArray),(s:ByteArray),_)=>.lf (aB (Lib.containsS l s))):=
 gH fun w S x vs r hS he hl hr=>by
  obtain⟨(l:List ByteArray),(s:ByteArray),_⟩:=x;obtain⟨v,h1,A,q,c,h2,h3,_⟩:=he 0 (.one (.list .str l false)) aaw;obtain⟨v',jj,CF,_⟩:=he 1 (aS s) (aaN _ aaw);obtain rfl:=hr
  match vs,hl,h1,jj with
  | [u,u'],_,h1,jj=>
   injection h1 with h1
   injection jj with jj
   subst h1 jj h2 CF;exact Calls.mono (sG h3 s) fun _ _ h=>Hs rfl ⟨h.1,h.2▸Below.refl _ _⟩
theorem ui:av Tryz.prog 80 false (aU [(0,sL)] fun((l:List ByteArray),_)=>.nd (l.length≤1099511627776) (.lf (.one (.list .str l false)))):=
 gH fun w S x vs r hS he hl hr=>by
  obtain⟨(l:List ByteArray),_⟩:=x;obtain⟨v,h1,A,q,c,h2,h3,_⟩:=he 0 (.one (.list .str l false)) aaw;obtain⟨hn,rfl⟩:=hr
  match vs,hl,h1 with
  | [u],_,h1=>
   injection h1 with h1
   subst h1 h2;refine Calls.mono (Mc h3 (by rw[←h3.len];exact hn)) fun e w' h=>?_;obtain⟨v',rfl,ho,h2⟩:=h;obtain⟨A,q,c,rfl,_⟩:=ho.slice;exact⟨_,cY w w',rfl,h2,fun b q=>.inr q,A,q,c,rfl,ho.fresh (aaJ _),fun e=>by cases e⟩
def Xo (F:ByteArray→XV) (d:XV) (k:ByteArray):List ByteArray→T XV
 | []=>.lf d
 | a::l=>.br (k.toList==a.toList) (.lf (F a)) (Xo F d k l)
theorem JK {F:ByteArray→XV} {d:XV} {k:ByteArray}:∀{l:List ByteArray},(k∉l→∀(w:World) (S:Nat→Prop) (v:Value),XR [] w S d v→XR [] w S (F k) v)→∃q,(Xo F d k l).hit q∧∀(w:World) (S:Nat→Prop) (v:Value),XR [] w S q v→XR [] w S (F k) v
 | [],h=>⟨_,rfl,h (by simp)⟩
 | a::l,h=>by
  by_cases e:k=a
  ·subst e;exact⟨_,aZ (by simp) rfl,fun _ _ _ h=>h⟩
  ·obtain⟨q,h1,h2⟩:=JK (k:=k) (l:=l) fun hl=>h (by simp[e,hl]);exact⟨q,bh (by rw[eG];exact decide_eq_false e) h1,h2⟩
theorem ye {f:FuncId} {F:ByteArray→XV} {d:XV} {l:List ByteArray} (h:av Tryz.prog f true (aU [(0,sS)] fun((k:ByteArray),_)=>Xo F d k l)) (hd:∀k,k∉l→F k=d∨∃xs:List ByteArray,xs=[]∧F k=.one (.list .str xs true)∧d=.one (.val (.slice none 0 0))):av Tryz.prog f true (aU [(0,sS)] fun((k:ByteArray),_)=>.lf (F k)):=
 h.imp fun⟨(k:ByteArray),_⟩ r hr=>by
  obtain rfl:F k=r:=hr;refine JK fun hn w S v hv=>?_;rcases hd k hn with e|⟨xs,e,e1,e2⟩
  ·rw[e];exact hv
  ·subst e;rw[e1];rw[e2] at hv;exact⟨none,0,0,hv.1,RS.nil _ _,fun _ _=>rfl⟩
abbrev Xx (xs:List ByteArray):XV:=.one (.list .str xs true)
abbrev aec:XV:=.one (.val (.slice none 0 0))
theorem tW:av Tryz.prog 141 true (aU [(0,sS)] fun((k:ByteArray),_)=>.lf (Xx (aD k))):=
 ye (F:=fun k=>Xx (aD k)) (bC (C:=C0) (nL _ _) true 99 [(0,sS)] (fun((k:ByteArray),_)=>Xo (fun k=>Xx (aD k)) aec k eQ) (fun _ _ _ h=>⟨h,.inl rfl⟩) Tryz.func141) fun k h=>.inr ⟨_,by simp only[eQ,aaP,abL,or_false,not_or] at h;simp[aD,h],rfl,rfl⟩
abbrev alY:List ByteArray:=[⟨#[109,101,116,104,111,100]⟩,⟨#[116,105,101,115]⟩,⟨#[111,118,101,114,118,111,116,101]⟩,⟨#[115,107,105,112]⟩]
theorem EX:av Tryz.prog 169 true (aU [(0,sS)] fun((k:ByteArray),_)=>.lf (Xx (aO k))):=
 ye (F:=fun k=>Xx (aO k)) (bC (C:=C0) (nL _ _) true 99 [(0,sS)] (fun((k:ByteArray),_)=>Xo (fun k=>Xx (aO k)) aec k alY) (fun _ _ _ h=>⟨h,.inl rfl⟩) Tryz.func169) fun k h=>.inr ⟨_,by simp only[aaP,abL,or_false,not_or] at h;simp[aO,h],rfl,rfl⟩
theorem Un:av Tryz.prog 146 true (aU [(0,sS)] fun((k:ByteArray),_)=>.lf (aI (bW k))):=
 ye (F:=fun k=>aI (bW k)) (bC (C:=C0) (nL _ _) true 99 [(0,sS)] (fun((k:ByteArray),_)=>Xo (fun k=>aI (bW k)) (aI 0) k [⟨#[110,97,109,101,115]⟩,⟨#[112,114,101,99,105,110,99,116,115]⟩,⟨#[99,111,110,116,101,115,116,115]⟩,⟨#[99,97,110,100,105,100,97,116,101,115]⟩]) (fun _ _ _ h=>⟨h,.inl rfl⟩) Tryz.func146) fun k h=>.inl (by simp only[aaP,abL,or_false,not_or] at h;simp[bW,h])
theorem VD:av Tryz.prog 145 true (aU [(0,sS)] fun((k:ByteArray),_)=>.lf (aI (dt k))):=
 ye (F:=fun k=>aI (dt k)) (bC (C:=C0) (nL _ _) true 99 [(0,sS)] (fun((k:ByteArray),_)=>Xo (fun k=>aI (dt k)) (aI 6) k [ah]) (fun _ _ _ h=>⟨h,.inl rfl⟩) Tryz.func145) fun k h=>.inl (by simp only[ab5] at h;rw[show dt k=6 from if_neg h])
theorem VH:av Tryz.prog 197 true (aU [(0,sS)] fun((k:ByteArray),_)=>.lf (aT [.int .i64 (dZ k).1,.int .i64 (dZ k).2])):=
 ye (F:=fun k=>aT [.int .i64 (dZ k).1,.int .i64 (dZ k).2]) (bC (C:=C0) (nL _ _) true 99 [(0,sS)] (fun((k:ByteArray),_)=>Xo (fun k=>aT [.int .i64 (dZ k).1,.int .i64 (dZ k).2]) (aT [.int .i64 0,.int .i64 0]) k
  [⟨#[100,111,116,115]⟩,bi,aW,⟨#[99,111,117,110,116]⟩,⟨#[98,97,116,99,104]⟩,bb,⟨#[114,97,110,107,115]⟩,ay,⟨#[99,101,108,108]⟩]) (fun _ _ _ h=>⟨h,.inl rfl⟩) Tryz.func197) fun k h=>.inl (by simp only[bi,aW,bb,ay,aaP,abL,or_false,not_or] at h;simp[dZ,h])
theorem K5:av Tryz.prog 142 true (aU [(0,sS)] fun((k:ByteArray),_)=>.lf (aB (lM k))):=
 bC (C:=C0) (nL _ _) true 99 [(0,sS)] (fun((k:ByteArray),_)=>.br (k.toList==ah.toList) (.lf (aB true)) (.lf (aB (k.toList==(⟨#[115,116,121,108,101]⟩:ByteArray).toList)))) (fun⟨(k:ByteArray),_⟩ r _ h=>⟨by
  obtain rfl:aB (lM k)=r:=h;show(T.br _ _ _).hit (aB (if k=ah then true else if k=⟨#[115,116,121,108,101]⟩ then true else false));by_cases e:k=ah
  ·exact aZ (by rw[e];simp) (by rw[if_pos e];rfl)
  ·refine bh (by rw[eG];exact decide_eq_false e) ?_;rw[if_neg e,eG];split<;>rename_i e2
   ·exact congrArg aB (decide_eq_true e2)
   ·exact congrArg aB (decide_eq_false e2),.inl rfl⟩) Tryz.func142
theorem Gu:av Tryz.prog 59 true (aU [] fun _=>.lf (Xx eQ)):=
 bC (C:=C0) (nL _ _) true 99 [] (fun _=>.lf (Xx eQ)) (fun _ _ _ h=>⟨h,.inl rfl⟩) Tryz.func59
end Go.Proofs.YtdbpbfglhbiadaaGreatDoor
