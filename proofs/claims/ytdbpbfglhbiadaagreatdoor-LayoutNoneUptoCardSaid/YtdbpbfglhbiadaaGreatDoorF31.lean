/- MRun Tm1 Okd Ef1 Ef2 Ef3 Ef4 Tp1 -/
import Derived.Test.YtdbpbfglhbiadaaGreatDoorF00
import Derived.Test.YtdbpbfglhbiadaaGreatDoorF30
import Derived.Test.YtdbpbfglhbiadaaGreatDoorProg
import Derived.Lib.SlicesS
import Derived.Test.YtdbpbfglhbiadaaGreatDoorF11
import Derived.Test.YtdbpbfglhbiadaaGreatDoorF05
import Derived.Test.YtdbpbfglhbiadaaGreatDoorF13
import Derived.Test.YtdbpbfglhbiadaaGreatDoorF14
set_option maxHeartbeats 8000000
set_option maxRecDepth 100000
namespace Go.Proofs.YtdbpbfglhbiadaaGreatDoor
open Go Go.RowKit
def bd (f:Func):Code:=f.body.getD .skip
def Y6 (c:Code):Code:=match c with
 | .loop b=>b
 | _=>.skip
def abN (f:Func) (k:Nat):Code:=Y6 ((jE (bd f))[k]?.getD .skip)
abbrev sD (t:Ty):SS:=.c (.d t)
abbrev sI:SS:=sD tI
abbrev sS:SS:=sD .str
abbrev sB:SS:=sD .bool
abbrev sL:SS:=sD (.list .str)
abbrev aI (n:Int):XV:=.one (.sym (.int .i64 n))
abbrev aB (b:Bool):XV:=.one (.sym (.bool b))
abbrev aS (s:ByteArray):XV:=.one (.sym (.string s))
def Q5 (v:Int):Bool:=decide (0<=v)
abbrev vE {P:Program} (C:gb P) (f:Func):Rg P f.ntmps:=Vh C f.ntmps f [] true (.inl rfl)
abbrev JG {P:Program} (C:gb P) (f:Func) (pb:List Nat):Rg P f.ntmps:=Vh C f.ntmps f pb false (.inr rfl)
abbrev fRg {P:Program} (C:gb P) (f:Func) (pb:List Nat) (tb:List (Nat×List Nat)):Rg P f.ntmps:=Oe (JG C f pb) tb
abbrev nL {P:Program} {m:Nat} (R:Rg P m) (f:Func):zz P R.fn m R.pb (jE (bd f)):=noL _ _ _ _ _
theorem Rk {b:Code}:∀{c:Code} {k:Nat},(jE c)[k]?=some (.loop b)->∀(j:Nat) (x:Code),(jE b)[j]?=some x->(jE c)[k+1+j]?=some x:=by
 intro c;have two:∀{l1 l2:List Code} {k:Nat},(∀{k:Nat},l1[k]?=some (.loop b)->∀(j:Nat) (x:Code),(jE b)[j]?=some x->l1[k+1+j]?=some x)->(∀{k:Nat},l2[k]?=some (.loop b)->∀(j:Nat) (x:Code),(jE b)[j]?=some x->l2[k+1+j]?=some x)->(l1++l2)[k]?=some (.loop b)->∀(j:Nat) (x:Code),(jE b)[j]?=some x->(l1++l2)[k+1+j]?=some x:=by
  intro l1 l2 k h1 h2 h j x hj;by_cases hk:k<l1.length
  ·rw[aai hk] at h;have:=h1 h j x hj;rw[aai (aab.1 this).1];exact this
  ·rw[aaf (by omega)] at h;have:=h2 h j x hj;rw[aaf (by omega),show k+1+j-l1.length=k-l1.length+1+j by omega];exact this
 induction c with
 | seq x y hx hy=>intro k h;exact two hx hy h
 | cond q x y hx hy=>intro k h;exact two hx hy h
 | block i x hx=>intro k h;exact hx h
 | loop x hx=>
  intro k h j y hj;cases k with
  | zero=>
   injection h with h
   injection h with h
   subst h;rw[aa6,ad7];exact hj
  | succ k=>
   have:=hx (k:=k) (by simpa[jE] using h) j y hj;rw[show k+1+1+j=(k+1+j)+1 by omega];exact this
 | _=>intro k h;cases h
def eD {P:Program} {f:Func} (R:Rg P f.ntmps) (k d:Nat) (l lo lr:List (Nat×SS)) (G:bM l->T (LE l lo lr)):Prop:=∀c,(jE (bd f))[k]?=some c->zD P R.fn f.ntmps R.pb c (lpT R.pb d l lo lr G)
theorem eI {P:Program} {f:Func} (R:Rg P f.ntmps) (L:zz P R.fn f.ntmps R.pb (jE (bd f))) (n k d:Nat) (l lo lr:List (Nat×SS)) (B:bM l->T (LE l lo lr)) {G:bM l->T (LE l lo lr)} (μ:bM l->Nat) (cA:∀x r,Kx l x->(G x).hit r->∃q,(B x).hit q/\match q with|.back x'=>μ x'<μ x/\(G x').hit r|q=>q=r) (hB:∀x,rdT R L n k d (abN f k) l lo lr x=B x:=by intro x;kernel_rfl) (hk:(jE (bd f))[k]?=some (.loop (abN f k)):=by kernel_rfl):eD R k d l lo lr G:=by
 intro c hc;rw[hk] at hc;obtain rfl:=aad hc;exact abM R L (n:=n) (k:=k) μ (Rk hk) λx r h0 h=>by rw[hB];exact cA x r h0 h
theorem bg {P:Program} {f:FuncId} {fn:Func} {C:gb P} (L:zz P (vE C fn).fn fn.ntmps (vE C fn).pb (jE (bd fn))) (al:Bool) (n:Nat) (l0:List (Nat×SS)) (B:bM l0->T XV) {G:bM l0->T XV} (h:∀x r,Kx l0 x->(G x).hit r->(B x).hit r/\(al=true\/r.plain=true)) (hf:P.funcs[f]?=some fn) (hB:∀x,fnT (vE C fn) L n (bd fn) l0 x=B x:=by intro x;kernel_rfl) (yV:l0.length<=fn.ntmps:=by decide) (hb:fn.body=some (bd fn):=by rfl):au P f al (aD l0 G):=
 pure_ok (vE C fn) L rfl rfl hf hb rfl al n l0 G yV λx r h0 h1=>by rw[hB];exact h x r h0 h1
theorem jA {P:Program} {f:FuncId} {fn:Func} {C:gb P} {pb:List Nat} (L:zz P (JG C fn pb).fn fn.ntmps (JG C fn pb).pb (jE (bd fn))) (n:Nat) (l0 lr:List (Nat×SS)) (B:bM l0->T (XV×bM lr)) {G:bM l0->T (XV×bM lr)} (h:∀x r,Kx l0 x->(G x).hit r->(B x).hit r) (hf:P.funcs[f]?=some fn) (hB:∀x,fnE (JG C fn pb) L n (bd fn) l0 lr x=B x:=by intro x;kernel_rfl) (lQ:pb≠[]:=by decide) (yV:l0.length<=fn.ntmps:=by decide) (hb:fn.body=some (bd fn):=by rfl):fk P f pb l0 lr G:=
 EJ (JG C fn pb) L rfl lQ hf hb rfl n l0 lr G yV λx r h0 h1=>by rw[hB];exact h x r h0 h1
theorem YK {P:Program} {f:FuncId} {fn:Func} {C:gb P} {pb:List Nat} (tb:List (Nat×List Nat)) (L:zz P (fRg C fn pb tb).fn fn.ntmps (fRg C fn pb tb).pb (jE (bd fn))) (n:Nat) (l0 lr:List (Nat×SS)) (B:bM l0->T (XV×bM lr)) {G:bM l0->T (XV×bM lr)} (h:∀x r,Kx l0 x->(G x).hit r->(B x).hit r) (hf:P.funcs[f]?=some fn) (hB:∀x,fnE (fRg C fn pb tb) L n (bd fn) l0 lr x=B x:=by intro x;kernel_rfl) (lQ:pb≠[]:=by decide) (yV:l0.length<=fn.ntmps:=by decide) (hb:fn.body=some (bd fn):=by rfl):fk P f pb l0 lr G:=
 EJ (fRg C fn pb tb) L rfl lQ hf hb rfl n l0 lr G yV λx r h0 h1=>by rw[hB];exact h x r h0 h1
theorem Ox {P:Program} {f:FuncId} {fn:Func} {R:Rg P fn.ntmps} (L:zz P R.fn fn.ntmps R.pb (jE (bd fn))) (n:Nat) (l0 lr:List (Nat×SS)) (B:bM l0->T (XV×bM lr)) {G:bM l0->T (XV×bM lr)} (h:∀x r,Kx l0 x->(G x).hit r->(B x).hit r) (hf:P.funcs[f]?=some fn) (hB:∀x,fnE R L n (bd fn) l0 lr x=B x:=by intro x;kernel_rfl) (Sx:R.fn=fn:=by rfl) (lQ:R.pb≠[]:=by decide) (yV:l0.length<=fn.ntmps:=by decide) (hb:fn.body=some (bd fn):=by rfl):fk P f R.pb l0 lr G:=
 EJ R L Sx lQ hf hb rfl n l0 lr G yV λx r h0 h1=>by rw[hB];exact h x r h0 h1
theorem sk {P:Program} {f:FuncId} {fn:Func} {R:Rg P fn.ntmps} (L:zz P R.fn fn.ntmps R.pb (jE (bd fn))) (al:Bool) (n:Nat) (l0:List (Nat×SS)) (B:bM l0->T XV) {G:bM l0->T XV} (h:∀x r,Kx l0 x->(G x).hit r->(B x).hit r/\(al=true\/r.plain=true)) (hf:P.funcs[f]?=some fn) (hB:∀x,fnT R L n (bd fn) l0 x=B x:=by intro x;kernel_rfl) (Sx:R.fn=fn:=by rfl) (lQ:R.pb=[]:=by rfl) (yV:l0.length<=fn.ntmps:=by decide) (hb:fn.body=some (bd fn):=by rfl):au P f al (aD l0 G):=
 pure_ok R L Sx lQ hf hb rfl al n l0 G yV λx r h0 h1=>by rw[hB];exact h x r h0 h1
noncomputable def shut {α:Type} (a:α):α:=Classical.choose (⟨a,rfl⟩:∃b,b=a)
theorem kY {α:Type} (a:α):shut a=a:=Classical.choose_spec (⟨a,rfl⟩:∃b,b=a)
theorem aH {α:Type} {b:Bool} {x y:T α} {r:α} (hb:b=true) (h:x.hit r):(T.br b x y).hit r:=⟨λ_=>h,λe=>by rw[hb] at e;cases e⟩
theorem aP {α:Type} {b:Bool} {x y:T α} {r:α} (hb:b=false) (h:y.hit r):(T.br b x y).hit r:=⟨(λe=>by rw[hb] at e;cases e),λ_=>h⟩
theorem hB {α:Type} {b:Bool} {x y:T α} {r:α} (h:(T.br b x y).hit r):(b=true/\x.hit r)\/(b=false/\y.hit r):=by
 cases b with
 | true=>exact .inl ⟨rfl,h.1 rfl⟩
 | false=>exact .inr ⟨rfl,h.2 rfl⟩
theorem au.imp {P:Program} {f:FuncId} {al:Bool} {l0:List (Nat×SS)} {F G:bM l0->T XV} (h:au P f al (aD l0 F)) (hi:∀x r,(G x).hit r->∃q,(F x).hit q/\∀(w:World) (S:Nat->Prop) (v:Value),XR [] w S q v->XR [] w S r v):au P f al (aD l0 G):=λw S xs vs r hW hS hx hr=>by
 unfold aD at hr;split at hr
 ·rename_i x ia;split at hr
  ·rename_i hl;obtain⟨q,h1,h2⟩:=hi x r hr;refine Calls.mono (h w S xs vs q hW hS hx (by unfold aD;rw[ia];simp only[hl,if_true];exact h1)) λe w' ⟨v,S',e1,e2,e3,e4⟩=>⟨v,S',e1,e2,e3,h2 _ _ _ e4⟩
  ·exact hr.elim
 ·exact hr.elim
def wkA:AV->AV
 | .list t xs _=>.list t xs false
 | a=>a
def KJ:XV->XV
 | .one a=>.one (wkA a)
 | .agg cs=>.agg (cs.map wkA)
 | .tup l=>.tup (l.map λp=>(p.1,p.2.map wkA))
theorem Di {bs:List Value} {w:World} {S:Nat->Prop} {x:AV} {v:Value} (h:VR bs w S x v):VR bs w S (wkA x) v:=by
 cases x with
 | list t xs q=>obtain⟨A,n,c,h1,h2,_⟩:=h;exact⟨A,n,c,h1,h2,λe=>by cases e⟩
 | _=>exact h
theorem Dh {bs:List Value} {w:World} {S:Nat->Prop} {x:XV} {v:Value} (h:XR bs w S x v):XR bs w S (KJ x) v:=by
 have hc:∀{ag:Bool} {cs:List AV} {v:Value},CR bs w S ag cs v->CR bs w S ag (cs.map wkA) v:=by
  intro ag cs v h;unfold CR at h ⊢;cases ag with
  | true=>obtain⟨vs,e,h⟩:=h;exact⟨vs,e,h.mapL λ_ _ _ h=>Di h⟩
  | false=>obtain⟨a,rfl,h⟩:=h;exact⟨_,rfl,Di h⟩
 cases x with
 | one b=>exact Di h
 | agg cs=>exact hc (ag:=true) h
 | tup l=>obtain⟨vs,e,h⟩:=h;exact⟨vs,e,h.mapL λ_ _ _ h=>hc h⟩
theorem au.wk {P:Program} {f:FuncId} {al:Bool} {l0:List (Nat×SS)} {F G:bM l0->T XV} (h:au P f al (aD l0 F)) (hi:∀x r,(G x).hit r->∃q,(F x).hit q/\KJ q=r):au P f al (aD l0 G):=h.imp λx r hr=>by
 obtain⟨q,h1,rfl⟩:=hi x r hr;exact⟨q,h1,λw S v h=>Dh h⟩
theorem OU {P:Program} {f:FuncId} {t:Ty} {g:List (El t)->List (El t)->Bool} (h:∀(S:Nat->Prop) (A:Option Addr) (n c:Nat) (A2:Option Addr) (n2 c2:Nat) (xs ys:List (El t)) (w:World),RS w S A n c xs->RS w S A2 n2 c2 ys->Calls P f #[.slice A n c,.slice A2 n2 c2] w (vj w (.bool (g xs ys)))):au P f false (aD [(0,sD (.list t)),(1,sD (.list t))] λ((xs:List (El t)),(ys:List (El t)),_)=>.lf (aB (g xs ys))):=
 fK λw S x vs r hS he hl hr=>by
  obtain⟨(xs:List (El t)),(ys:List (El t)),_⟩:=x;obtain⟨v,h1,A,q,c,h2,h3,_⟩:=he 0 (.one (.list t xs false)) aah;obtain⟨v',ib,A2,q2,c2,zP,Jt,_⟩:=he 1 (.one (.list t ys false)) (aap _ aah);obtain rfl:=hr
  match vs,hl,h1,ib with
  | [u,u'],_,h1,ib=>
   injection h1 with h1
   injection ib with ib
   subst h1 ib h2 zP;exact Calls.mono (h S A q c A2 q2 c2 xs ys w h3 Jt) λe w' ⟨e1,n,e2⟩=>⟨_,λ_=>False,e1,e2▸below_drewN (Below.refl _ _) n,λ_ q=>q.elim,rfl,rfl⟩
def SO {t:Ty} (g:FuncId) (q:List (El t)->List (El t)->Bool) (xs:List XV):T XV:=match xs with
 | [x,y,.one (.val (.func (.func k) a b))]=>if k=g/\a.size=0/\b.size=0 then aD [(0,sD (.list t)),(1,sD (.list t))] (λ((xs:List (El t)),(ys:List (El t)),_)=>.lf (aB (q xs ys))) [x,y] else .bad
 | _=>.bad
theorem U9 {P:Program} {f g:FuncId} {t:Ty} {q:List (El t)->List (El t)->Bool} (h:∀(S:Nat->Prop) (A:Option Addr) (n c:Nat) (A2:Option Addr) (n2 c2:Nat) (xs ys:List (El t)) (w:World),RS w S A n c xs->RS w S A2 n2 c2 ys->(∀b,S b->b<w.heap.size)->Calls P f #[.slice A n c,.slice A2 n2 c2,.func (.func g) #[] #[]] w (iT w (.bool (q xs ys)))):au P f false (SO (t:=t) g q):=by
 intro w S xs vs r hW hS hx hr;unfold SO at hr;split at hr
 ·rename_i x y k a b;split at hr
  ·rename_i hc;obtain⟨rfl,ha,hb⟩:=hc;obtain rfl:=abE ha;obtain rfl:=abE hb;cases hx with
   | cons h1 hx=>cases hx with
    | cons h2 hx=>cases hx with
     | cons h3 hx=>
      cases hx
      obtain rfl:_=Value.func (.func k) #[] #[]:=h3.1;obtain⟨⟨(xs:List (El t)),(ys:List (El t)),_⟩,he,hl,hr⟩:=Cr hW hS (.cons h1 (.cons h2 .nil)) hr;obtain⟨v,g1,A,n,c,g2,g3,_⟩:=he 0 (.one (.list t xs false)) aah;obtain⟨v',g1',A2,n2,c2,g2',g3',_⟩:=he 1 (.one (.list t ys false)) (aap _ aah);obtain rfl:=hr;injection g1 with g1
      injection g1' with g1'
      subst g1 g1' g2 g2';exact Calls.mono (h S A n c A2 n2 c2 xs ys w g3 g3' hS) λe w' e1=>⟨_,λ_=>False,e1.1,e1.2,λ_ q=>q.elim,rfl,rfl⟩
  ·exact hr.elim
 ·exact hr.elim
def ET {α:Type} (ret:T α):List Bool->T α->T α
 | [],t=>t
 | b::l,t=>.br (!b) ret (ET ret l t)
theorem Ch {α:Type} {ret t:T α} {r:α} (h:t.hit r):∀(l:List Bool),l.all id=true->(ET ret l t).hit r
 | [],_=>h
 | b::l,hl=>by
  rw[ac9,aal] at hl;exact aP (by rw[show b=true from hl.1];rfl) (Ch h l hl.2)
theorem G2 {α:Type} {ret t:T α} {r:α} (h:ret.hit r):∀(l:List Bool),l.all id=false->(ET ret l t).hit r
 | b::l,hl=>by
  cases b with
  | false=>exact aH rfl h
  | true=>exact aP rfl (G2 h l hl)
def J9 {α:Type} (ret:T α):List Bool->T α->T α
 | [],t=>t
 | b::l,t=>.br b (J9 ret l t) ret
theorem pQ {α:Type} {ret t:T α} {r:Bool->α} (hr:ret.hit (r false)) {y:Bool}:∀(l:List Bool),(l.all id=true->t.hit (r y))->(J9 ret l t).hit (r (l.all id&&y))
 | [],h=>h rfl
 | b::l,h=>by
  cases b with
  | false=>exact aP rfl hr
  | true=>exact aH rfl (pQ hr l λhl=>h hl)
noncomputable def rQ (t:TypeId):Option Ty:=List.lookup t [(9,.str),(3,tI)]
noncomputable def C0:gb Tryz.prog:=ci rQ [] []
theorem dJ {x y:ByteArray}:(x.toList==y.toList)=decide (x=y):=by
 have e:∀a:ByteArray,a.toList=a.data.toList:=ByteArray.toList_eq;rw[e,e];by_cases h:x=y
 ·subst h;simp
 ·rw[decide_eq_false h,beq_eq_false_iff_ne];intro h2;exact h (by cases x;cases y;simp at h2;rw[h2])
theorem getD_drop {α:Type} {xs:List α} {i:Nat} (d:α) (h:i<xs.length):xs.drop i=xs.getD i d::xs.drop (i+1):=by
 rw[aac,aaa h];exact List.drop_eq_getElem_cons h
theorem SI:eD (vE C0 Tryz.f64) 0 0 [(0,sL),(1,sS),(5,sI)] [] [] λ((xs:List ByteArray),(s:ByteArray),(i:Int),_)=>
 .nd (0<=i/\i<=xs.length) (.br (Q5 (Lib.idxFromS (xs.drop i.toNat) s i.toNat)) (.lf (.ret (aI (Lib.idxFromS (xs.drop i.toNat) s i.toNat)) ())) (.lf (.out ()))):=by
  refine eI _ (nL _ _) 99 0 0 [(0,sL),(1,sS),(5,sI)] [] [] (λ((xs:List ByteArray),(s:ByteArray),(i:Int),_)=>.br (decide (i<xs.length)) (.nd (0<=i/\i<xs.length) (.br ((xs.getD i.toNat ⟨#[]⟩).toList==s.toList) (.lf (.ret (aI i) ())) (.nd (bX (i+1)) (.lf (.back (xs,s,i+1,())))))) (.lf (.out ())))
   (λ((xs:List ByteArray),_,(i:Int),_)=>xs.length-i.toNat) ?_
  rintro⟨(xs:List ByteArray),(s:ByteArray),(i:Int),_⟩ r ⟨hl,_⟩ ⟨⟨h0,h1⟩,h⟩;have hl:xs.length<=9223372036854775807:=hl;obtain⟨k,rfl⟩:∃k:Nat,i=k:=⟨i.toNat,by omega⟩;simp only[aae,dJ] at h ⊢;by_cases hi:k<xs.length
  ·rw[getD_drop ⟨#[]⟩ hi] at h;unfold Lib.idxFromS at h;by_cases hx:xs.getD k ⟨#[]⟩=s
   ·rw[if_pos hx] at h;exact⟨_,aH (decide_eq_true (by omega)) ⟨⟨by omega,by omega⟩,aH (decide_eq_true hx) rfl⟩,((hB h).resolve_right λq=>by have:=q.1;simp[Q5] at this).2⟩
   ·rw[if_neg hx] at h;exact⟨_,aH (decide_eq_true (by omega)) ⟨⟨by omega,by omega⟩,aP (decide_eq_false hx) ⟨⟨by omega,by omega⟩,rfl⟩⟩,by show xs.length-(k+1)<xs.length-k;omega,⟨by omega,by omega⟩,h⟩
  ·rw[aaq (by omega)] at h;exact⟨_,aP (decide_eq_false (by omega)) rfl,((hB h).resolve_left λq=>by have:=q.1;simp[Q5,Lib.idxFromS] at this).2⟩
theorem lk:∀(xs:List ByteArray) (s:ByteArray) (i:Nat),0<=Lib.idxFromS xs s i\/Lib.idxFromS xs s i= -1
 | [],_,_=>.inr rfl
 | x::l,s,i=>by
  unfold Lib.idxFromS;split
  ·exact .inl (by omega)
  ·exact lk l s (i+1)
theorem find_ok:au Tryz.prog 64 false (aD [(0,sL),(1,sS)] λ((xs:List ByteArray),(s:ByteArray),_)=>.lf (aI (Lib.idxOfS xs s))):=
 bg (C:=C0) ((nL _ _).add 0 _ SI) false 99 [(0,sL),(1,sS)] (λ((xs:List ByteArray),(s:ByteArray),_)=>.nd ((0:Int)<=0/\(0:Int)<=xs.length) (.br (Q5 (Lib.idxFromS xs s 0)) (.lf (aI (Lib.idxFromS xs s 0))) (.lf (aI (-1)))))
  (λ⟨xs,s,_⟩ r _ h=>⟨⟨⟨by omega,by omega⟩,by
   obtain rfl:aI (Lib.idxOfS xs s)=r:=h;rcases lk xs s 0 with h|h
   ·exact aH (decide_eq_true h) rfl
   ·exact aP (decide_eq_false (by omega)) (by show aI (-1)=aI (Lib.idxFromS xs s 0);rw[h])⟩,.inr (by obtain rfl:aI (Lib.idxOfS xs s)=r:=h;rfl)⟩) Tryz.func64
def CZ (v:Int):Prop:= -9223372036854775808<=v/\v<=9223372036854775807
def mS (x:ae):Prop:=CZ x.method/\CZ x.seats/\CZ x.ranks/\CZ x.digits/\CZ x.ties/\CZ x.over/\CZ x.skip/\x.cands.length<=274877906944
structure du (e:aa):Prop where
 dots:CZ e.dots
 blank:CZ e.blank
 marked:CZ e.marked
 scan:CZ e.scan
 batch:CZ e.batch
 cell:CZ e.cell
 conts:∀x∈e.cont,mS x
 styls:∀x∈e.styl,x.prec.length<=274877906944/\x.cont.length<=274877906944
 lc:e.cont.length<=34359738368
 ls:e.styl.length<=34359738367
 lp:e.prec.length<=274877906944
 short:e.risk.short 67108864
def Ht (f:ao):Prop:=cZ f.key/\(∀s∈f.vals,cZ s)/\f.vals.length<=1099511627776
def gv (x:av):Prop:=cZ x.kind/\cZ x.name/\x.fields.length<=274877906944/\∀f∈x.fields,Ht f/\f.vals.length<=274877906944
def CC (s:bP):Prop:=cZ s.title/\s.blocks.length<=68719476736/\∀x∈s.blocks,gv x
structure ki (v:aF):Prop where
 num:∀k,(v.ln k).isSome=true->¬0<bB k->az k=[]->k≠dP->k≠gm->(dj k).1<=v.n k/\v.n k<=(dj k).2
 cho:∀k,(v.ln k).isSome=true->¬0<bB k->az k≠[]->1<=v.n k/\v.n k<=(az k).length
 lst:∀k,(v.ln k).isSome=true->0<bB k->dc (v.s k) (bB k)=0
theorem z6:ki aF.zero:=⟨(λ_ h=>by cases h),(λ_ h=>by cases h),(λ_ h=>by cases h)⟩
theorem oe {α:Type} (f:ByteArray->Option α) (k:ByteArray) (x:α):setF f k x k=some x:=if_pos rfl
theorem bE {α:Type} (f:ByteArray->Option α) {k t:ByteArray} (x:α) (h:t≠k):setF f k x t=f t:=if_neg h
theorem pd (x:ByteArray):∀(zs:List ByteArray) (i:Nat),Lib.idxFromS zs x i= -1\/((i:Int)<=Lib.idxFromS zs x i/\Lib.idxFromS zs x i<(i+zs.length:Nat))
 | [],i=>.inl rfl
 | z::zs,i=>by
  have:=pd x zs (i+1);unfold Lib.idxFromS;rw[aar];split
  ·exact .inr ⟨by omega,by omega⟩
  ·rcases this with h|h
   ·exact .inl h
   ·exact .inr ⟨by omega,by omega⟩
theorem uv (zs:List ByteArray) (x:ByteArray):Lib.idxOfS zs x= -1\/(0<=Lib.idxOfS zs x/\Lib.idxOfS zs x<zs.length):=by
 have:=pd x zs 0;rw[aa6] at this;exact this
theorem LL {kind:ByteArray} {f:ao} {v:aF} (hv:ki v) (h:(bN kind f v).1=0):ki (bN kind f v).2:=by
 unfold bN at h ⊢;split at h
 ·cases h
 rename_i h1;rw[if_neg h1];split at h
 ·cases h
 rename_i h2;rw[if_neg h2];split at h
 ·rename_i h3;rw[if_pos h3];refine⟨λk hk hl hc hr hs=>?_,λk hk hl hc=>?_,λk hk hl=>?_⟩
  ·by_cases e:k=f.key
   ·subst e;exact absurd h3 hl
   ·exact hv.num k (by simpa[bE _ _ e] using hk) hl hc hr hs
  ·by_cases e:k=f.key
   ·subst e;exact absurd h3 hl
   ·exact hv.cho k (by simpa[bE _ _ e] using hk) hl hc
  ·by_cases e:k=f.key
   ·subst e;show dc ((setF v.lst f.key f.vals f.key).getD []) _=0;rw[oe];exact h
   ·show dc ((setF v.lst f.key f.vals k).getD []) _=0;rw[bE _ _ e];exact hv.lst k (by simpa[bE _ _ e] using hk) hl
 ·rename_i h3;rw[if_neg h3];split at h
  ·cases h
  ·rename_i h4;rw[if_neg h4];generalize f.vals.getD 0 ⟨#[]⟩=s at h ⊢;unfold tN at h ⊢;split at h
   ·rename_i h5;rw[if_pos h5];have h6:¬Lib.idxOfS (az f.key) s+1=0:=λe=>by
     simp only[e,if_true] at h;cases h
    refine⟨λk hk hl hc hr hs=>?_,λk hk hl hc=>?_,λk hk hl=>?_⟩
    ·by_cases e:k=f.key
     ·subst e;exact absurd hc h5
     ·show _<=(setF v.num f.key _ k).getD 0/\(setF v.num f.key _ k).getD 0<=_;rw[bE _ _ e];exact hv.num k (by simpa[bE _ _ e] using hk) hl hc hr hs
    ·by_cases e:k=f.key
     ·subst e;show 1<=(setF v.num f.key _ f.key).getD 0/\(setF v.num f.key _ f.key).getD 0<=_;rw[oe];show 1<=Lib.idxOfS (az f.key) s+1/\Lib.idxOfS (az f.key) s+1<=_;rcases uv (az f.key) s with h7|h7<;>omega
     ·show 1<=(setF v.num f.key _ k).getD 0/\(setF v.num f.key _ k).getD 0<=_;rw[bE _ _ e];exact hv.cho k (by simpa[bE _ _ e] using hk) hl hc
    ·by_cases e:k=f.key
     ·subst e;exact absurd hl h3
     ·exact hv.lst k (by simpa[bE _ _ e] using hk) hl
   ·rename_i h5;rw[if_neg h5];have h5':az f.key=[]:=aa2.1 h5;have old:∀v':aF,v'.num=v.num->v'.lst=v.lst->v'.ln=setF v.ln f.key f.line->(f.key=dP\/f.key=gm)->ki v':=λv' e1 e2 e3 hk=>by
     refine⟨λk mC hl hc hr hs=>?_,λk mC hl hc=>?_,λk mC hl=>?_⟩
     ·by_cases e:k=f.key
      ·subst e;rcases hk with hk|hk;exact absurd hk hr;exact absurd hk hs
      ·unfold aF.n;rw[e1];exact hv.num k (by rw[e3,bE _ _ e] at mC;exact mC) hl hc hr hs
     ·by_cases e:k=f.key
      ·subst e;exact absurd h5' hc
      ·unfold aF.n;rw[e1];exact hv.cho k (by rw[e3,bE _ _ e] at mC;exact mC) hl hc
     ·by_cases e:k=f.key
      ·subst e;exact absurd hl h3
      ·unfold aF.s;rw[e2];exact hv.lst k (by rw[e3,bE _ _ e] at mC;exact mC) hl
    split at h
    ·rename_i h6;rw[if_pos h6];refine old _ ?_ ?_ ?_ (.inl h6)<;>(unfold aF.withRisk;split<;>rfl)
    ·rename_i h6;rw[if_neg h6];split at h
     ·rename_i h7;rw[if_pos h7];split at h
      ·rename_i h8;rw[if_pos h8];exact old _ rfl rfl rfl (.inr h7)
      ·cases h
     ·rename_i h7;rw[if_neg h7];split at h
      ·cases h
      ·rename_i h8;rw[if_neg h8];split at h
       ·cases h
       ·rename_i h9;rw[if_neg h9];have h9':(dj f.key).1<=(bI s.data.toList).1/\(bI s.data.toList).1<=(dj f.key).2:=by omega
        refine⟨λk hk hl hc hr hs=>?_,λk hk hl hc=>?_,λk hk hl=>?_⟩
        ·by_cases e:k=f.key
         ·subst e;show _<=(setF v.num f.key _ f.key).getD 0/\(setF v.num f.key _ f.key).getD 0<=_;rw[oe];exact h9'
         ·show _<=(setF v.num f.key _ k).getD 0/\(setF v.num f.key _ k).getD 0<=_;rw[bE _ _ e];exact hv.num k (by simpa[bE _ _ e] using hk) hl hc hr hs
        ·by_cases e:k=f.key
         ·subst e;exact absurd h5' hc
         ·show 1<=(setF v.num f.key _ k).getD 0/\(setF v.num f.key _ k).getD 0<=_;rw[bE _ _ e];exact hv.cho k (by simpa[bE _ _ e] using hk) hl hc
        ·by_cases e:k=f.key
         ·subst e;exact absurd hl h3
         ·exact hv.lst k (by simpa[bE _ _ e] using hk) hl
theorem wI {kind:ByteArray}:∀{l:List ao} {v:aF},ki v->(dM kind l v).1.no=0->ki (dM kind l v).2
 | [],v,hv,_=>hv
 | f::l,v,hv,h=>by
  unfold dM at h ⊢;split at h
  ·rename_i h1;exact absurd h h1
  ·rename_i h1;rw[if_neg h1];exact wI (LL hv (aa2.1 h1)) h
theorem wU {v:aF} {line:Int} {e:dH}:∀{l:List ByteArray},(ml v line e l).no=0->e.no=0/\∀k∈l,d9 v k=false
 | [],h=>⟨h,λk hk=>by cases hk⟩
 | k::l,h=>by
  unfold ml at h;split at h
  ·cases h
  ·rename_i h1;obtain⟨h2,h3⟩:=wU h;refine⟨h2,λj hj=>?_⟩;rcases aas.1 hj with rfl|hj
   ·simpa using h1
   ·exact h3 j hj
theorem qy {v:aF} {k:ByteArray} (h:d9 v k=false) (hk:k≠aC):(v.ln k).isSome=true:=by
 unfold d9 at h;rw[decide_eq_true hk,Bool.true_or,Bool.and_true] at h;simpa using h
structure Vt (c:ae):Prop where
 cands:1<=c.cands.length/\c.cands.length<=7
 method:1<=c.method/\c.method<=3
 seats:1<=c.seats/\c.seats<=5
 ranks:1<=c.ranks/\c.ranks<=7
 ties:1<=c.ties/\c.ties<=3
 over:1<=c.over/\c.over<=2
 skip:1<=c.skip/\c.skip<=3
theorem qX {gl:Int}:∀{l pre:List ByteArray},ez gl pre l=0->(pre.length:Int)<=gl->((pre.length+l.length:Nat):Int)<=gl
 | [],pre,_,h=>by simpa using h
 | s::r,pre,h,hp=>by
  unfold ez at h;split at h
  ·cases h
  ·rename_i h1;split at h
   ·cases h
   ·split at h
    ·cases h
    ·have:=qX h (by rw[aaj,aaA];omega);rw[aaj,aaA] at this;rw[aar];omega
theorem oo {l:List ByteArray} {gl:Int} (h:dc l gl=0) (hm:0<=gl):1<=l.length/\(l.length:Int)<=gl:=by
 unfold dc at h;split at h
 ·cases h
 ·rename_i h1;have:=qX h (by simpa using hm);rw[aa1,aa6] at this;refine⟨?_,this⟩;cases l with
  | nil=>exact absurd rfl h1
  | cons a l=>simp
structure oI (b:cm):Prop where
 scan:b.of bR≠[]->(2<=b.e.dots/\b.e.dots<=7)/\(1<=b.e.blank/\b.e.blank<=b.e.marked/\b.e.marked<=100)
 scanners:b.of aO≠[]->(1<=b.e.scan/\b.e.scan<=6)/\1<=b.e.batch/\b.e.batch<=16
 prec:b.of af≠[]->dc b.e.prec 12=0
 cell:b.of bo≠[]->1<=b.e.cell/\b.e.cell<=400
 cont:∀c∈b.e.cont,Vt c
 lcont:b.e.cont.length=(b.of aj).length/\(b.of aj).length<=4
 styl:∀v∈b.vals,dc (v.s af) 12=0/\dc (v.s ax) 4=0
 lstyl:b.e.styl.length=b.vals.length/\b.vals.length=(b.of aA).length/\(b.of aA).length<=6
theorem IQ {b:cm} {k nm t:ByteArray}:(b.named k nm).of t=if t=k then b.of k++[nm] else b.of t:=by
 show(setF b.names k (b.of k++[nm]) t).getD []=_;unfold setF;split<;>rfl
theorem Cn (t:ByteArray):oI (cm.start t):=
 ⟨(λh=>absurd rfl h),(λh=>absurd rfl h),(λh=>absurd rfl h),(λh=>absurd rfl h),(λ_ h=>by cases h),⟨rfl,aaS _⟩,(λ_ h=>by cases h),⟨rfl,rfl,aaS _⟩⟩
theorem AP {v:aF} (hv:ki v) (k:ByteArray) (lo hi:Int) (hm:d9 v k=false) (h0:k≠aC:=by decide) (h1:¬0<bB k:=by decide) (h2:az k=[]:=by decide) (h3:k≠dP:=by decide) (h4:k≠gm:=by decide) (h5:dj k=(lo,hi):=by decide):lo<=v.n k/\v.n k<=hi:=by
 have:=hv.num k (qy hm h0) h1 h2 h3 h4;rw[h5] at this;exact this
theorem G1 {v:aF} (hv:ki v) (k:ByteArray) (n:Nat) (hm:d9 v k=false) (h0:k≠aC:=by decide) (h1:¬0<bB k:=by decide) (h2:az k≠[]:=by decide) (h5:(az k).length=n:=by decide):1<=v.n k/\v.n k<=n:=by
 have:=hv.cho k (qy hm h0) h1 h2;rw[h5] at this;exact this
theorem Rj {v:aF} (hv:ki v) (k:ByteArray) (n:Int) (hm:d9 v k=false) (h0:k≠aC:=by decide) (h1:0<bB k:=by decide) (h5:bB k=n:=by decide):dc (v.s k) n=0:=by
 have:=hv.lst k (qy hm h0) h1;rw[h5] at this;exact this
theorem MU {k:ByteArray} (h:aJ k≠[]):k=bR\/k=aO\/k=af\/k=aj\/k=aA\/k=bG\/k=bo:=by
 unfold aJ at h;split at h
 ·rename_i e;exact .inl e
 split at h
 ·rename_i e;exact .inr (.inl e)
 split at h
 ·rename_i e;exact .inr (.inr (.inl e))
 split at h
 ·rename_i e;exact .inr (.inr (.inr (.inl e)))
 split at h
 ·rename_i e;exact .inr (.inr (.inr (.inr (.inl e))))
 split at h
 ·rename_i e;exact .inr (.inr (.inr (.inr (.inr (.inl e)))))
 split at h
 ·rename_i e;exact .inr (.inr (.inr (.inr (.inr (.inr e)))))
 ·exact absurd rfl h
theorem qB:aJ bR=[il,ct,bF]:=by rfl
theorem nN:aJ aO=[fq,fu]:=by rfl
theorem Ja:aJ af=[ed]:=by rfl
theorem iB:aJ aj=[be,bz,gg,aC,gV,bV,gW,ft]:=by rfl
theorem xj:aJ aA=[af,ax]:=by rfl
theorem I9:aJ bo=[im]:=by rfl
theorem Jq {k nm:ByteArray} {ns:List ByteArray} (h:eR k nm ns=0):aJ k≠[]/\(kb k=true->(ns.length:Int)≠cE k):=by
 unfold eR at h;split at h
 ·cases h
 rename_i h1;refine⟨h1,λhn=>?_⟩;rw[hn] at h;rw[if_neg (by decide)] at h;split at h
 ·cases h
 split at h
 ·cases h
 split at h
 ·cases h
 split at h
 ·cases h
 ·rename_i h2;exact h2
theorem Ic {k nm:ByteArray} {v:aF} {b:cm} (hb:oI b) (hv:ki v) (hh:eR k nm (b.of k)=0) (hm:∀j∈aJ k,d9 v j=false) (hr:k=bR->¬v.n bF<v.n ct):oI (aV k nm v (b.named k nm)):=by
 obtain⟨hk,hc⟩:=Jq hh;have Nt:∀(e:aa) (vs:List aF) (t:ByteArray),cm.of ⟨e,(b.named k nm).names,vs⟩ t=if t=k then b.of k++[nm] else b.of t:=λ_ _ _=>IQ
 have ne:∀l:List ByteArray,l++[nm]≠[]:=λl=>by simp
 rcases MU hk with rfl|rfl|rfl|rfl|rfl|rfl|rfl
 ·have e:aV bR nm v (b.named bR nm)=⟨{ b.e with dots:=v.n il,blank:=v.n ct,marked:=v.n bF },(b.named bR nm).names,b.vals⟩:=by unfold aV;rw[if_pos rfl];rfl
  rw[e];have h1:=AP hv il 2 7 (hm _ (by rw[qB];simp));have h2:=AP hv ct 1 100 (hm _ (by rw[qB];simp));have h3:=AP hv bF 1 100 (hm _ (by rw[qB];simp));have h4:=hr rfl;constructor<;>simp only[Nt]
  ·exact λ_=>⟨h1,h2.1,by omega,h3.2⟩
  ·rw[if_neg (by decide)];exact hb.scanners
  ·rw[if_neg (by decide)];exact hb.prec
  ·rw[if_neg (by decide)];exact hb.cell
  ·exact hb.cont
  ·rw[if_neg (by decide)];exact hb.lcont
  ·exact hb.styl
  ·rw[if_neg (by decide)];exact hb.lstyl
 ·have e:aV aO nm v (b.named aO nm)=⟨{ b.e with scan:=v.n fq,batch:=v.n fu },(b.named aO nm).names,b.vals⟩:=by unfold aV;rw[if_neg (by decide),if_pos rfl];rfl
  rw[e];have h1:=AP hv fq 1 6 (hm _ (by rw[nN];simp));have h2:=AP hv fu 1 16 (hm _ (by rw[nN];simp));constructor<;>simp only[Nt]
  ·rw[if_neg (by decide)];exact hb.scan
  ·exact λ_=>⟨h1,h2⟩
  ·rw[if_neg (by decide)];exact hb.prec
  ·rw[if_neg (by decide)];exact hb.cell
  ·exact hb.cont
  ·rw[if_neg (by decide)];exact hb.lcont
  ·exact hb.styl
  ·rw[if_neg (by decide)];exact hb.lstyl
 ·have e:aV af nm v (b.named af nm)=⟨{ b.e with prec:=v.s ed },(b.named af nm).names,b.vals⟩:=by unfold aV;rw[if_neg (by decide),if_neg (by decide),if_pos rfl];rfl
  rw[e];have h1:=Rj hv ed 12 (hm _ (by rw[Ja];simp));constructor<;>simp only[Nt]
  ·rw[if_neg (by decide)];exact hb.scan
  ·rw[if_neg (by decide)];exact hb.scanners
  ·exact λ_=>h1
  ·rw[if_neg (by decide)];exact hb.cell
  ·exact hb.cont
  ·rw[if_neg (by decide)];exact hb.lcont
  ·exact hb.styl
  ·rw[if_neg (by decide)];exact hb.lstyl
 ·have e:aV aj nm v (b.named aj nm)=⟨{ b.e with cont:=b.e.cont++[dC nm v] },(b.named aj nm).names,b.vals⟩:=by unfold aV;rw[if_neg (by decide),if_neg (by decide),if_neg (by decide),if_pos rfl];rfl
  rw[e];have kf:=hc (by decide);rw[show cE aj=4 from by decide] at kf;constructor<;>simp only[Nt]
  ·rw[if_neg (by decide)];exact hb.scan
  ·rw[if_neg (by decide)];exact hb.scanners
  ·rw[if_neg (by decide)];exact hb.prec
  ·rw[if_neg (by decide)];exact hb.cell
  ·intro c hc;rcases aaH.1 hc with hc|hc
   ·exact hb.cont c hc
   ·obtain rfl:=aa3.1 hc;have hl:=oo (Rj hv ft 7 (hm _ (by rw[iB];simp))) (by decide);exact⟨⟨hl.1,by have:=hl.2;show(v.s ft).length<=7;omega⟩,G1 hv be 3 (hm _ (by rw[iB];simp)),AP hv bz 1 5 (hm _ (by rw[iB];simp)),AP hv gg 1 7 (hm _ (by rw[iB];simp)),G1 hv gV 3 (hm _ (by rw[iB];simp)),G1 hv bV 2 (hm _ (by rw[iB];simp)),G1 hv gW 3 (hm _ (by rw[iB];simp))⟩
  ·have h1:=hb.lcont;simp only[if_true,aaj,aaA];omega
  ·exact hb.styl
  ·rw[if_neg (by decide)];exact hb.lstyl
 ·have e:aV aA nm v (b.named aA nm)=⟨{ b.e with styl:=b.e.styl++[⟨nm,[],[]⟩] },(b.named aA nm).names,b.vals++[v]⟩:=by unfold aV;rw[if_neg (by decide),if_neg (by decide),if_neg (by decide),if_neg (by decide),if_pos rfl];rfl
  rw[e];have kf:=hc (by decide);rw[show cE aA=6 from by decide] at kf;constructor<;>simp only[Nt]
  ·rw[if_neg (by decide)];exact hb.scan
  ·rw[if_neg (by decide)];exact hb.scanners
  ·rw[if_neg (by decide)];exact hb.prec
  ·rw[if_neg (by decide)];exact hb.cell
  ·exact hb.cont
  ·rw[if_neg (by decide)];exact hb.lcont
  ·intro u hu;rcases aaH.1 hu with hu|hu
   ·exact hb.styl u hu
   ·obtain rfl:=aa3.1 hu;exact⟨Rj hv af 12 (hm _ (by rw[xj];simp)),Rj hv ax 4 (hm _ (by rw[xj];simp))⟩
  ·have h1:=hb.lstyl;simp only[if_true,aaj,aaA];omega
 ·have e:aV bG nm v (b.named bG nm)=⟨{ b.e with risk:=v.risk,seed:=v.seed },(b.named bG nm).names,b.vals⟩:=by unfold aV;rw[if_neg (by decide),if_neg (by decide),if_neg (by decide),if_neg (by decide),if_neg (by decide),if_pos rfl];rfl
  rw[e];constructor<;>simp only[Nt]
  ·rw[if_neg (by decide)];exact hb.scan
  ·rw[if_neg (by decide)];exact hb.scanners
  ·rw[if_neg (by decide)];exact hb.prec
  ·rw[if_neg (by decide)];exact hb.cell
  ·exact hb.cont
  ·rw[if_neg (by decide)];exact hb.lcont
  ·exact hb.styl
  ·rw[if_neg (by decide)];exact hb.lstyl
 ·have e:aV bo nm v (b.named bo nm)=⟨{ b.e with cell:=v.n im },(b.named bo nm).names,b.vals⟩:=by unfold aV;rw[if_neg (by decide),if_neg (by decide),if_neg (by decide),if_neg (by decide),if_neg (by decide),if_neg (by decide),if_pos rfl];rfl
  rw[e];have h1:=AP hv im 1 400 (hm _ (by rw[I9];simp));constructor<;>simp only[Nt]
  ·rw[if_neg (by decide)];exact hb.scan
  ·rw[if_neg (by decide)];exact hb.scanners
  ·rw[if_neg (by decide)];exact hb.prec
  ·exact λ_=>h1
  ·exact hb.cont
  ·rw[if_neg (by decide)];exact hb.lcont
  ·exact hb.styl
  ·rw[if_neg (by decide)];exact hb.lstyl
theorem IA {k:ByteArray} {line:Int} {v:aF} (h:(iK k line v).no=0) (hk:k=bR):¬v.n bF<v.n ct:=by
 unfold iK at h;split at h
 ·cases h
 split at h
 ·cases h
 split at h
 ·cases h
 ·rename_i h1;exact λh2=>h1 ⟨hk,h2⟩
theorem JY {x:av} {b:cm} (hb:oI b) (h:(fw x b).1.no=0):oI (fw x b).2:=by
 unfold fw at h ⊢;split at h
 ·rename_i h1;exact absurd h h1
 rename_i h1;rw[if_neg h1];split at h
 ·rename_i h2;exact absurd h h2
 rename_i h2;rw[if_neg h2];split at h
 ·rename_i h3;exact absurd h h3
 rename_i h3;rw[if_neg h3];obtain⟨g1,g2⟩:=wU (aa2.1 h3);exact Ic hb (wI z6 (aa2.1 h2)) (aa2.1 h1) g2 (IA g1)
theorem u6:∀{l:List av} {b:cm},oI b->(ck l b).1.no=0->oI (ck l b).2
 | [],_,hb,_=>hb
 | x::l,b,hb,h=>by
  unfold ck at h ⊢;split at h
  ·rename_i h1;exact absurd h h1
  ·rename_i h1;rw[if_neg h1];exact u6 (JY hb (aa2.1 h1)) h
structure Pj (n:Nat) (used:List Bool) (done:List ai):Prop where
 len:used.length=n
 mem:∀p:Nat,p<n->(used.getD p false=true↔∃s∈done,(p:Int)∈s.prec)
theorem qY {prec:List ByteArray} {line:Int}:∀{l:List ByteArray} {used lX:List Bool} {dy ps:List Int},cM prec line l used dy=.ok (lX,ps)->used.length=prec.length-> (∀p∈dy,0<=p/\p<prec.length/\used.getD p.toNat false=true)->dy.Nodup-> lX.length=prec.length/\(∀p∈ps,0<=p/\p<prec.length)/\ps.Nodup/\ps.length=dy.length+l.length/\(∀p∈ps,p∈dy\/used.getD p.toNat false=false)/\(∀p∈dy,p∈ps)/\∀p:Nat,p<prec.length->(lX.getD p false=true↔used.getD p false=true\/(p:Int)∈ps)
 | [],used,lX,dy,ps,h,hl,ha,hn=>by
  injection h with h
  injection h with h1 h2
  subst h1 h2;refine⟨hl,λp hp=>⟨(ha p hp).1,(ha p hp).2.1⟩,hn,by simp,λp hp=>.inl hp,λp hp=>hp,λp hp=>⟨λh=>.inl h,λh=>h.elim id λh=>?_⟩⟩;have:=(ha p h).2.2;simpa using this
 | s::l,used,lX,dy,ps,h,hl,ha,hn=>by
  unfold cM at h;split at h
  ·cases h
  rename_i h1;split at h
  ·cases h
  rename_i h2;have hi:0<=Lib.idxOfS prec s/\Lib.idxOfS prec s<prec.length:=by
   rcases uv prec s with h3|h3
   ·omega
   ·exact h3
  obtain⟨i,XK⟩:∃i:Nat,Lib.idxOfS prec s=i:=⟨(Lib.idxOfS prec s).toNat,by omega⟩;rw[XK] at h h2 hi;rw[aae] at h h2;have h2:used.getD i false=false:=by simpa using h2
  have pf:∀q:Nat,(used.set i true).getD q false=if q=i then true else used.getD q false:=λq=>by
   rw[aac,aac];by_cases e:q=i
   ·subst e;rw[aat (by omega),if_pos rfl];rfl
   ·rw[aan (λe2=>e e2.symm),if_neg e]
  have PV:(i:Int)∉dy:=λhm=>by
   have:=(ha _ hm).2.2;rw[aae,h2] at this;cases this
  obtain⟨k1,k2,k3,k4,k5,k6,k7⟩:=qY h (by rw[aaJ];exact hl) (λp hp=>by
   rcases aaH.1 hp with hp|hp
   ·have:=ha p hp;refine⟨this.1,this.2.1,?_⟩;rw[pf];split
    ·rfl
    ·exact this.2.2
   ·obtain rfl:=aa3.1 hp;refine⟨by omega,by omega,?_⟩;rw[pf,aae,if_pos rfl]) (by
   rw[List.nodup_append];refine⟨hn,by simp,λa ha' b hb e=>?_⟩;obtain rfl:=aa3.1 hb;exact PV (e▸ha'))
  refine⟨k1,k2,k3,?_,λp hp=>?_,λp hp=>k6 p (List.mem_append_left _ hp),λp hp=>?_⟩
  ·rw[k4,aaj,aaA,aar];omega
  ·rcases k5 p hp with h3|h3
   ·rcases aaH.1 h3 with h3|h3
    ·exact .inl h3
    ·obtain rfl:=aa3.1 h3;right
     rw[aae];exact h2
   ·right
    rw[pf] at h3;split at h3
    ·cases h3
    ·exact h3
  ·rw[k7 p hp,pf];constructor
   ·rintro(h3|h3)
    ·split at h3
     ·rename_i e;right;rw[e];exact k6 _ (adY _ aah)
     ·exact .inl h3
    ·exact .inr h3
   ·rintro(h3|h3)
    ·left;split
     ·rfl
     ·exact h3
    ·exact .inr h3
theorem nO (nm:ByteArray):∀(l:List ae) (i:Nat),bf nm l i= -1\/((i:Int)<=bf nm l i/\bf nm l i<(i+l.length:Nat))
 | [],i=>.inl rfl
 | c::l,i=>by
  have:=nO nm l (i+1);unfold bf;rw[aar];split
  ·exact .inr ⟨by omega,by omega⟩
  ·rcases this with h|h
   ·exact .inl h
   ·exact .inr ⟨by omega,by omega⟩
theorem rh {cont:List ae} {line:Int}:∀{l:List ByteArray} {dy cs:List Int},dl cont line l dy=.ok cs->(∀k∈dy,0<=k/\k<cont.length)->(∀k∈cs,0<=k/\k<cont.length)/\cs.length=dy.length+l.length/\cs=dy++l.map λs=>bf s cont 0
 | [],dy,cs,h,ha=>by
  injection h with h
  subst h;exact⟨ha,by simp,by simp⟩
 | s::l,dy,cs,h,ha=>by
  unfold dl at h;split at h
  ·cases h
  rename_i h1;have hi:0<=bf s cont 0/\bf s cont 0<cont.length:=by
   rcases nO s cont 0 with h3|h3<;>omega
  obtain⟨k1,k2,k3⟩:=rh h λk hk=>by
   rcases aaH.1 hk with hk|hk
   ·exact ha k hk
   ·obtain rfl:=aa3.1 hk;exact hi
  refine⟨k1,by rw[k2,aaj,aaA,aar];omega,?_⟩;rw[k3,abH,aaR];rfl
structure Pk (n m:Nat) (s:ai):Prop where
 prec:∀p∈s.prec,0<=p/\p<n
 nodup:s.prec.Nodup
 cont:∀k∈s.cont,0<=k/\k<m
 lcont:1<=s.cont.length/\s.cont.length<=4
structure Fb (n m:Nat) (l:List ai):Prop where
 each:∀s∈l,Pk n m s
 once:∀i j:Nat,∀s t:ai,l[i]?=some s->l[j]?=some t->∀p,p∈s.prec->p∈t.prec->i=j
theorem wY {prec:List ByteArray} {cont:List ae}:∀{vs:List aF} {ss:List ai} {used:List Bool} {done l:List ai},dN prec cont vs ss used done=.ok l->(∀v∈vs,dc (v.s af) 12=0/\dc (v.s ax) 4=0)->vs.length=ss.length->Pj prec.length used done->Fb prec.length cont.length done-> Fb prec.length cont.length l/\l.length=done.length+ss.length/\∀p:Nat,p<prec.length->∃s∈l,(p:Int)∈s.prec
 | v::vs,s::ss,used,done,l,h,hv,hl,hu,hd=>by
  unfold dN at h;split at h
  ·cases h
  rename_i lX ps h1;split at h
  ·cases h
  rename_i cs h2;obtain⟨k1,k2,k3,k4,k5,_,k7⟩:=qY h1 hu.len (λp hp=>by cases hp) List.nodup_nil;obtain⟨c1,c2,_⟩:=rh h2 (λp hp=>by cases hp);have hvv:=hv v aah;have hlc:=oo hvv.2 (by decide);have lM:Pk prec.length cont.length ⟨s.name,ps,cs⟩:=⟨k2,k3,c1,by
   show 1<=cs.length/\cs.length<=4;rw[c2,aa1,aa6];omega⟩
  obtain⟨r1,r2,r3⟩:=wY h (λv Jh=>hv v (aap _ Jh)) (by simpa using hl) (⟨k1,λp hp=>by
   rw[k7 p hp,hu.mem p hp];constructor
   ·rintro(⟨t,ht,h3⟩|h3)
    ·exact⟨t,List.mem_append_left _ ht,h3⟩
    ·exact⟨_,adY _ aah,h3⟩
   ·rintro⟨t,ht,h3⟩;rcases aaH.1 ht with ht|ht
    ·exact .inl ⟨t,ht,h3⟩
    ·obtain rfl:=aa3.1 ht;exact .inr h3⟩:Pj prec.length lX (done++[⟨s.name,ps,cs⟩])) ⟨λt ht=>by
   rcases aaH.1 ht with ht|ht
   ·exact hd.each t ht
   ·obtain rfl:=aa3.1 ht;exact lM,by
   have key:∀(i:Nat) (t:ai),(done++[⟨s.name,ps,cs⟩])[i]?=some t->(i<done.length/\done[i]?=some t)\/(i=done.length/\t=⟨s.name,ps,cs⟩):=by
    intro i t ht;by_cases hi:i<done.length
    ·rw[aai hi] at ht;exact .inl ⟨hi,ht⟩
    ·have hlt:=(aab.1 ht).1;rw[aaj,aaA] at hlt;obtain rfl:i=done.length:=by omega
     rw[aaf (aam _),aek] at ht;injection ht with ht
     exact .inr ⟨rfl,ht.symm⟩
   have U7:∀(i:Nat) (t:ai),done[i]?=some t->∀p,p∈t.prec->p∉ps:=by
    intro i t ht p hp Xx;have hb:=(hd.each t (abL ht)).prec p hp;rcases k5 p Xx with h3|h3
    ·cases h3
    ·have:=(hu.mem p.toNat (by omega)).2 ⟨t,abL ht,by rw[show((p.toNat:Nat):Int)=p by omega];exact hp⟩;rw[h3] at this;cases this
   intro i j t u ht sw p hp hq;rcases key i t ht with⟨_,ht⟩|⟨e1,e2⟩
   ·rcases key j u sw with⟨_,sw⟩|⟨e3,e4⟩
    ·exact hd.once i j t u ht sw p hp hq
    ·subst e4;exact absurd hq (U7 i t ht p hp)
   ·rcases key j u sw with⟨_,sw⟩|⟨e3,e4⟩
    ·subst e2;exact absurd hp (U7 j u sw p hq)
    ·omega⟩
  refine⟨r1,?_,r3⟩;rw[r2,aaj,aaA,aar];omega
 | [],ss,used,done,l,h,_,hl,hu,hd=>by
  have hs:ss=[]:=aaw (by simpa using hl.symm);subst hs;unfold dN at h;split at h
  ·cases h
  rename_i h1;injection h with h
  subst h;refine⟨hd,by simp,λp hp=>(hu.mem p hp).1 ?_⟩;cases e:used.getD p false with
  | true=>rfl
  | false=>
   exfalso
   refine h1 (List.contains_iff_mem.2 ?_);have hp2:p<used.length:=by rw[hu.len];exact hp
   rw[aac,aaa hp2] at e;have e:used[p]=false:=e;rw[<-e];exact aaG _
 | v::vs,[],used,done,l,h,_,hl,hu,hd=>by cases hl
structure vA (e:aa):Prop where
 dots:2<=e.dots/\e.dots<=7
 marks:1<=e.blank/\e.blank<=e.marked/\e.marked<=100
 scan:1<=e.scan/\e.scan<=6
 batch:1<=e.batch/\e.batch<=16
 prec:1<=e.prec.length/\e.prec.length<=12
 lcont:e.cont.length<=4
 lstyl:e.styl.length<=6
 cont:∀c∈e.cont,Vt c
 styl:Fb e.prec.length e.cont.length e.styl
 has:∀p:Nat,p<e.prec.length->∃s∈e.styl,(p:Int)∈s.prec
theorem uo:dU=[bR,aO,af,aj,aA,bG,bo]:=by rfl
theorem JS {s:bP} (h:(bY s).2.no=0):vA (bY s).1:=by
 unfold bY at h ⊢;split at h
 ·cases h
 rename_i h1;rw[if_neg h1];split at h
 ·rename_i h2;exact absurd h h2
 rename_i h2;rw[if_neg h2];split at h
 ·cases h
 rename_i h3;rw[if_neg h3];have hb:=u6 (Cn s.title) (aa2.1 h2);generalize (ck s.blocks (cm.start s.title)).2=b at h h3 hb ⊢;have hk:∀k∈dU,b.of k≠[]:=λk hk he=>h3 (adG.2 ⟨k,hk,decide_eq_true he⟩);split at h
 ·rename_i e he;exfalso
  have:∀{vs:List aF} {ss:List ai} {u:List Bool} {d:List ai} {e:dH},dN b.e.prec b.e.cont vs ss u d=.error e->e.no≠0:=by
   have hp:∀{line:Int} {l:List ByteArray} {u:List Bool} {dy:List Int} {e:dH},cM b.e.prec line l u dy=.error e->e.no≠0:=by
    intro line l;induction l with
    | nil=>intro u dy e h;cases h
    | cons s l ih=>
     intro u dy e h;unfold cM at h;split at h
     ·injection h with h;subst h;exact(by omega:(2:Int)≠0)
     split at h
     ·injection h with h;subst h;exact(by omega:(3:Int)≠0)
     ·exact ih h
   have hc:∀{line:Int} {l:List ByteArray} {dy:List Int} {e:dH},dl b.e.cont line l dy=.error e->e.no≠0:=by
    intro line l;induction l with
    | nil=>intro dy e h;cases h
    | cons s l ih=>
     intro dy e h;unfold dl at h;split at h
     ·injection h with h;subst h;exact(by omega:(2:Int)≠0)
     ·exact ih h
   intro vs;induction vs with
   | nil=>
    intro ss u d e h;unfold dN at h;split at h
    ·injection h with h;subst h;decide
    ·cases h
   | cons v vs ih=>
    intro ss u d e h;cases ss with
    | nil=>
     unfold dN at h;split at h
     ·injection h with h;subst h;decide
     ·cases h
    | cons s ss=>
     unfold dN at h;split at h
     ·rename_i e' h1;injection h with h;subst h;exact hp h1
     ·split at h
      ·rename_i e' h1;injection h with h;subst h;exact hc h1
      ·exact ih h
  exact this (vs:=b.vals) (ss:=b.e.styl) he h
 ·rename_i l hl;have hl:dN b.e.prec b.e.cont b.vals b.e.styl (List.replicate b.e.prec.length false) []=.ok l:=hl;obtain⟨r1,r2,r3⟩:=wY hl hb.styl (by have:=hb.lstyl;omega) ⟨by simp,λp hp=>by simp[hp]⟩ ⟨(λs hs=>by cases hs),(λi j s t hs=>by cases hs)⟩;have h4:=hb.scan (hk _ (by rw[uo];simp));have h5:=hb.scanners (hk _ (by rw[uo];simp));have h6:=oo (hb.prec (hk _ (by rw[uo];simp))) (by decide);have h7:=hb.lcont;have h8:=hb.lstyl;exact⟨h4.1,h4.2,h5.1,h5.2,⟨h6.1,by have:=h6.2;show b.e.prec.length<=12;omega⟩,(by show b.e.cont.length<=4;omega),(by show l.length<=6;rw[r2,aa1];omega),hb.cont,r1,r3⟩
theorem vg {α:Type} {f:α->α->Bool} (hf:∀a b,f a b=true->a=b):∀{l m:List α},fY f l m=true->l=m
 | [],[],_=>rfl
 | x::l,y::m,h=>by
  simp only[fY,aal] at h;rw[hf _ _ h.1,vg hf h.2]
 | [],_::_,h=>by cases h
 | _::_,[],h=>by cases h
theorem yl {a b:ai} (h:aZ a b=true):a=b:=by
 unfold aZ at h;simp only[aal,decide_eq_true_eq] at h;obtain⟨h1,h2,h3⟩:=h;cases a;cases b;simp_all
theorem tA {a b:ae} (h:aK a b=true):a=b:=by
 unfold aK at h;simp only[aal,decide_eq_true_eq] at h;cases a;cases b;simp_all
theorem Ft {e:aa} (h:fp e=true):vA e:=by
 unfold fp jz at h;simp only[aal,decide_eq_true_eq] at h;obtain⟨h0,_,_,h2,h3,h4,h5,h6,h7,h8,h9,_⟩:=h;have hf:=JS h0;have h6:=vg (λ_ _=>tA) h6;have h7:=vg (λ_ _=>yl) h7;obtain⟨g1,g2,g3,g4,g5,g6,g7,g8,g9,g10⟩:=hf;rw[h2] at g1;rw[h3,h4] at g2;rw[h8] at g3;rw[h9] at g4;rw[h5] at g5 g9 g10;rw[h6] at g6 g8 g9;rw[h7] at g7 g9 g10;exact⟨g1,g2,g3,g4,g5,g6,g7,g8,g9,g10⟩
section
variable {w w':World} {S:Nat->Prop} {e:Ending} {P:Program} {f:FuncId}
abbrev T9 (w:World) (S:Nat->Prop) (al:Bool) (x:XV) (e:Ending) (w':World):Prop:=∃v S',e=.returned v/\Below w.heap.size w w'/\(∀b,S' b->(al=true/\S b)\/(w.heap.size<=b/\b<w'.heap.size))/\XR [] w' S' x v
theorem Gx:∀{n:Nat} {l:List XV} {t:Nat} {y:XV},(t,y)∈pc n l->n<=t
 | _,[],_,_,h=>by cases h
 | n,x::l,t,y,h=>by
  rcases aas.1 h with e|h
  ·injection e with e _;omega
  ·have:=Gx h;omega
theorem aaZ {w:World} {S:Nat->Prop}:∀{us vs:List Value} {n:Nat},vs.length=us.length->(∀t y,(t,y)∈pc n (us.map λu=>XV.one (.sym u))->∃v,vs[t-n]?=some v/\XR [] w S y v)->vs=us
 | [],[],_,_,_=>rfl
 | [],_::_,_,h,_=>by cases h
 | _::_,[],_,h,_=>by cases h
 | u::us,v::vs,n,hl,h=>by
  obtain⟨v',h1,h2,_⟩:=h n _ aah;rw[aek] at h1;injection h1 with h1
  subst h1 h2;refine congrArg (v::·) (aaZ (w:=w) (S:=S) (n:=n+1) (by simpa using hl) λt y hy=>?_);obtain⟨k,rfl⟩:∃k,t=n+1+k:=⟨t-(n+1),by have:=Gx hy;omega⟩;have:=h _ y (aap _ hy);rw[show n+1+k-n=k+1 by omega] at this;rw[show n+1+k-(n+1)=k by omega];exact this
theorem u4 {al:Bool} {l0:List (Nat×SS)} {G:bM l0->T XV} (us:bM l0->List Value) (h:∀(w:World) (S:Nat->Prop) (x:bM l0) (r:XV),Wd w->(G x).hit r->Calls P f (us x).toArray w (T9 w S al r)) (hu:∀x,(cH l0 x).env=pc 0 ((us x).map λu=>XV.one (.sym u)):=by intro x;rfl) (hl:∀x,(us x).length=l0.length:=by intro x;rfl) (lF:∀x:bM l0,(cH l0 x).heap=[]:=by intro x;rfl):au P f al (aD l0 G):=
 yu (λw S x vs r hW hS he zJ hr=>by
  obtain rfl:vs=us x:=aaZ (n:=0) (zJ.trans (hl x).symm) λt y hy=>he t y (by rw[hu x];exact hy);exact h w S x r hW hr) lF
theorem E9 {al:Bool} {v:Value} (hv:v.oneCell'=true) (h:iT w v e w'):T9 w S al (.one (.sym v)) e w':=⟨v,λ_=>False,h.1,h.2,λ_ q=>q.elim,rfl,hv⟩
theorem ajS {al:Bool} {x:XV} {v:Value} (hx:XR [] w' (λ_=>False) x v) (h:vj w v e w'):T9 w S al x e w':=⟨v,λ_=>False,h.1,by obtain⟨n,rfl⟩:=h.2;exact below_drewN (Below.refl _ _) n,λ_ q=>q.elim,hx⟩
theorem ajR {al:Bool} {x:XV} {v:Value} (hx:XR [] w' (λ_=>False) x v) (h:iT w v e w'):T9 w S al x e w':=⟨v,λ_=>False,h.1,h.2,λ_ q=>q.elim,hx⟩
theorem xrT:∀{us:List Value},(∀u∈us,u.oneCell'=true)->XR [] w S (.tup (us.map λu=>(false,[.sym u]))) (.tuple us.toArray):=λ{us} h=>⟨us,rfl,by
 induction us with
 | nil=>exact .nil
 | cons u us ih=>exact .cons ⟨_,rfl,rfl,h u aah⟩ (ih λv hv=>h v (aap _ hv))⟩
end
theorem wL:au Tryz.prog 57 false (aD [(0,sS),(1,sI),(2,sI)] λ((s:ByteArray),(a:Int),(b:Int),_)=>.nd (cZ s) (.lf (aB (cU s a b)))):=
 u4 (λ((s:ByteArray),(a:Int),(b:Int),_)=>[.string s,.int .i64 a,.int .i64 b]) λw S ⟨(s:ByteArray),(a:Int),(b:Int),_⟩ r _ ⟨hs,hr⟩=>by
  obtain rfl:aB (cU s a b)=r:=hr;exact Calls.mono (AK s a b w hs) λ_ _ h=>E9 rfl h
abbrev aT (us:List Value):XV:=.tup (us.map λu=>(false,[.sym u]))
theorem F1:au Tryz.prog 196 false (aD [(0,sS)] λ((s:ByteArray),_)=>.nd (s.size<=9223372036854775807) (.lf (aT [.int .i64 (bI s.data.toList).1,.bool (bI s.data.toList).2]))):=
 u4 (λ((s:ByteArray),_)=>[.string s]) λw S ⟨(s:ByteArray),_⟩ r _ ⟨hs,hr⟩=>by
  obtain rfl:aT [.int .i64 (bI s.data.toList).1,.bool (bI s.data.toList).2]=r:=hr;exact Calls.mono (Wq s w hs) λ_ _ h=>ajR (xrT (us:=[.int .i64 (bI s.data.toList).1,.bool (bI s.data.toList).2]) (by simp[Value.oneCell'])) h
theorem S8:au Tryz.prog 194 false (aD [(0,sS),(1,sS)] λ((s:ByteArray),(t:ByteArray),_)=>.nd (s.size<=9223372036854775807/\t=⟨#[47]⟩) (.lf (aT [.string ⟨(dn s.data.toList).toArray⟩,.string ⟨(cY s.data.toList).toArray⟩,.bool (ij s.data.toList)]))):=
 u4 (λ((s:ByteArray),(t:ByteArray),_)=>[.string s,.string t]) λw S ⟨(s:ByteArray),(t:ByteArray),_⟩ r _ ⟨⟨hs,ht⟩,hr⟩=>by
  obtain rfl:aT [.string ⟨(dn s.data.toList).toArray⟩,.string ⟨(cY s.data.toList).toArray⟩,.bool (ij s.data.toList)]=r:=hr;subst ht;exact Calls.mono (OE s w hs) λ_ _ h=>ajS (xrT (us:=[.string ⟨(dn s.data.toList).toArray⟩,.string ⟨(cY s.data.toList).toArray⟩,.bool (ij s.data.toList)]) (by simp[Value.oneCell'])) h
theorem Pb:au Tryz.prog 143 false (aD [(0,sS)] λ((s:ByteArray),_)=>.nd (s.size<=9223372036854775807) (.lf (aB (gH s.data.toList)))):=
 u4 (λ((s:ByteArray),_)=>[.string s]) λw S ⟨(s:ByteArray),_⟩ r _ ⟨hs,hr⟩=>by
  obtain rfl:aB (gH s.data.toList)=r:=hr;exact Calls.mono (He s w hs) λ_ _ h=>E9 rfl h
theorem SV.xr {w:World} {S:Nat->Prop} {v:Value} (k:Nat) {x:Fc k} (h:@SV _ (wD k) w S v x):XR [] w S (.agg (jV (.st k) x)) v:=let ⟨cs,e,h⟩:=h;⟨cs,e,jg (t:=.st k) h⟩
theorem Og:au Tryz.prog 230 false (aD [(0,sI),(1,sI)] λ((a:Int),(b:Int),_)=>.nd (bX a/\bX b) (.lf (.agg (jV (.st 8) (eS a b).raw)))):=
 u4 (λ((a:Int),(b:Int),_)=>[.int .i64 a,.int .i64 b]) λw S ⟨(a:Int),(b:Int),_⟩ r _ ⟨⟨⟨h1,h2⟩,h3,h4⟩,hr⟩=>by
  obtain rfl:XV.agg (jV (.st 8) (eS a b).raw)=r:=hr;refine Calls.mono (SG a b w h1 h2 h3 h4) λe w' ⟨v,e1,e2,e3⟩=>⟨v,bZ w w',e1,e3,λb q=>.inr q,SV.xr 8 (x:=(eS a b).raw) e2⟩
theorem E6 {w:World} {S:Nat->Prop} {x:Raw} {v:Value} (h:XR [] w S (.agg (jV (.st 8) x)) v):SV w S v x:=by
 obtain⟨vs,rfl,hf⟩:=h;exact⟨vs,rfl,jr (t:=.st 8) (us:=jV (.st 8) x) rfl hf⟩
theorem GZ:au Tryz.prog 54 false (aD [(0,.st 8),(1,.st 8)] λ((a:Raw),(b:Raw),_)=>.nd (a.short 67108864/\b.short 67108864) (.lf (aI (mG a.q b.flip.q)))):=
 fK λw S x vs r hS he hl hr=>by
  obtain⟨(a:Raw),(b:Raw),_⟩:=x;obtain⟨v,h1,h2⟩:=he 0 (.agg (jV (.st 8) a)) aah;obtain⟨v',ib,zP⟩:=he 1 (.agg (jV (.st 8) b)) (aap _ aah);obtain⟨⟨k1,k2⟩,rfl⟩:=hr
  match vs,hl,h1,ib with
  | [u,u'],_,h1,ib=>
   injection h1 with h1
   injection ib with ib
   subst h1 ib;exact Calls.mono (Ti (E6 h2) (E6 zP) hS hS k1 k2) λe w' h=>⟨_,λ_=>False,h.1,h.2,λ_ q=>q.elim,rfl,rfl⟩
theorem Rx:au Tryz.prog 147 false (aD [(0,sL),(1,sI)] λ((l:List ByteArray),(n:Int),_)=>.nd (∀s∈l,cZ s) (.lf (aI (dc l n)))):=
 fK λw S x vs r hS he hl hr=>by
  obtain⟨(l:List ByteArray),(n:Int),_⟩:=x;obtain⟨v,h1,A,q,c,h2,h3,_⟩:=he 0 (.one (.list .str l false)) aah;obtain⟨v',ib,zP,_⟩:=he 1 (aI n) (aap _ aah);obtain⟨hn,rfl⟩:=hr
  match vs,hl,h1,ib with
  | [u,u'],_,h1,ib=>
   injection h1 with h1
   injection ib with ib
   subst h1 ib h2 zP;exact Calls.mono (Rv n h3 hS hn) λ_ _ h=>E9 rfl h
theorem Gy:au Tryz.prog 106 false (aD [(0,sL),(1,sS)] λ((l:List ByteArray),(s:ByteArray),_)=>.lf (aI (Lib.idxOfS l s))):=
 fK λw S x vs r hS he hl hr=>by
  obtain⟨(l:List ByteArray),(s:ByteArray),_⟩:=x;obtain⟨v,h1,A,q,c,h2,h3,_⟩:=he 0 (.one (.list .str l false)) aah;obtain⟨v',ib,zP,_⟩:=he 1 (aS s) (aap _ aah);obtain rfl:=hr
  match vs,hl,h1,ib with
  | [u,u'],_,h1,ib=>
   injection h1 with h1
   injection ib with ib
   subst h1 ib h2 zP;exact Calls.mono (RX h3 s) λ_ _ h=>E9 rfl ⟨h.1,h.2▸Below.refl _ _⟩
theorem GL:au Tryz.prog 144 false (aD [(0,sL),(1,sS)] λ((l:List ByteArray),(s:ByteArray),_)=>.lf (aB (Lib.containsS l s))):=
 fK λw S x vs r hS he hl hr=>by
  obtain⟨(l:List ByteArray),(s:ByteArray),_⟩:=x;obtain⟨v,h1,A,q,c,h2,h3,_⟩:=he 0 (.one (.list .str l false)) aah;obtain⟨v',ib,zP,_⟩:=he 1 (aS s) (aap _ aah);obtain rfl:=hr
  match vs,hl,h1,ib with
  | [u,u'],_,h1,ib=>
   injection h1 with h1
   injection ib with ib
   subst h1 ib h2 zP;exact Calls.mono (pE h3 s) λ_ _ h=>E9 rfl ⟨h.1,h.2▸Below.refl _ _⟩
theorem qO:au Tryz.prog 80 false (aD [(0,sL)] λ((l:List ByteArray),_)=>.nd (l.length<=1099511627776) (.lf (.one (.list .str l false)))):=
 fK λw S x vs r hS he hl hr=>by
  obtain⟨(l:List ByteArray),_⟩:=x;obtain⟨v,h1,A,q,c,h2,h3,_⟩:=he 0 (.one (.list .str l false)) aah;obtain⟨hn,rfl⟩:=hr
  match vs,hl,h1 with
  | [u],_,h1=>
   injection h1 with h1
   subst h1 h2;refine Calls.mono (JW h3 (by rw[<-h3.len];exact hn)) λe w' h=>?_;obtain⟨v',rfl,ho,h2⟩:=h;obtain⟨A,q,c,rfl,_⟩:=ho.slice;exact⟨_,bZ w w',rfl,h2,λb q=>.inr q,A,q,c,rfl,ho.fresh (aam _),λe=>by cases e⟩
def U8 (F:ByteArray->XV) (d:XV) (k:ByteArray):List ByteArray->T XV
 | []=>.lf d
 | a::l=>.br (k.toList==a.toList) (.lf (F a)) (U8 F d k l)
theorem G3 {F:ByteArray->XV} {d:XV} {k:ByteArray}:∀{l:List ByteArray},(k∉l->∀(w:World) (S:Nat->Prop) (v:Value),XR [] w S d v->XR [] w S (F k) v)->∃q,(U8 F d k l).hit q/\∀(w:World) (S:Nat->Prop) (v:Value),XR [] w S q v->XR [] w S (F k) v
 | [],h=>⟨_,rfl,h (by simp)⟩
 | a::l,h=>by
  by_cases e:k=a
  ·subst e;exact⟨_,aH (by simp) rfl,λ_ _ _ h=>h⟩
  ·obtain⟨q,h1,h2⟩:=G3 (k:=k) (l:=l) λhl=>h (by simp[e,hl]);exact⟨q,aP (by rw[dJ];exact decide_eq_false e) h1,h2⟩
theorem uY {f:FuncId} {F:ByteArray->XV} {d:XV} {l:List ByteArray} (h:au Tryz.prog f true (aD [(0,sS)] λ((k:ByteArray),_)=>U8 F d k l)) (hd:∀k,k∉l->F k=d\/∃xs:List ByteArray,xs=[]/\F k=.one (.list .str xs true)/\d=.one (.val (.slice none 0 0))):au Tryz.prog f true (aD [(0,sS)] λ((k:ByteArray),_)=>.lf (F k)):=
 h.imp λ⟨(k:ByteArray),_⟩ r hr=>by
  obtain rfl:F k=r:=hr;refine G3 λhn w S v hv=>?_;rcases hd k hn with e|⟨xs,e,e1,e2⟩
  ·rw[e];exact hv
  ·subst e;rw[e1];rw[e2] at hv;exact⟨none,0,0,hv.1,RS.nil _ _,λ_ _=>rfl⟩
abbrev Vj (xs:List ByteArray):XV:=.one (.list .str xs true)
abbrev abC:XV:=.one (.val (.slice none 0 0))
theorem qC:au Tryz.prog 141 true (aD [(0,sS)] λ((k:ByteArray),_)=>.lf (Vj (aJ k))):=
 uY (F:=λk=>Vj (aJ k)) (bg (C:=C0) (nL _ _) true 99 [(0,sS)] (λ((k:ByteArray),_)=>U8 (λk=>Vj (aJ k)) abC k dU) (λ_ _ _ h=>⟨h,.inl rfl⟩) Tryz.func141) λk h=>.inr ⟨_,by simp only[dU,aas,aaC,or_false,not_or] at h;simp[aJ,h],rfl,rfl⟩
abbrev ajt:List ByteArray:=[⟨#[109,101,116,104,111,100]⟩,⟨#[116,105,101,115]⟩,⟨#[111,118,101,114,118,111,116,101]⟩,⟨#[115,107,105,112]⟩]
theorem Cg:au Tryz.prog 169 true (aD [(0,sS)] λ((k:ByteArray),_)=>.lf (Vj (az k))):=
 uY (F:=λk=>Vj (az k)) (bg (C:=C0) (nL _ _) true 99 [(0,sS)] (λ((k:ByteArray),_)=>U8 (λk=>Vj (az k)) abC k ajt) (λ_ _ _ h=>⟨h,.inl rfl⟩) Tryz.func169) λk h=>.inr ⟨_,by simp only[aas,aaC,or_false,not_or] at h;simp[az,h],rfl,rfl⟩
theorem RD:au Tryz.prog 146 true (aD [(0,sS)] λ((k:ByteArray),_)=>.lf (aI (bB k))):=
 uY (F:=λk=>aI (bB k)) (bg (C:=C0) (nL _ _) true 99 [(0,sS)] (λ((k:ByteArray),_)=>U8 (λk=>aI (bB k)) (aI 0) k [⟨#[110,97,109,101,115]⟩,⟨#[112,114,101,99,105,110,99,116,115]⟩,⟨#[99,111,110,116,101,115,116,115]⟩,⟨#[99,97,110,100,105,100,97,116,101,115]⟩]) (λ_ _ _ h=>⟨h,.inl rfl⟩) Tryz.func146) λk h=>.inl (by simp only[aas,aaC,or_false,not_or] at h;simp[bB,h])
theorem Tl:au Tryz.prog 145 true (aD [(0,sS)] λ((k:ByteArray),_)=>.lf (aI (cE k))):=
 uY (F:=λk=>aI (cE k)) (bg (C:=C0) (nL _ _) true 99 [(0,sS)] (λ((k:ByteArray),_)=>U8 (λk=>aI (cE k)) (aI 6) k [aj]) (λ_ _ _ h=>⟨h,.inl rfl⟩) Tryz.func145) λk h=>.inl (by simp only[aa3] at h;rw[show cE k=6 from if_neg h])
theorem Tp:au Tryz.prog 197 true (aD [(0,sS)] λ((k:ByteArray),_)=>.lf (aT [.int .i64 (dj k).1,.int .i64 (dj k).2])):=
 uY (F:=λk=>aT [.int .i64 (dj k).1,.int .i64 (dj k).2]) (bg (C:=C0) (nL _ _) true 99 [(0,sS)] (λ((k:ByteArray),_)=>U8 (λk=>aT [.int .i64 (dj k).1,.int .i64 (dj k).2]) (aT [.int .i64 0,.int .i64 0]) k
  [⟨#[100,111,116,115]⟩,ct,bF,⟨#[99,111,117,110,116]⟩,⟨#[98,97,116,99,104]⟩,bz,⟨#[114,97,110,107,115]⟩,aC,⟨#[99,101,108,108]⟩]) (λ_ _ _ h=>⟨h,.inl rfl⟩) Tryz.func197) λk h=>.inl (by simp only[ct,bF,bz,aC,aas,aaC,or_false,not_or] at h;simp[dj,h])
theorem IW:au Tryz.prog 142 true (aD [(0,sS)] λ((k:ByteArray),_)=>.lf (aB (kb k))):=
 bg (C:=C0) (nL _ _) true 99 [(0,sS)] (λ((k:ByteArray),_)=>.br (k.toList==aj.toList) (.lf (aB true)) (.lf (aB (k.toList==(⟨#[115,116,121,108,101]⟩:ByteArray).toList)))) (λ⟨(k:ByteArray),_⟩ r _ h=>⟨by
  obtain rfl:aB (kb k)=r:=h;show(T.br _ _ _).hit (aB (if k=aj then true else if k=⟨#[115,116,121,108,101]⟩ then true else false));by_cases e:k=aj
  ·exact aH (by rw[e];simp) (by rw[if_pos e];rfl)
  ·refine aP (by rw[dJ];exact decide_eq_false e) ?_;rw[if_neg e,dJ];split<;>rename_i e2
   ·exact congrArg aB (decide_eq_true e2)
   ·exact congrArg aB (decide_eq_false e2),.inl rfl⟩) Tryz.func142
theorem Ee:au Tryz.prog 59 true (aD [] λ_=>.lf (Vj dU)):=
 bg (C:=C0) (nL _ _) true 99 [] (λ_=>.lf (Vj dU)) (λ_ _ _ h=>⟨h,.inl rfl⟩) Tryz.func59
end Go.Proofs.YtdbpbfglhbiadaaGreatDoor
