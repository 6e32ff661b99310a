/- MRun Tm1 MLp Bsc Lx1 Lx2 Lx3 -/
import Derived.Test.YtdbpbfglhbiadaaGreatDoorH00
import Derived.Test.YtdbpbfglhbiadaaGreatDoorH30
import Derived.Test.YtdbpbfglhbiadaaGreatDoorProg
import Derived.Lib.SlicesS
import Derived.Test.YtdbpbfglhbiadaaGreatDoorH01
import Derived.Test.YtdbpbfglhbiadaaGreatDoorH06
set_option maxHeartbeats 4000000
set_option maxRecDepth 100000
namespace Go.Proofs.YtdbpbfglhbiadaaGreatDoor
open Go Go.RowKit
def bd (f:Func):Code:=f.body.getD .skip
def abO (c:Code):Code:=match c with
 | .loop b=>b
 | _=>.skip
def xz (f:Func) (k:Nat):Code:=abO ((jg (bd f))[k]?.getD .skip)
abbrev sD (t:Ty):SS:=.c (.d t)
abbrev sI:SS:=sD tI
abbrev sS:SS:=sD .str
abbrev sB:SS:=sD .bool
abbrev sL:SS:=sD (.list .str)
abbrev aI (n:Int):XV:=.one (.sym (.int .i64 n))
abbrev aB (b:Bool):XV:=.one (.sym (.bool b))
abbrev aS (s:ByteArray):XV:=.one (.sym (.string s))
def Ua (v:Int):Bool:=decide (0<=v)
abbrev mi {P:Program} (C:eP P) (f:Func):Rg P f.ntmps:=X0 C f.ntmps f [] true (.inl rfl)
abbrev EK {P:Program} (C:eP P) (f:Func) (pb:List Nat):Rg P f.ntmps:=X0 C f.ntmps f pb false (.inr rfl)
abbrev fRg {P:Program} (C:eP P) (f:Func) (pb:List Nat) (tb:List (Nat×List Nat)):Rg P f.ntmps:=Qq (EK C f pb) tb
abbrev nL {P:Program} {m:Nat} (R:Rg P m) (f:Func):xm P R.fn m R.pb (jg (bd f)):=noL _ _ _ _ _
theorem Un {b:Code}:∀{c:Code} {k:Nat},(jg c)[k]?=some (.loop b)->∀(j:Nat) (x:Code),(jg b)[j]?=some x->(jg c)[k+1+j]?=some x:=by
 intro c;have two:∀{l1 l2:List Code} {k:Nat},(∀{k:Nat},l1[k]?=some (.loop b)->∀(j:Nat) (x:Code),(jg b)[j]?=some x->l1[k+1+j]?=some x)->(∀{k:Nat},l2[k]?=some (.loop b)->∀(j:Nat) (x:Code),(jg b)[j]?=some x->l2[k+1+j]?=some x)->(l1++l2)[k]?=some (.loop b)->∀(j:Nat) (x:Code),(jg b)[j]?=some x->(l1++l2)[k+1+j]?=some x:=by
  intro l1 l2 k h1 h2 h j x hj;by_cases hk:k<l1.length
  ·rw[aay hk] at h;have:=h1 h j x hj;rw[aay (aad.1 this).1];exact this
  ·rw[aar (by omega)] at h;have:=h2 h j x hj;rw[aar (by omega),show k+1+j-l1.length=k-l1.length+1+j by omega];exact this
 induction c with
 | seq x y hx hy=>intro k h;exact two hx hy h
 | cond q x y hx hy=>intro k h;exact two hx hy h
 | block i x hx=>intro k h;exact hx h
 | loop x hx=>
  intro k h j y hj;cases k with
  | zero=>
   injection h with h
   injection h with h
   subst h;rw[acg,adT];exact hj
  | succ k=>
   have:=hx (k:=k) (by simpa[jg] using h) j y hj;rw[show k+1+1+j=(k+1+j)+1 by omega];exact this
 | _=>intro k h;cases h
def cL {P:Program} {f:Func} (R:Rg P f.ntmps) (k d:Nat) (l lo lr:List (Nat×SS)) (G:aV l->T (LE l lo lr)):Prop:=∀c,(jg (bd f))[k]?=some c->Bp P R.fn f.ntmps R.pb c (lpT R.pb d l lo lr G)
theorem fy {P:Program} {f:Func} (R:Rg P f.ntmps) (L:xm P R.fn f.ntmps R.pb (jg (bd f))) (n k d:Nat) (l lo lr:List (Nat×SS)) (B:aV l->T (LE l lo lr)) {G:aV l->T (LE l lo lr)} (μ:aV l->Nat) (ct:∀x r,G1 l x->(G x).hit r->∃q,(B x).hit q/\match q with|.back x'=>μ x'<μ x/\(G x').hit r|q=>q=r) (hB:∀x,YU R L n k d (xz f k) l lo lr x=B x:=by intro x;kernel_rfl) (hk:(jg (bd f))[k]?=some (.loop (xz f k)):=by kernel_rfl):cL R k d l lo lr G:=by
 intro c hc;rw[hk] at hc;obtain rfl:=aaj hc;exact aeP R L (n:=n) (k:=k) μ (Un hk) λx r h0 h=>by rw[hB];exact ct x r h0 h
theorem aN {P:Program} {f:FuncId} {fn:Func} {C:eP P} (L:xm P (mi C fn).fn fn.ntmps (mi C fn).pb (jg (bd fn))) (al:Bool) (n:Nat) (l0:List (Nat×SS)) (B:aV l0->T XV) {G:aV l0->T XV} (h:∀x r,G1 l0 x->(G x).hit r->(B x).hit r/\(al=true\/r.plain=true)) (hf:P.funcs[f]?=some fn) (hB:∀x,fnT (mi C fn) L n (bd fn) l0 x=B x:=by intro x;kernel_rfl) (hln:l0.length<=fn.ntmps:=by decide) (hb:fn.body=some (bd fn):=by rfl):ao P f al (az l0 G):=
 pure_ok (mi C fn) L rfl rfl hf hb rfl al n l0 G hln λx r h0 h1=>by rw[hB];exact h x r h0 h1
theorem iA {P:Program} {f:FuncId} {fn:Func} {C:eP P} {pb:List Nat} (L:xm P (EK C fn pb).fn fn.ntmps (EK C fn pb).pb (jg (bd fn))) (n:Nat) (l0 lr:List (Nat×SS)) (B:aV l0->T (XV×aV lr)) {G:aV l0->T (XV×aV lr)} (h:∀x r,G1 l0 x->(G x).hit r->(B x).hit r) (hf:P.funcs[f]?=some fn) (hB:∀x,fnE (EK C fn pb) L n (bd fn) l0 lr x=B x:=by intro x;kernel_rfl) (nQ:pb≠[]:=by decide) (hln:l0.length<=fn.ntmps:=by decide) (hb:fn.body=some (bd fn):=by rfl):ew P f pb l0 lr G:=
 Gn (EK C fn pb) L rfl nQ hf hb rfl n l0 lr G hln λx r h0 h1=>by rw[hB];exact h x r h0 h1
theorem abg {P:Program} {f:FuncId} {fn:Func} {C:eP P} {pb:List Nat} (tb:List (Nat×List Nat)) (L:xm P (fRg C fn pb tb).fn fn.ntmps (fRg C fn pb tb).pb (jg (bd fn))) (n:Nat) (l0 lr:List (Nat×SS)) (B:aV l0->T (XV×aV lr)) {G:aV l0->T (XV×aV lr)} (h:∀x r,G1 l0 x->(G x).hit r->(B x).hit r) (hf:P.funcs[f]?=some fn) (hB:∀x,fnE (fRg C fn pb tb) L n (bd fn) l0 lr x=B x:=by intro x;kernel_rfl) (nQ:pb≠[]:=by decide) (hln:l0.length<=fn.ntmps:=by decide) (hb:fn.body=some (bd fn):=by rfl):ew P f pb l0 lr G:=
 Gn (fRg C fn pb tb) L rfl nQ hf hb rfl n l0 lr G hln λx r h0 h1=>by rw[hB];exact h x r h0 h1
theorem Ba {P:Program} {f:FuncId} {fn:Func} {R:Rg P fn.ntmps} (L:xm P R.fn fn.ntmps R.pb (jg (bd fn))) (n:Nat) (l0 lr:List (Nat×SS)) (B:aV l0->T (XV×aV lr)) {G:aV l0->T (XV×aV lr)} (h:∀x r,G1 l0 x->(G x).hit r->(B x).hit r) (hf:P.funcs[f]?=some fn) (hB:∀x,fnE R L n (bd fn) l0 lr x=B x:=by intro x;kernel_rfl) (Vp:R.fn=fn:=by rfl) (nQ:R.pb≠[]:=by decide) (hln:l0.length<=fn.ntmps:=by decide) (hb:fn.body=some (bd fn):=by rfl):ew P f R.pb l0 lr G:=
 Gn R L Vp nQ hf hb rfl n l0 lr G hln λx r h0 h1=>by rw[hB];exact h x r h0 h1
theorem pT {P:Program} {f:FuncId} {fn:Func} {R:Rg P fn.ntmps} (L:xm P R.fn fn.ntmps R.pb (jg (bd fn))) (al:Bool) (n:Nat) (l0:List (Nat×SS)) (B:aV l0->T XV) {G:aV l0->T XV} (h:∀x r,G1 l0 x->(G x).hit r->(B x).hit r/\(al=true\/r.plain=true)) (hf:P.funcs[f]?=some fn) (hB:∀x,fnT R L n (bd fn) l0 x=B x:=by intro x;kernel_rfl) (Vp:R.fn=fn:=by rfl) (nQ:R.pb=[]:=by rfl) (hln:l0.length<=fn.ntmps:=by decide) (hb:fn.body=some (bd fn):=by rfl):ao P f al (az l0 G):=
 pure_ok R L Vp nQ hf hb rfl al n l0 G hln λx r h0 h1=>by rw[hB];exact h x r h0 h1
noncomputable def shut {α:Type} (a:α):α:=Classical.choose (⟨a,rfl⟩:∃b,b=a)
theorem gi {α:Type} (a:α):shut a=a:=Classical.choose_spec (⟨a,rfl⟩:∃b,b=a)
theorem aC {α:Type} {b:Bool} {x y:T α} {r:α} (hb:b=true) (h:x.hit r):(T.br b x y).hit r:=⟨λ_=>h,λe=>by rw[hb] at e;cases e⟩
theorem aK {α:Type} {b:Bool} {x y:T α} {r:α} (hb:b=false) (h:y.hit r):(T.br b x y).hit r:=⟨(λe=>by rw[hb] at e;cases e),λ_=>h⟩
theorem hB {α:Type} {b:Bool} {x y:T α} {r:α} (h:(T.br b x y).hit r):(b=true/\x.hit r)\/(b=false/\y.hit r):=by
 cases b with
 | true=>exact .inl ⟨rfl,h.1 rfl⟩
 | false=>exact .inr ⟨rfl,h.2 rfl⟩
theorem ao.imp {P:Program} {f:FuncId} {al:Bool} {l0:List (Nat×SS)} {F G:aV l0->T XV} (h:ao P f al (az l0 F)) (hi:∀x r,(G x).hit r->∃q,(F x).hit q/\∀(w:World) (S:Nat->Prop) (v:Value),XR [] w S q v->XR [] w S r v):ao P f al (az l0 G):=λw S xs vs r hW hS hx hr=>by
 unfold az at hr;split at hr
 ·rename_i x iF;split at hr
  ·rename_i hl;obtain⟨q,h1,h2⟩:=hi x r hr;refine Calls.mono (h w S xs vs q hW hS hx (by unfold az;rw[iF];simp only[hl,if_true];exact h1)) λe w' ⟨v,S',e1,e2,e3,e4⟩=>⟨v,S',e1,e2,e3,h2 _ _ _ e4⟩
  ·exact hr.elim
 ·exact hr.elim
def wkA:AV->AV
 | .list t xs _=>.list t xs false
 | a=>a
def MP:XV->XV
 | .one a=>.one (wkA a)
 | .agg cs=>.agg (cs.map wkA)
 | .tup l=>.tup (l.map λp=>(p.1,p.2.map wkA))
theorem EY {bs:List Value} {w:World} {S:Nat->Prop} {x:AV} {v:Value} (h:VR bs w S x v):VR bs w S (wkA x) v:=by
 cases x with
 | list t xs q=>obtain⟨A,n,c,h1,h2,_⟩:=h;exact⟨A,n,c,h1,h2,λe=>by cases e⟩
 | _=>exact h
theorem EX {bs:List Value} {w:World} {S:Nat->Prop} {x:XV} {v:Value} (h:XR bs w S x v):XR bs w S (MP x) v:=by
 have hc:∀{ag:Bool} {cs:List AV} {v:Value},CR bs w S ag cs v->CR bs w S ag (cs.map wkA) v:=by
  intro ag cs v h;unfold CR at h ⊢;cases ag with
  | true=>obtain⟨vs,e,h⟩:=h;exact⟨vs,e,h.mapL λ_ _ _ h=>EY h⟩
  | false=>obtain⟨a,rfl,h⟩:=h;exact⟨_,rfl,EY h⟩
 cases x with
 | one b=>exact EY h
 | agg cs=>exact hc (ag:=true) h
 | tup l=>obtain⟨vs,e,h⟩:=h;exact⟨vs,e,h.mapL λ_ _ _ h=>hc h⟩
theorem ao.wk {P:Program} {f:FuncId} {al:Bool} {l0:List (Nat×SS)} {F G:aV l0->T XV} (h:ao P f al (az l0 F)) (hi:∀x r,(G x).hit r->∃q,(F x).hit q/\MP q=r):ao P f al (az l0 G):=h.imp λx r hr=>by
 obtain⟨q,h1,rfl⟩:=hi x r hr;exact⟨q,h1,λw S v h=>EX h⟩
theorem Rj {P:Program} {f:FuncId} {t:Ty} {g:List (El t)->List (El t)->Bool} (h:∀(S:Nat->Prop) (A:Option Addr) (n c:Nat) (A2:Option Addr) (n2 c2:Nat) (xs ys:List (El t)) (w:World),RS w S A n c xs->RS w S A2 n2 c2 ys->Calls P f #[.slice A n c,.slice A2 n2 c2] w (En w (.bool (g xs ys)))):ao P f false (az [(0,sD (.list t)),(1,sD (.list t))] λ((xs:List (El t)),(ys:List (El t)),_)=>.lf (aB (g xs ys))):=
 gQ λw S x vs r hS he hl hr=>by
  obtain⟨(xs:List (El t)),(ys:List (El t)),_⟩:=x;obtain⟨v,h1,A,q,c,h2,h3,_⟩:=he 0 (.one (.list t xs false)) aaz;obtain⟨v',jh,A2,q2,c2,EI,Lv,_⟩:=he 1 (.one (.list t ys false)) (aa0 _ aaz);obtain rfl:=hr
  match vs,hl,h1,jh with
  | [u,u'],_,h1,jh=>
   injection h1 with h1
   injection jh with jh
   subst h1 jh h2 EI;exact Calls.mono (h S A q c A2 q2 c2 xs ys w h3 Lv) λe w' ⟨e1,n,e2⟩=>⟨_,λ_=>False,e1,e2▸below_drewN (Below.refl _ _) n,λ_ q=>q.elim,rfl,rfl⟩
def VG {t:Ty} (g:FuncId) (q:List (El t)->List (El t)->Bool) (xs:List XV):T XV:=match xs with
 | [x,y,.one (.val (.func (.func k) a b))]=>if k=g/\a.size=0/\b.size=0 then az [(0,sD (.list t)),(1,sD (.list t))] (λ((xs:List (El t)),(ys:List (El t)),_)=>.lf (aB (q xs ys))) [x,y] else .bad
 | _=>.bad
theorem XU {P:Program} {f g:FuncId} {t:Ty} {q:List (El t)->List (El t)->Bool} (h:∀(S:Nat->Prop) (A:Option Addr) (n c:Nat) (A2:Option Addr) (n2 c2:Nat) (xs ys:List (El t)) (w:World),RS w S A n c xs->RS w S A2 n2 c2 ys->(∀b,S b->b<w.heap.size)->Calls P f #[.slice A n c,.slice A2 n2 c2,.func (.func g) #[] #[]] w (kB w (.bool (q xs ys)))):ao P f false (VG (t:=t) g q):=by
 intro w S xs vs r hW hS hx hr;unfold VG at hr;split at hr
 ·rename_i x y k a b;split at hr
  ·rename_i hc;obtain⟨rfl,ha,hb⟩:=hc;obtain rfl:=acp ha;obtain rfl:=acp hb;cases hx with
   | cons h1 hx=>cases hx with
    | cons h2 hx=>cases hx with
     | cons h3 hx=>
      cases hx
      obtain rfl:_=Value.func (.func k) #[] #[]:=h3.1;obtain⟨⟨(xs:List (El t)),(ys:List (El t)),_⟩,he,hl,hr⟩:=D9 hW hS (.cons h1 (.cons h2 .nil)) hr;obtain⟨v,g1,A,n,c,g2,g3,_⟩:=he 0 (.one (.list t xs false)) aaz;obtain⟨v',g1',A2,n2,c2,g2',g3',_⟩:=he 1 (.one (.list t ys false)) (aa0 _ aaz);obtain rfl:=hr;injection g1 with g1
      injection g1' with g1'
      subst g1 g1' g2 g2';exact Calls.mono (h S A n c A2 n2 c2 xs ys w g3 g3' hS) λe w' e1=>⟨_,λ_=>False,e1.1,e1.2,λ_ q=>q.elim,rfl,rfl⟩
  ·exact hr.elim
 ·exact hr.elim
def LX {α:Type} (ret:T α):List Bool->T α->T α
 | [],t=>t
 | b::l,t=>.br (!b) ret (LX ret l t)
theorem Jp {α:Type} {ret t:T α} {r:α} (h:t.hit r):∀(l:List Bool),l.all id=true->(LX ret l t).hit r
 | [],_=>h
 | b::l,hl=>by
  rw[acJ,aav] at hl;exact aK (by rw[show b=true from hl.1];rfl) (Jp h l hl.2)
theorem Jq {α:Type} {ret t:T α} {r:α} (h:ret.hit r):∀(l:List Bool),l.all id=false->(LX ret l t).hit r
 | b::l,hl=>by
  cases b with
  | false=>exact aC rfl h
  | true=>exact aK rfl (Jq h l hl)
def Mf {α:Type} (ret:T α):List Bool->T α->T α
 | [],t=>t
 | b::l,t=>.br b (Mf ret l t) ret
theorem qU {α:Type} {ret t:T α} {r:Bool->α} (hr:ret.hit (r false)) {y:Bool}:∀(l:List Bool),(l.all id=true->t.hit (r y))->(Mf ret l t).hit (r (l.all id&&y))
 | [],h=>h rfl
 | b::l,h=>by
  cases b with
  | false=>exact aK rfl hr
  | true=>exact aC rfl (qU hr l λhl=>h hl)
noncomputable def pG (t:TypeId):Option Ty:=List.lookup t [(9,.str),(3,tI)]
noncomputable def C0:eP Tryz.prog:=bA pG [] []
theorem cO {x y:ByteArray}:(x.toList==y.toList)=decide (x=y):=by
 have e:∀a:ByteArray,a.toList=a.data.toList:=ByteArray.toList_eq;rw[e,e];by_cases h:x=y
 ·subst h;simp
 ·rw[decide_eq_false h,beq_eq_false_iff_ne];intro h2;exact h (by cases x;cases y;simp at h2;rw[h2])
theorem getD_drop {α:Type} {xs:List α} {i:Nat} (d:α) (h:i<xs.length):xs.drop i=xs.getD i d::xs.drop (i+1):=by
 rw[aal,aac h];exact acT h
theorem VC:cL (mi C0 Tryz.f64) 0 0 [(0,sL),(1,sS),(5,sI)] [] [] λ((xs:List ByteArray),(s:ByteArray),(i:Int),_)=>
 .nd (0<=i/\i<=xs.length) (.br (Ua (Lib.idxFromS (xs.drop i.toNat) s i.toNat)) (.lf (.ret (aI (Lib.idxFromS (xs.drop i.toNat) s i.toNat)) ())) (.lf (.out ()))):=by
  refine fy _ (nL _ _) 99 0 0 [(0,sL),(1,sS),(5,sI)] [] [] (λ((xs:List ByteArray),(s:ByteArray),(i:Int),_)=>.br (decide (i<xs.length)) (.nd (0<=i/\i<xs.length) (.br ((xs.getD i.toNat ⟨#[]⟩).toList==s.toList) (.lf (.ret (aI i) ())) (.nd (cw (i+1)) (.lf (.back (xs,s,i+1,())))))) (.lf (.out ())))
   (λ((xs:List ByteArray),_,(i:Int),_)=>xs.length-i.toNat) ?_
  rintro⟨(xs:List ByteArray),(s:ByteArray),(i:Int),_⟩ r ⟨hl,_⟩ ⟨⟨h0,h1⟩,h⟩;have hl:xs.length<=9223372036854775807:=hl;obtain⟨k,rfl⟩:∃k:Nat,i=k:=⟨i.toNat,by omega⟩;simp only[aae,cO] at h ⊢;by_cases hi:k<xs.length
  ·rw[getD_drop ⟨#[]⟩ hi] at h;unfold Lib.idxFromS at h;by_cases hx:xs.getD k ⟨#[]⟩=s
   ·rw[if_pos hx] at h;exact⟨_,aC (decide_eq_true (by omega)) ⟨⟨by omega,by omega⟩,aC (decide_eq_true hx) rfl⟩,((hB h).resolve_right λq=>by have:=q.1;simp[Ua] at this).2⟩
   ·rw[if_neg hx] at h;exact⟨_,aC (decide_eq_true (by omega)) ⟨⟨by omega,by omega⟩,aK (decide_eq_false hx) ⟨⟨by omega,by omega⟩,rfl⟩⟩,by show xs.length-(k+1)<xs.length-k;omega,⟨by omega,by omega⟩,h⟩
  ·rw[aaQ (by omega)] at h;exact⟨_,aK (decide_eq_false (by omega)) rfl,((hB h).resolve_left λq=>by have:=q.1;simp[Ua,Lib.idxFromS] at this).2⟩
theorem lH:∀(xs:List ByteArray) (s:ByteArray) (i:Nat),0<=Lib.idxFromS xs s i\/Lib.idxFromS xs s i= -1
 | [],_,_=>.inr rfl
 | x::l,s,i=>by
  unfold Lib.idxFromS;split
  ·exact .inl (by omega)
  ·exact lH l s (i+1)
theorem find_ok:ao Tryz.prog 64 false (az [(0,sL),(1,sS)] λ((xs:List ByteArray),(s:ByteArray),_)=>.lf (aI (Lib.idxOfS xs s))):=
 aN (C:=C0) ((nL _ _).add 0 _ VC) false 99 [(0,sL),(1,sS)] (λ((xs:List ByteArray),(s:ByteArray),_)=>.nd ((0:Int)<=0/\(0:Int)<=xs.length) (.br (Ua (Lib.idxFromS xs s 0)) (.lf (aI (Lib.idxFromS xs s 0))) (.lf (aI (-1)))))
  (λ⟨xs,s,_⟩ r _ h=>⟨⟨⟨by omega,by omega⟩,by
   obtain rfl:aI (Lib.idxOfS xs s)=r:=h;rcases lH xs s 0 with h|h
   ·exact aC (decide_eq_true h) rfl
   ·exact aK (decide_eq_false (by omega)) (by show aI (-1)=aI (Lib.idxFromS xs s 0);rw[h])⟩,.inr (by obtain rfl:aI (Lib.idxOfS xs s)=r:=h;rfl)⟩) Tryz.func64
abbrev aT (us:List Value):XV:=.tup (us.map λu=>(false,[.sym u]))
def Dq {α σ ρ:Type} (st:α->σ->T (σ ⊕ ρ)):List α->σ->T (σ ⊕ ρ)
 | [],s=>.lf (.inl s)
 | a::l,s=>(st a s).bind λq=>match q with
  | .inl s'=>Dq st l s'
  | .inr r=>.lf (.inr r)
theorem T.bind_hit {α β:Type} {f:α->T β} {r:β} {q:α}:∀{t:T α},t.hit q->(f q).hit r->(t.bind f).hit r
 | .lf a,h,h2=>by obtain rfl:a=q:=h;exact h2
 | .br b x y,h,h2=>⟨λe=>T.bind_hit (h.1 e) h2,λe=>T.bind_hit (h.2 e) h2⟩
 | .nd p t,h,h2=>⟨h.1,T.bind_hit h.2 h2⟩
def LE.isB {l lo lr:List (Nat×SS)}:LE l lo lr->Bool
 | .back _=>true
 | _=>false
theorem cL.imp {P:Program} {f:Func} {R:Rg P f.ntmps} {k d:Nat} {l lo lr:List (Nat×SS)} {F G:aV l->T (LE l lo lr)} (h:cL R k d l lo lr F) (hi:∀x r,(G x).hit r->(F x).hit r):cL R k d l lo lr G:=λc hc cx st a w q nQ hh hs=>h c hc cx st a w q nQ (by
 unfold lpT at hh ⊢;split at hh
 ·obtain⟨r,h1,h2⟩:=T.hit_bind hh;exact T.bind_hit (hi _ r h1) h2
 ·exact hh) hs
def LE.nx {l lo lr:List (Nat×SS)} (q:LE l lo lr) (μ:aV l->Nat) (G:aV l->T (LE l lo lr)) (m:Nat) (r:LE l lo lr):Prop:=match q with
 | .back x=>μ x<m/\(G x).hit r
 | q=>q=r
theorem j1 {P:Program} {f:Func} (R:Rg P f.ntmps) (L:xm P R.fn f.ntmps R.pb (jg (bd f))) (n k d:Nat) (l lo lr:List (Nat×SS)) (B:aV l->T (LE l lo lr)) {G:aV l->T (LE l lo lr)} (μ:aV l->Nat) (ct:∀x r,G1 l x->(G x).hit r->∃q,(B x).hit q/\q.nx μ G (μ x) r) (hB:∀x,YU R L n k d (xz f k) l lo lr x=B x:=by intro x;kernel_rfl) (hk:(jg (bd f))[k]?=some (.loop (xz f k)):=by kernel_rfl):cL R k d l lo lr G:=
 fy R L n k d l lo lr B μ (λx r hb hr=>let ⟨q,h1,h2⟩:=ct x r hb hr;⟨q,h1,by cases q<;>exact h2⟩) hB hk
theorem aeQ {P:Program} {f:Func} (R:Rg P f.ntmps) (L:xm P R.fn f.ntmps R.pb (jg (bd f))) (n k d:Nat) (l lo lr:List (Nat×SS)) {α σ ρ:Type} (st:α->σ->T (σ ⊕ ρ)) (xs:aV l->List α) (ix:aV l->Int) (s:aV l->σ) (mk:aV l->σ->aV l) (fin:aV l->σ->LE l lo lr) (esc:aV l->ρ->LE l lo lr) (inv:aV l->Prop) (B:aV l->T (LE l lo lr)) {G:aV l->T (LE l lo lr)} (hG:∀x r,(G x).hit r->inv x/\0<=ix x/\ix x<=(xs x).length/\∃q,(Dq st ((xs x).drop (ix x).toNat) (s x)).hit q/\q.elim (fin x) (esc x)=r) (dQ:∀x a q,G1 l x->inv x->0<=ix x->(ix x).toNat<(xs x).length->(xs x)[(ix x).toNat]?=some a->(st a (s x)).hit q->(B x).hit (q.elim (λs'=>.back (mk x s')) (esc x))/\∀s',q=.inl s'->inv (mk x s')/\ix (mk x s')=ix x+1) (AI:∀x,G1 l x->inv x->ix x=(xs x).length->(B x).hit (fin x (s x))) (hmk:∀x s',xs (mk x s')=xs x/\s (mk x s')=s'/\fin (mk x s')=fin x/\esc (mk x s')=esc x:=by intro x s';exact⟨rfl,rfl,rfl,rfl⟩) (dS:∀x s',(fin x s').isB=false:=by intro x s';rfl) (alY:∀x e,(esc x e).isB=false:=by intro x e;rfl) (hB:∀x,YU R L n k d (xz f k) l lo lr x=B x:=by intro x;kernel_rfl) (hk:(jg (bd f))[k]?=some (.loop (xz f k)):=by kernel_rfl):cL R k d l lo lr G:=by
 have h1:cL R k d l lo lr λx=>.nd (inv x/\0<=ix x/\ix x<=(xs x).length) ((Dq st ((xs x).drop (ix x).toNat) (s x)).bind λq=>.lf (q.elim (fin x) (esc x))):=by
  refine fy R L n k d l lo lr B (λx=>(xs x).length-(ix x).toNat) (λx r hb ⟨⟨h0,h1,h2⟩,hr⟩=>?_) hB hk;have nb:∀{q:LE l lo lr},q.isB=false->q=r->match q with|.back x'=>(xs x').length-(ix x').toNat<(xs x).length-(ix x).toNat/\(T.nd (inv x'/\0<=ix x'/\ix x'<=(xs x').length) ((Dq st ((xs x').drop (ix x').toNat) (s x')).bind λq=>.lf (q.elim (fin x') (esc x')))).hit r|q=>q=r:=λ{q} h e=>by cases q<;>first|exact e|cases h
  by_cases hi:(ix x).toNat<(xs x).length
  ·rw[acT hi] at hr;obtain⟨q,hq,hr⟩:=T.hit_bind hr;obtain⟨q1,PE,hq⟩:=T.hit_bind hq;obtain⟨b1,b2⟩:=dQ x _ q1 hb h0 h1 hi (aac hi) PE;refine⟨_,b1,?_⟩;obtain rfl:=hr;cases q1 with
   | inl s'=>
    obtain⟨e1,e3,e4,e5⟩:=hmk x s';obtain⟨b3,e2⟩:=b2 s' rfl;have e6:(ix x+1).toNat=(ix x).toNat+1:=by omega
    show(xs (mk x s')).length-(ix (mk x s')).toNat<_/\_;refine⟨by rw[e1,e2,e6];omega,⟨b3,by omega,by rw[e1,e2];omega⟩,?_⟩;rw[e1,e2,e3,e4,e5,e6];exact T.bind_hit hq rfl
   | inr e=>obtain rfl:=hq;exact nb (alY x e) rfl
  ·have he:ix x=(xs x).length:=by omega
   rw[aaQ (by omega)] at hr;exact⟨_,AI x hb h0 he,nb (dS x _) hr⟩
 exact h1.imp λx r hr=>by
  obtain⟨g1,g2,g3,q,g4,g5⟩:=hG x r hr;exact⟨⟨g1,g2,g3⟩,T.bind_hit g4 g5⟩
section
variable {w w':World} {S:Nat->Prop} {e:Ending} {P:Program} {f:FuncId}
abbrev acl (w:World) (S:Nat->Prop) (al:Bool) (x:XV) (e:Ending) (w':World):Prop:=∃v S',e=.returned v/\Below w.heap.size w w'/\(∀b,S' b->(al=true/\S b)\/(w.heap.size<=b/\b<w'.heap.size))/\XR [] w' S' x v
theorem IX:∀{n:Nat} {l:List XV} {t:Nat} {y:XV},(t,y)∈qh n l->n<=t
 | _,[],_,_,h=>by cases h
 | n,x::l,t,y,h=>by
  rcases abs.1 h with e|h
  ·injection e with e _;omega
  ·have:=IX h;omega
theorem adS {w:World} {S:Nat->Prop}:∀{us vs:List Value} {n:Nat},vs.length=us.length->(∀t y,(t,y)∈qh n (us.map λu=>XV.one (.sym u))->∃v,vs[t-n]?=some v/\XR [] w S y v)->vs=us
 | [],[],_,_,_=>rfl
 | [],_::_,_,h,_=>by cases h
 | _::_,[],_,h,_=>by cases h
 | u::us,v::vs,n,hl,h=>by
  obtain⟨v',h1,h2,_⟩:=h n _ aaz;rw[adR] at h1;injection h1 with h1
  subst h1 h2;refine congrArg (v::·) (adS (w:=w) (S:=S) (n:=n+1) (by simpa using hl) λt y hy=>?_);obtain⟨k,rfl⟩:∃k,t=n+1+k:=⟨t-(n+1),by have:=IX hy;omega⟩;have:=h _ y (aa0 _ hy);rw[show n+1+k-n=k+1 by omega] at this;rw[show n+1+k-(n+1)=k by omega];exact this
theorem su {al:Bool} {l0:List (Nat×SS)} {G:aV l0->T XV} (us:aV l0->List Value) (h:∀(w:World) (S:Nat->Prop) (x:aV l0) (r:XV),Wd w->(G x).hit r->Calls P f (us x).toArray w (acl w S al r)) (hu:∀x,(cN l0 x).env=qh 0 ((us x).map λu=>XV.one (.sym u)):=by intro x;rfl) (hl:∀x,(us x).length=l0.length:=by intro x;rfl) (mf:∀x:aV l0,(cN l0 x).heap=[]:=by intro x;rfl):ao P f al (az l0 G):=
 z6 (λw S x vs r hW hS he Bu hr=>by
  obtain rfl:vs=us x:=adS (n:=0) (Bu.trans (hl x).symm) λt y hy=>he t y (by rw[hu x];exact hy);exact h w S x r hW hr) mf
theorem Eb {al:Bool} {v:Value} (hv:v.oneCell'=true) (h:kB w v e w'):acl w S al (.one (.sym v)) e w':=⟨v,λ_=>False,h.1,h.2,λ_ q=>q.elim,rfl,hv⟩
theorem anH {al:Bool} {x:XV} {v:Value} (hx:XR [] w' (λ_=>False) x v) (h:kB w v e w'):acl w S al x e w':=⟨v,λ_=>False,h.1,h.2,λ_ q=>q.elim,hx⟩
end
abbrev sC:SS:=sD (.int .u8)
def FQ (x:Int):Bool:=decide (97<=x)&&decide (x<=122)
def qH (x:Int):Bool:=decide (48<=x)&&decide (x<=57)
def KA (x:Int):Bool:=decide (32<=x)&&decide (x<=126)
def uz (x:Int):Bool:=FQ x||(qH x||x==45)
def oj (x:Int):Bool:=!(x==10)
def EB (p:Int->Bool) (c:UInt8):Bool:=p c.toNat
abbrev Eo (f:FuncId) (p:Int->Bool):Prop:=ao Tryz.prog f false (az [(0,sC)] λ((x:Int),_)=>.lf (aB (p x)))
theorem GI {a b:Bool} {r:XV} (h:aB (a&&b)=r):(T.br a (.lf (aB b)) (.lf (aB false))).hit r/\(false=true\/r.plain=true):=by
 subst h;exact⟨⟨λh=>by rw[h];rfl,λh=>by rw[h];rfl⟩,.inr rfl⟩
theorem CL:Eo 214 FQ:=aN (C:=C0) (nL _ _) false 99 [(0,sC)] (λ((x:Int),_)=>.br (decide (97<=x)) (.lf (aB (decide (x<=122)))) (.lf (aB false))) (λ⟨(_:Int),_⟩ _ _ h=>GI h) Tryz.func214
theorem Jg:Eo 216 qH:=aN (C:=C0) (nL _ _) false 99 [(0,sC)] (λ((x:Int),_)=>.br (decide (48<=x)) (.lf (aB (decide (x<=57)))) (.lf (aB false))) (λ⟨(_:Int),_⟩ _ _ h=>GI h) Tryz.func216
theorem Ig:Eo 140 KA:=aN (C:=C0) (nL _ _) false 99 [(0,sC)] (λ((x:Int),_)=>.br (decide (32<=x)) (.lf (aB (decide (x<=126)))) (.lf (aB false))) (λ⟨(_:Int),_⟩ _ _ h=>GI h) Tryz.func140
theorem aeE:Eo 179 oj:=aN (C:=C0) (nL _ _) false 99 [(0,sC)] (λ((x:Int),_)=>.lf (aB (oj x))) (λ_ _ _ h=>⟨h,.inr (by obtain rfl:=h;rfl)⟩) Tryz.func179
noncomputable def aoY:eP Tryz.prog:=bA pG [⟨_,_,_,CL⟩,⟨_,_,_,Jg⟩] []
theorem CY:Eo 215 uz:=aN (C:=aoY) (nL _ _) false 99 [(0,sC)] (λ((x:Int),_)=>.br (FQ x) (.lf (aB true)) (.br (qH x) (.lf (aB true)) (.lf (aB (x==45))))) (λ⟨(x:Int),_⟩ r _ h=>by
 obtain rfl:aB (uz x)=r:=h;refine⟨?_,.inr rfl⟩;unfold uz;exact⟨λh=>by rw[h];rfl,λh=>⟨λk=>by rw[h,k];rfl,λk=>by rw[h,k];rfl⟩⟩) Tryz.func215
def Tp (p:Int->Bool) (c:UInt8) (n:Int):T (Int ⊕ Int):=.br (p c.toNat) (.nd (cw (n+1)) (.lf (.inl (n+1)))) (.lf (.inr n))
theorem Hr (p:Int->Bool):∀(l:List UInt8) (n:Int),0<=n->n+l.length<=9223372036854775807->∃q,(Dq (Tp p) l n).hit q/\q.elim id id=n+(l.takeWhile (EB p)).length
 | [],n,_,_=>⟨.inl n,rfl,by simp⟩
 | c::l,n,h0,h1=>by
  rw[aaJ] at h1;rw[ade];cases hp:p c.toNat with
  | true=>
   obtain⟨q,h2,h3⟩:=Hr p l (n+1) (by omega) (by omega);have hs:(Tp p c n).hit (.inl (n+1)):=aC hp ⟨⟨by omega,by omega⟩,rfl⟩;refine⟨q,T.bind_hit hs h2,?_⟩;rw[h3,if_pos (show EB p c=true from hp),aaJ];omega
  | false=>
   have hs:(Tp p c n).hit (.inr n):=aK hp rfl;exact⟨.inr n,T.bind_hit hs rfl,by rw[if_neg (by rw[show EB p c=p c.toNat from rfl,hp];simp)];simp⟩
noncomputable abbrev J4:=Tryz.f178
abbrev WQ (k:FuncId):List (Nat×SS):=[(0,sS),(1,.fn k),(5,sI)]
abbrev spO:List (Nat×SS):=[(5,sI)]
def spB (k:FuncId) (p:Int->Bool) (s:ByteArray) (n:Int):T (LE (WQ k) spO []):=.br (decide (n<s.size)) (.nd (0<=n/\n<s.size) (.br (p ((s.data.toList.getD n.toNat 0).toNat:Int)) (.nd (cw (n+1)) (.lf (.back (s,(),n+1,())))) (.lf (.out (n,()))))) (.lf (.out (n,())))
def Sb (s:ByteArray) (n:Int):Prop:=0<=n/\n<=s.size/\s.size<=9223372036854775807
def Ey (p:Int->Bool) (s:ByteArray) (n:Int):Int:=n+((s.data.toList.drop n.toNat).takeWhile (EB p)).length
theorem ic (s:ByteArray):s.data.toList.length=s.size:=rfl
theorem Te {s:ByteArray} {n:Int} {a:UInt8} (h:s.data.toList[n.toNat]?=some a):s.data.toList.getD n.toNat 0=a:=by rw[aal,h];rfl
theorem Hq {k:FuncId} {p:Int->Bool} {C:eP Tryz.prog} (hX:∀x:aV (WQ k),YU (mi C J4) (nL _ J4) 99 0 0 (xz J4 0) (WQ k) spO [] x=spB k p x.1 x.2.2.1):cL (mi C J4) 0 0 (WQ k) spO [] λ((s:ByteArray),_,(n:Int),_)=>.nd (Sb s n) (.lf (.out (Ey p s n,()))):=by
 refine aeQ (mi C J4) (nL _ _) 99 0 0 (WQ k) spO [] (Tp p) (λ((s:ByteArray),_)=>s.data.toList) (λ(_,_,(n:Int),_)=>n) (λ(_,_,(n:Int),_)=>n) (λ((s:ByteArray),_) m=>(s,(),m,())) (λ_ m=>.out (m,())) (λ_ m=>.out (m,())) (λ((s:ByteArray),_,(n:Int),_)=>Sb s n) _ ?_ ?_ ?_ (hB:=hX)
 ·rintro⟨(s:ByteArray),_,(n:Int),_⟩ r ⟨h,rfl⟩;obtain⟨q,h1,h2⟩:=Hr p (s.data.toList.drop n.toNat) n h.1 (by rw[abw,ic];have:=h.2;omega);refine⟨h,h.1,h.2.1,q,h1,?_⟩;cases q<;>exact congrArg (λm:Int=>(LE.out (m,()):LE (WQ k) spO [])) h2
 ·rintro⟨(s:ByteArray),_,(n:Int),_⟩ a q _ h (h0:0<=n) (h1:n.toNat<s.data.toList.length) ha hq;have h1:n<s.size:=by rw[ic] at h1;omega
  have e:=Te ha;rcases hB hq with⟨hp,hq⟩|⟨hp,hq⟩
  ·obtain⟨hi,rfl⟩:=hq;exact⟨aC (decide_eq_true h1) ⟨⟨h0,h1⟩,aC (by rw[e];exact hp) ⟨hi,rfl⟩⟩,λs' e=>by injection e with e;subst e;exact⟨(⟨Int.le_add_one h0,h1,h.2.2⟩:Sb s (n+1)),rfl⟩⟩
  ·obtain rfl:=hq;exact⟨aC (decide_eq_true h1) ⟨⟨h0,h1⟩,aK (by rw[e];exact hp) rfl⟩,λs' e=>by cases e⟩
 ·rintro⟨(s:ByteArray),_,(n:Int),_⟩ _ _ h;obtain rfl:n=(s.size:Int):=h;exact aK (decide_eq_false (Int.lt_irrefl _)) rfl
abbrev spG (k:FuncId) (p:Int->Bool):List XV->T XV:=az [(0,sS),(1,.fn k)] λ((s:ByteArray),_)=>.nd (s.size<=9223372036854775807) (.lf (aI (Ey p s 0)))
abbrev JE (k:FuncId) (p:Int->Bool):Prop:=ao Tryz.prog 178 false (spG k p)
def orT (c:List XV->Bool) (F G:List XV->T XV) (xs:List XV):T XV:=bif c xs then F xs else G xs
theorem ao.or {P:Program} {f:FuncId} {al:Bool} {F G:List XV->T XV} (c:List XV->Bool) (h:ao P f al F) (g:ao P f al G):ao P f al (orT c F G):=λw S xs vs r hW hS hx hr=>by
 unfold orT at hr;cases e:c xs with
 | true=>exact h w S xs vs r hW hS hx (by rw[e] at hr;exact hr)
 | false=>exact g w S xs vs r hW hS hx (by rw[e] at hr;exact hr)
def ae9 (k:FuncId):List XV->Bool
 | [_,.one (.val (.func (.func j) _ _))]=>k==j
 | _=>false
theorem zJ {k:FuncId} {p:Int->Bool} {C:eP Tryz.prog} (hX:∀x:aV (WQ k),YU (mi C J4) (nL _ J4) 99 0 0 (xz J4 0) (WQ k) spO [] x=spB k p x.1 x.2.2.1) (hF:∀x:aV [(0,sS),(1,.fn k)],fnT (mi C J4) ((nL _ J4).add 0 _ (Hq hX)) 99 (bd J4) [(0,sS),(1,.fn k)] x=.nd (Sb x.1 0) (.lf (aI (Ey p x.1 0)))):JE k p:=
 aN (C:=C) ((nL _ J4).add 0 _ (Hq hX)) false 99 [(0,sS),(1,.fn k)] (λ((s:ByteArray),_)=>.nd (Sb s 0) (.lf (aI (Ey p s 0)))) (λ⟨(s:ByteArray),_⟩ r _ ⟨hs,h⟩=>⟨⟨⟨by omega,by omega,hs⟩,h⟩,.inr (by obtain rfl:=h;rfl)⟩) Tryz.func178 (hB:=hF) (hln:=by show 2<=J4.ntmps;decide)
noncomputable def acj:eP Tryz.prog:=bA pG [⟨_,_,_,CY⟩,⟨_,_,_,Jg⟩,⟨_,_,_,aeE⟩] []
theorem Tm:JE 215 uz:=zJ (C:=acj) (by intro x;kernel_rfl) (by intro x;kernel_rfl)
theorem To:JE 216 qH:=zJ (C:=acj) (by intro x;kernel_rfl) (by intro x;kernel_rfl)
theorem Tn:JE 179 oj:=zJ (C:=acj) (by intro x;kernel_rfl) (by intro x;kernel_rfl)
theorem Yw:ao Tryz.prog 178 false (orT (ae9 215) (spG 215 uz) (orT (ae9 216) (spG 216 qH) (spG 179 oj))):=
 Tm.or _ (To.or _ Tn)
noncomputable def E7 (t:TypeId):Option Ty:=List.lookup t [(9,.str),(3,tI),(5,.int .u8)]
noncomputable def Mm:eP Tryz.prog:=bA E7 [⟨_,_,_,CL⟩,⟨_,_,_,CY⟩,⟨_,_,_,Ig⟩,⟨_,_,_,Yw⟩] []
theorem baL {s:ByteArray} {l:List UInt8} (h:s.data.toList=l):s=⟨l.toArray⟩:=by subst h;rfl
theorem exD (s:ByteArray) (k:Nat):s.extract k s.size=⟨(s.data.toList.drop k).toArray⟩:=baL (by
 rw[ByteArray.data_extract,Array.toList_extract,List.extract_eq_take_drop];exact acz (by rw[abw];exact aaG _))
theorem Io (c:UInt8):FQ c.toNat=fl c:=by unfold FQ fl;congr 1<;>simp only[decide_eq_decide]<;>omega
theorem Ip (c:UInt8):qH c.toNat=digitB c:=by unfold qH digitB;congr 1<;>simp only[decide_eq_decide]<;>omega
theorem Im (c:UInt8):KA c.toNat=fZ c:=by unfold KA fZ;congr 1<;>simp only[decide_eq_decide]<;>omega
theorem eqC (c:UInt8) (k:Nat) (hk:k<256):(((c.toNat:Int)==(k:Int)):Bool)=(c==UInt8.ofNat k):=by
 rw[acD,beq_iff_eq,beq_iff_eq];constructor
 ·intro h;rw[show k=c.toNat by omega];exact(UInt8.ofNat_toNat).symm
 ·rintro rfl;rw[UInt8.toNat_ofNat_of_lt' hk]
theorem Il (c:UInt8):uz c.toNat=jm c:=by
 unfold uz jm;rw[Io,Ip,show(((c.toNat:Int)==45):Bool)=(c==45) from eqC c 45 (by decide),Bool.or_assoc]
theorem ofW:EB uz=jm:=funext Il
theorem ofD:EB qH=digitB:=funext Ip
abbrev at8 (s:ByteArray) (n:Int):Int:=((s.data.toList.getD n.toNat 0).toNat:Int)
def MM (s:ByteArray):T XV:=.br (s.toList==(⟨#[]⟩:ByteArray).toList) (.lf (aI 0)) (.nd ((0:Int)<=0/\(0:Int)<s.size) (.br (!FQ (at8 s 0)) (.lf (aI 0)) (.nd (s.size<=9223372036854775807) (.lf (aI (Ey uz s 0))))))
theorem MJ:ao Tryz.prog 183 false (az [(0,sS)] λ((s:ByteArray),_)=>.nd (s.size<=9223372036854775807) (.lf (aI (dn s.data.toList)))):=
 aN (C:=Mm) (nL _ _) false 99 [(0,sS)] (λ((s:ByteArray),_)=>MM s)
  (λ⟨(s:ByteArray),_⟩ r _ ⟨hs,h⟩=>⟨by
   obtain rfl:aI (dn s.data.toList)=r:=h;show(MM s).hit _;unfold MM dn Ey at8;rw[cO];cases e:s.data.toList with
   | nil=>exact aC (decide_eq_true (baL e)) rfl
   | cons c l=>
    have h0:s.size=l.length+1:=by rw[<-ic,e];rfl
    refine aK (decide_eq_false λq=>by rw[q] at h0;cases h0) ⟨⟨by decide,by omega⟩,?_⟩;show(T.br (!FQ (c.toNat:Int)) _ _).hit _;rw[Io];show(T.br (!fl c) _ _).hit (aI ((if fl c=true then(List.takeWhile jm (c::l)).length else 0:Nat):Int));cases hc:fl c with
    | true=>exact aK rfl ⟨hs,by rw[ofW];simp;rfl⟩
    | false=>exact aC rfl rfl,.inr (by obtain rfl:=h;rfl)⟩) Tryz.func183
def T2 (s:ByteArray) (n:Int):T XV:=.br (decide (n<s.size)) (.nd (0<=n/\n<s.size) (.br (uz (at8 s n)) (.lf (aI 0)) (.lf (aI n)))) (.lf (aI n))
theorem Oo {s:ByteArray} {k:Nat} (hk:k<=s.size):(T2 s k).hit (aI (if(((s.data.toList)[k]?.map jm).getD false=true) then 0 else k)):=by
 unfold T2 at8;by_cases h:k<s.size
 ·have h':k<s.data.toList.length:=h;refine aC (decide_eq_true (by omega)) ⟨⟨by omega,by omega⟩,?_⟩;rw[aae,aac h',aal,aac h'];show(T.br (uz _) _ _).hit _;rw[acw,Il,acU,acw];cases jm s.data.toList[k] with
  | true=>exact aC rfl rfl
  | false=>exact aK rfl rfl
 ·rw[abC (by rw[ic];omega)];exact aK (decide_eq_false (by omega)) rfl
theorem Cq:ao Tryz.prog 184 false (az [(0,sS)] λ((s:ByteArray),_)=>.nd (s.size<=9223372036854775807) (.lf (aI (cK s.data.toList)))):=
 aN (C:=Mm) (nL _ _) false 99 [(0,sS)] (λ((s:ByteArray),_)=>.nd (s.size<=9223372036854775807) (.br (Ey qH s 0==0) (.lf (aI 0)) (.br (decide (Ey qH s 0>6)) (.lf (aI 0)) (.nd ((0:Int)<=0/\(0:Int)<s.size) (.br (at8 s 0==48) (.br (decide (Ey qH s 0>1)) (.lf (aI 0)) (T2 s (Ey qH s 0))) (T2 s (Ey qH s 0)))))))
  (λ⟨(s:ByteArray),_⟩ r _ ⟨hs,h⟩=>⟨by
   obtain rfl:aI (cK s.data.toList)=r:=h;refine⟨hs,?_⟩;have hn:Ey qH s 0=((s.data.toList.takeWhile digitB).length:Nat):=by unfold Ey;rw[ofD];simp
   have hl:(s.data.toList.takeWhile digitB).length<=s.size:=(acZ _).length_le;rw[hn];obtain⟨k,hk⟩:∃k,(s.data.toList.takeWhile digitB).length=k:=⟨_,rfl⟩;unfold cK;rw[hk] at hl ⊢;by_cases h0:k=0
   ·rw[if_pos (.inl h0)];exact aC (by rw[h0];rfl) rfl
   refine aK (beq_eq_false_iff_ne.2 (by omega)) ?_;by_cases h6:6<k
   ·rw[if_pos (.inr (.inl h6))];exact aC (decide_eq_true (by omega)) rfl
   refine aK (decide_eq_false (by omega)) ⟨⟨by decide,by omega⟩,?_⟩;have hh:(at8 s 0==48)=decide (s.data.toList.head?=some 48):=by
    show(((s.data.toList.getD 0 0).toNat:Int)==(48:Nat))=_;rw[eqC _ 48 (by decide)];cases e:s.data.toList with
    | nil=>
     have:s.size=0:=by rw[<-ic,e];rfl
     omega
    | cons c l=>rw[acD];simp
   have hE:=Oo hl;refine⟨λe=>?_,λe=>?_⟩
   ·rw[hh,decide_eq_true_eq] at e;by_cases h1:1<k
    ·rw[if_pos (.inr (.inr (.inl ⟨e,h1⟩)))];exact aC (decide_eq_true (by omega)) rfl
    ·refine aK (decide_eq_false (by omega)) ?_;simp only[h0,h6,h1,and_false,false_or];split at hE<;>rename_i q<;>simp only[q]<;>exact hE
   ·rw[hh,decide_eq_false_iff_not] at e;simp only[h0,h6,e,false_and,false_or];split at hE<;>rename_i q<;>simp only[q]<;>exact hE,.inr (by obtain rfl:=h;rfl)⟩) Tryz.func184
def bo:Bool->List UInt8->Nat
 | _,[]=>0
 | false,c::l=>if c=32\/c=9\/c=10\/c=13 then bo false l+1 else if c=35 then bo true l+1 else 0
 | true,c::l=>if c=10 then bo false l+1 else bo true l+1
theorem kJ:∀(b:Bool) (l:List UInt8),bo b l<=l.length
 | b,[]=>by cases b<;>exact aaG _
 | false,c::l=>by
  have:=kJ false l;have:=kJ true l;unfold bo;rw[aaJ];split
  ·omega
  ·split<;>omega
 | true,c::l=>by
  have:=kJ false l;have:=kJ true l;unfold bo;rw[aaJ];split<;>omega
theorem ofN (c:UInt8):EB oj c=!(c==10):=by unfold EB oj;rw[show(((c.toNat:Int)==10):Bool)=(c==10) from eqC c 10 (by decide)]
theorem xR:∀(l:List UInt8),bo true l=(l.takeWhile (EB oj)).length+bo false (l.drop (l.takeWhile (EB oj)).length)
 | []=>rfl
 | c::l=>by
  rw[ade,ofN];by_cases h:c=10
  ·subst h;simp[bo]
  ·have hb:(c==10)=false:=beq_eq_false_iff_ne.2 h;rw[hb];show bo true (c::l)=_;rw[bo,if_neg h,xR l];simp only[Bool.not_false,if_true,aaJ,List.drop_succ_cons];omega
abbrev skL:List (Nat×SS):=[(0,sS),(3,sI)]
abbrev skO:List (Nat×SS):=[(3,sI)]
abbrev Yy:=LE skL skO []
noncomputable abbrev skF:=Tryz.f132
def Kc (s:ByteArray) (n:Int):T Yy:=.nd (cw n) (.lf (.back (s,n,())))
def skB (s:ByteArray) (n:Int):T Yy:=.br (decide (n<s.size)) (.nd (0<=n/\n<s.size) (.br (at8 s n==32) (Kc s (n+1)) (.br (at8 s n==9) (Kc s (n+1)) (.br (at8 s n==10) (Kc s (n+1)) (.br (at8 s n==13) (Kc s (n+1))
 (.br (at8 s n==35) (.nd (0<=n/\n<=s.size/\(s.size:Int)<=s.size) (.nd ((s.extract n.toNat (s.size:Int).toNat).size<=9223372036854775807) (Kc s (n+Ey oj (s.extract n.toNat (s.size:Int).toNat) 0)))) (.lf (.ret (aI n) ())))))))) (.lf (.out (n,())))
def skG (s:ByteArray) (n:Int):T Yy:=.nd (Sb s n) (.br (n+bo false (s.data.toList.drop n.toNat)==s.size) (.lf (.out ((s.size:Int),()))) (.lf (.ret (aI (n+bo false (s.data.toList.drop n.toNat))) ())))
def skM (x:aV skL):Nat:=ByteArray.size x.1-Int.toNat x.2.1
theorem Tt:cL (mi Mm skF) 0 0 skL skO [] λx=>skG x.1 x.2.1:=by
 refine j1 _ (nL _ _) 99 0 0 skL skO [] (λx=>skB x.1 x.2.1) skM ?_;rintro⟨(s:ByteArray),(n:Int),_⟩ r _ ⟨h,hr⟩;obtain⟨h0,h1,h2⟩:Sb s n:=h;obtain⟨k,rfl⟩:∃k:Nat,n=k:=⟨n.toNat,by omega⟩;have hr:(T.br ((k:Int)+((bo false (s.data.toList.drop (k:Int).toNat):Nat):Int)==s.size) (.lf (.out ((s.size:Int),()))) (.lf (.ret (aI ((k:Int)+((bo false (s.data.toList.drop (k:Int).toNat):Nat):Int))) ())):T Yy).hit r:=hr;show∃q,(skB s k).hit q/\_;unfold skB at8;rw[aae] at hr ⊢;by_cases hk:k<s.size
 ·have lq:k<s.data.toList.length:=hk;obtain⟨c,l,e⟩:∃c l,s.data.toList.drop k=c::l:=⟨_,_,acT lq⟩;have hc:s.data.toList.getD k 0=c:=by rw[aal,<-List.head?_drop,e];rfl
  have hl:l.length+k+1=s.size:=by have:=congrArg List.length e;rw[abw,aaJ,ic] at this;omega
  have hd:s.data.toList.drop (k+1)=l:=by rw[<-adh,e];rfl
  rw[e] at hr;have q:∀m:Nat,m<256->(((c.toNat:Int)==(m:Int)):Bool)=(c==UInt8.ofNat m):=λm hm=>eqC c m hm;have sl:=kJ false l;have bk:∀j:Nat,0<j->k+j<=s.size->bo false (c::l)=j+bo false (s.data.toList.drop (k+j))->∃q,(Kc s ((k:Int)+((j:Nat):Int))).hit q/\q.nx skM (λx=>skG x.1 x.2.1) (s.size-(k:Int).toNat) r:=λj hj tR hj3=>by
   refine⟨.back (s,(k:Int)+((j:Nat):Int),()),⟨⟨by omega,by omega⟩,rfl⟩,by show s.size-((k:Int)+((j:Nat):Int)).toNat<s.size-(k:Int).toNat;omega,(⟨by omega,by omega,h2⟩:Sb s ((k:Int)+((j:Nat):Int))),?_⟩;show(T.br ((k:Int)+((j:Nat):Int)+((bo false (s.data.toList.drop ((k:Int)+((j:Nat):Int)).toNat):Nat):Int)==s.size) (.lf (.out ((s.size:Int),()))) (.lf (.ret (aI ((k:Int)+((j:Nat):Int)+((bo false (s.data.toList.drop ((k:Int)+((j:Nat):Int)).toNat):Nat):Int))) ())):T Yy).hit r;rw[show((k:Int)+((j:Nat):Int)).toNat=k+j by omega,show(k:Int)+((j:Nat):Int)+((bo false (s.data.toList.drop (k+j)):Nat):Int)=k+((bo false (c::l):Nat):Int) by rw[hj3];omega];exact hr
  have go:∀{q:Yy} {y:T Yy},y.hit q->(T.br (decide ((k:Int)<s.size)) (.nd (0<=(k:Int)/\(k:Int)<s.size) y) (.lf (.out ((k:Int),())))).hit q:=λh=>aC (decide_eq_true (by omega)) ⟨⟨by omega,by omega⟩,h⟩;rw[hc];have b1:(c=32\/c=9\/c=10\/c=13)->bo false (c::l)=1+bo false (s.data.toList.drop (k+1)):=λh=>by rw[bo,if_pos h,hd];omega
  by_cases c1:c=32
  ·obtain⟨q1,g1,g2⟩:=bk 1 (by omega) (by omega) (b1 (.inl c1));exact⟨q1,go (aC (by rw[c1];rfl) g1),g2⟩
  have n1:(((c.toNat:Int)==32):Bool)=false:=(q 32 (by decide)).trans (beq_eq_false_iff_ne.2 c1);by_cases c2:c=9
  ·obtain⟨q1,g1,g2⟩:=bk 1 (by omega) (by omega) (b1 (.inr (.inl c2)));exact⟨q1,go (aK n1 (aC (by rw[c2];rfl) g1)),g2⟩
  have n2:(((c.toNat:Int)==9):Bool)=false:=(q 9 (by decide)).trans (beq_eq_false_iff_ne.2 c2);by_cases c3:c=10
  ·obtain⟨q1,g1,g2⟩:=bk 1 (by omega) (by omega) (b1 (.inr (.inr (.inl c3))));exact⟨q1,go (aK n1 (aK n2 (aC (by rw[c3];rfl) g1))),g2⟩
  have n3:(((c.toNat:Int)==10):Bool)=false:=(q 10 (by decide)).trans (beq_eq_false_iff_ne.2 c3);by_cases c4:c=13
  ·obtain⟨q1,g1,g2⟩:=bk 1 (by omega) (by omega) (b1 (.inr (.inr (.inr c4))));exact⟨q1,go (aK n1 (aK n2 (aK n3 (aC (by rw[c4];rfl) g1)))),g2⟩
  have n4:(((c.toNat:Int)==13):Bool)=false:=(q 13 (by decide)).trans (beq_eq_false_iff_ne.2 c4);have hn:¬(c=32\/c=9\/c=10\/c=13):=by simp[c1,c2,c3,c4]
  by_cases c5:c=35
  ·have hx:s.extract k (s.size:Int).toNat=⟨(s.data.toList.drop k).toArray⟩:=by rw[aae];exact exD s k
   have hsp:Ey oj (s.extract k (s.size:Int).toNat) 0=((l.takeWhile (EB oj)).length+1:Nat):=by
    rw[hx];unfold Ey;show(0:Int)+((((s.data.toList.drop k)).drop 0).takeWhile (EB oj)).length=_;rw[acr,e,c5,ade,if_pos (by rw[ofN];rfl),aaJ];omega
   have hw:(l.takeWhile (EB oj)).length<=l.length:=(acZ _).length_le;obtain⟨q1,g1,g2⟩:=bk ((l.takeWhile (EB oj)).length+1) (by omega) (by omega) (by
    rw[bo,if_neg hn,if_pos c5,xR,show k+((l.takeWhile (EB oj)).length+1)=k+1+(l.takeWhile (EB oj)).length by omega,<-adh,hd];omega)
   refine⟨q1,go (aK n1 (aK n2 (aK n3 (aK n4 (aC (by rw[c5];rfl) ⟨⟨by omega,by omega,acR _⟩,?_,by rw[hsp];exact g1⟩))))),g2⟩;rw[hx];show(s.data.toList.drop k).toArray.size<=_;rw[acc,abw,ic];omega
  ·have n5:(((c.toNat:Int)==35):Bool)=false:=(q 35 (by decide)).trans (beq_eq_false_iff_ne.2 c5);rw[bo,if_neg hn,if_neg c5] at hr;have hr:=hr.2 (beq_eq_false_iff_ne.2 (by omega));exact⟨.ret (aI k) (),go (aK n1 (aK n2 (aK n3 (aK n4 (aK n5 rfl))))),by rw[show(k:Int)+((0:Nat):Int)=k by omega] at hr;exact hr⟩
 ·have gM:k=s.size:=by omega
  rw[aaQ (by rw[ic];omega)] at hr;have hr:=hr.1 (beq_iff_eq.2 (by show(k:Int)+((0:Nat):Int)=_;omega));exact⟨.out ((k:Int),()),aK (decide_eq_false (by omega)) rfl,by rw[gM];exact hr⟩
theorem NE:ao Tryz.prog 132 false (az [(0,sS)] λ((s:ByteArray),_)=>.nd (s.size<=9223372036854775807) (.lf (aI (bo false s.data.toList)))):=
 aN (C:=Mm) ((nL _ _).add 0 _ Tt) false 99 [(0,sS)] (λ((s:ByteArray),_)=>.nd (Sb s 0) (.br ((0:Int)+((bo false (s.data.toList.drop (Int.toNat 0)):Nat):Int)==s.size) (.lf (aI s.size)) (.lf (aI ((0:Int)+((bo false (s.data.toList.drop (Int.toNat 0)):Nat):Int)))))) (λ⟨(s:ByteArray),_⟩ r _ ⟨hs,h⟩=>by
  obtain rfl:aI (bo false s.data.toList)=r:=h;have e:(0:Int)+((bo false (s.data.toList.drop (Int.toNat 0)):Nat):Int)=(bo false s.data.toList:Nat):=by rw[show Int.toNat 0=0 from rfl,acr];omega
  refine⟨⟨⟨by omega,by omega,hs⟩,?_⟩,.inr rfl⟩;rw[e];exact⟨λh=>by rw[beq_iff_eq.1 h];rfl,λ_=>rfl⟩) Tryz.func132
def quo:List UInt8->Option (Option (Nat×List UInt8))
 | []=>none
 | c::l=>if c=34 then some (some (1,[])) else if c=92 then(match l with | []=>some none | d::l'=>if d=34\/d=92 then(quo l').map (Option.map λp=>(p.1+2,d::p.2)) else some none)
  else if fZ c then(quo l).map (Option.map λp=>(p.1+1,c::p.2)) else some none
def TN:Option (Option (Nat×List UInt8))->Bool
 | some (some _)=>true
 | _=>false
def Cl:Option (Option (Nat×List UInt8))->Nat×List UInt8
 | some (some p)=>p
 | _=>(0,[])
abbrev qL:List (Nat×SS):=[(0,sS),(4,.c (.own (.int .u8) 5)),(5,sI)]
abbrev qE:=LE qL [] []
noncomputable abbrev qF:=Tryz.f185
def TQ (n:Int) (x:List UInt8):qE:=.ret (.tup [(false,[.sym (.int .i64 n)]),(false,[.sym (.string ⟨x.toArray⟩)])]) ()
def sX:qE:=.ret (.tup [(false,[.val (.int .i64 0)]),(false,[.val (.string ⟨#[]⟩)])]) ()
def qBk (s:ByteArray) (l:List Int) (c n:Int):T qE:=.nd ((l.length+1)*2<=140737488355328) (.nd (cw n) (.lf (.back (s,c::l,n,()))))
def qEs (s:ByteArray) (l:List Int) (n:Int):T qE:=.nd (0<=n/\n<s.size) (qBk s l (at8 s n) (n+1))
def qB (s:ByteArray) (l:List Int) (n:Int):T qE:=.br (decide (n<s.size)) (.nd (0<=n/\n<s.size) (.br (at8 s n==34) (.nd (cw (n+1)) (.nd (∀v:Int,v∈l.reverse->0<=v/\v<=255) (.lf (TQ (n+1) (u8s l.reverse)))))
 (.br (at8 s n==92) (.nd (cw (n+1)) (.br (n+1==s.size) (.lf sX) (.nd (0<=n+1/\n+1<s.size) (.br (!(at8 s (n+1)==34)) (.nd (0<=n+1/\n+1<s.size) (.br (!(at8 s (n+1)==92)) (.lf sX) (qEs s l (n+1)))) (qEs s l (n+1)))))) (.br (!KA (at8 s n)) (.lf sX) (qBk s l (at8 s n) (n+1)))))) (.lf (.out ()))
def qT (l:List Int) (n:Int) (q:Option (Option (Nat×List UInt8))):T qE:=.br q.isNone (.lf (.out ())) (.br (TN q) (.lf (TQ (n+(Cl q).1) (u8s l.reverse++(Cl q).2))) (.lf sX))
def qN (s:ByteArray) (l:List Int) (n:Int):Prop:=Sb s n/\s.size<=20000/\(l.length:Int)<=n/\∀v∈l,0<=v/\v<=255
def qG (s:ByteArray) (l:List Int) (n:Int):T qE:=.nd (qN s l n) (qT l n (quo (s.data.toList.drop n.toNat)))
def qM (x:aV qL):Nat:=ByteArray.size x.1-Int.toNat x.2.2.1
theorem M9 (l:List Int) (b:UInt8):u8s ((b.toNat:Int)::l).reverse=u8s l.reverse++[b]:=by unfold u8s;simp
theorem TP {l:List Int} {k j:Nat} {b:UInt8} {r:qE}:∀{q},(qT l k (q.map (Option.map λp=>(p.1+j,b::p.2)))).hit r->(qT ((b.toNat:Int)::l) ((k:Int)+(j:Nat)) q).hit r
 | none,h=>⟨λ_=>h.1 rfl,λe=>by cases e⟩
 | some none,h=>⟨(λe=>by cases e),λ_=>⟨(λe=>by cases e),λ_=>(h.2 rfl).2 rfl⟩⟩
 | some (some p),h=>by
  have h:=(h.2 rfl).1 rfl;refine⟨(λe=>by cases e),λ_=>⟨λ_=>?_,λe=>by cases e⟩⟩;rw[M9,abS];show(T.lf (TQ ((k:Int)+(j:Nat)+(p.1:Nat)) (u8s l.reverse++(b::p.2)))).hit r;rw[show(k:Int)+(j:Nat)+(p.1:Nat)=k+((p.1+j:Nat):Int) by omega];exact h
theorem Jd {s:ByteArray} {k:Nat} (hk:k<s.size):∃c l,s.data.toList.drop k=c::l/\at8 s k=(c.toNat:Int)/\s.data.toList.drop (k+1)=l/\l.length+k+1=s.size:=by
 have lq:k<s.data.toList.length:=hk;have e:=acT lq;refine⟨_,_,e,?_,rfl,?_⟩
 ·unfold at8;rw[aae,aal,aac lq];rfl
 ·rw[abw,ic];omega
theorem eqT {c:UInt8} (k:Nat) (hk:k<256) (h:c=UInt8.ofNat k):(((c.toNat:Int)==(k:Int)):Bool)=true:=by rw[eqC c k hk];exact beq_iff_eq.2 h
theorem XG {c:UInt8} (k:Nat) (hk:k<256) (h:¬c=UInt8.ofNat k):(((c.toNat:Int)==(k:Int)):Bool)=false:=by rw[eqC c k hk];exact beq_eq_false_iff_ne.2 h
theorem nT {c:UInt8} (k:Nat) (hk:k<256) (h:c=UInt8.ofNat k):(!((c.toNat:Int)==(k:Int)))=false:=by rw[eqT k hk h];rfl
theorem nF {c:UInt8} (k:Nat) (hk:k<256) (h:¬c=UInt8.ofNat k):(!((c.toNat:Int)==(k:Int)))=true:=by rw[XG k hk h];rfl
theorem ja (c:UInt8) (l:List UInt8):quo (c::l)=if c=34 then some (some (1,[])) else if c=92 then(match l with | []=>some none | d::l'=>if d=34\/d=92 then(quo l').map (Option.map λp=>(p.1+2,d::p.2)) else some none) else if fZ c then(quo l).map (Option.map λp=>(p.1+1,c::p.2)) else some none:=by cases l<;>rfl
theorem Kv:cL (mi Mm qF) 0 0 qL [] [] λx=>qG x.1 x.2.1 x.2.2.1:=by
 refine j1 _ (nL _ _) 99 0 0 qL [] [] (λx=>qB x.1 x.2.1 x.2.2.1) qM ?_;rintro⟨(s:ByteArray),(a:List Int),(n:Int),_⟩ r _ ⟨h,hr⟩;obtain⟨⟨h0,h1,h2⟩,h3,h4,h5⟩:qN s a n:=h;obtain⟨k,rfl⟩:∃k:Nat,n=k:=⟨n.toNat,by omega⟩;have hr:(qT a k (quo (s.data.toList.drop k))).hit r:=hr;show∃q,(qB s a k).hit q/\q.nx qM (λx=>qG x.1 x.2.1 x.2.2.1) (s.size-k) r;unfold qB;by_cases hk:k<s.size
 ·obtain⟨c,l,e,ec,ed,el⟩:=Jd hk;rw[e] at hr;have bk:∀(j:Nat) (b:UInt8),0<j->k+j<=s.size->quo (c::l)=(quo (s.data.toList.drop (k+j))).map (Option.map λp=>(p.1+j,b::p.2))->∃q,(qBk s a b.toNat ((k:Int)+((j:Nat):Int))).hit q/\q.nx qM (λx=>qG x.1 x.2.1 x.2.2.1) (s.size-k) r:=λj b hj tR hq=>by
   rw[hq] at hr;refine⟨.back (s,(b.toNat:Int)::a,(k:Int)+((j:Nat):Int),()),⟨by omega,⟨by omega,by omega⟩,rfl⟩,by show s.size-((k:Int)+((j:Nat):Int)).toNat<_;omega,⟨⟨?_,?_,h2⟩,h3,?_,?_⟩,?_⟩
   ·show(0:Int)<=(k:Int)+((j:Nat):Int);omega
   ·show(k:Int)+((j:Nat):Int)<=s.size;omega
   ·show((a.length+1:Nat):Int)<=(k:Int)+((j:Nat):Int);omega
   ·intro v hv;rcases abs.1 hv with rfl|hv
    ·have:=b.toNat_lt;exact⟨by omega,by omega⟩
    ·exact h5 v hv
   ·have:=TP hr;show(qT _ ((k:Int)+((j:Nat):Int)) (quo (s.data.toList.drop ((k:Int)+((j:Nat):Int)).toNat))).hit r;rw[show((k:Int)+((j:Nat):Int)).toNat=k+j by omega];exact this
  have bad:quo (c::l)=some none->sX=r:=λq=>by rw[q] at hr;exact(hr.2 rfl).2 rfl
  suffices hs:∃q:qE,(T.br (at8 s k==34) _ _).hit q/\q.nx qM (λx=>qG x.1 x.2.1 x.2.2.1) (s.size-k) r by
   obtain⟨q,g1,g2⟩:=hs;exact⟨q,aC (decide_eq_true (by omega)) ⟨⟨by omega,by omega⟩,g1⟩,g2⟩
  rw[ec];by_cases c1:c=34
  ·rw[show quo (c::l)=some (some (1,[])) by rw[ja,if_pos c1]] at hr;refine⟨_,aC (eqT 34 (by decide) c1) ⟨⟨by omega,by omega⟩,λv hv=>h5 v (by simpa using hv),rfl⟩,?_⟩;have e9:TQ ((k:Int)+1) (u8s a.reverse++[])=r:=(hr.2 rfl).1 rfl;rw[acx] at e9;exact e9
  by_cases c2:c=92
  ·suffices hs:∃q:qE,(T.nd (cw ((k:Int)+1)) (.br ((k:Int)+1==s.size) _ _)).hit q/\q.nx qM (λx=>qG x.1 x.2.1 x.2.2.1) (s.size-k) r by
    obtain⟨q,g1,g2⟩:=hs;exact⟨q,aK (XG 34 (by decide) c1) (aC (eqT 92 (by decide) c2) g1),g2⟩
   by_cases hl:k+1<s.size
   ·obtain⟨d,m,e',ec',ed',el'⟩:=Jd hl;rw[ed] at e';have ec':at8 s ((k:Int)+1)=(d.toNat:Int):=ec';suffices hs:∃q:qE,(T.br (!(at8 s ((k:Int)+1)==34)) _ _).hit q/\q.nx qM (λx=>qG x.1 x.2.1 x.2.2.1) (s.size-k) r by
     obtain⟨q,g1,g2⟩:=hs;exact⟨q,⟨⟨by omega,by omega⟩,aK (beq_eq_false_iff_ne.2 (by omega)) ⟨⟨by omega,by omega⟩,g1⟩⟩,g2⟩
    have es:d=34\/d=92->∃q,(qEs s a ((k:Int)+1)).hit q/\q.nx qM (λx=>qG x.1 x.2.1 x.2.2.1) (s.size-k) r:=λq=>by
     obtain⟨q,g1,g2⟩:=bk 2 d (by omega) (by omega) (by rw[ja,if_neg c1,if_pos c2,e'];show(if _ then _ else _)=_;rw[if_pos q,show k+2=k+1+1 from rfl,ed']);exact⟨q,⟨⟨by omega,by omega⟩,by rw[ec',show(k:Int)+1+1=(k:Int)+(2:Nat) by omega];exact g1⟩,g2⟩
    rw[ec'];by_cases d1:d=34
    ·obtain⟨q,g1,g2⟩:=es (.inl d1);exact⟨q,aK (nT 34 (by decide) d1) g1,g2⟩
    refine(λ⟨q,g1,g2⟩=>⟨q,aC (nF 34 (by decide) d1) ⟨⟨by omega,by omega⟩,g1⟩,g2⟩:(∃q:qE,(T.br (!((d.toNat:Int)==92)) _ _).hit q/\_)->_) ?_;by_cases d2:d=92
    ·obtain⟨q,g1,g2⟩:=es (.inr d2);exact⟨q,aK (nT 92 (by decide) d2) g1,g2⟩
    ·exact⟨sX,aC (nF 92 (by decide) d2) rfl,bad (by rw[ja,if_neg c1,if_pos c2,e'];show(if _ then _ else _)=_;rw[if_neg (by simp[d1,d2])])⟩
   ·have:l=[]:=aaY (by omega);exact⟨sX,⟨⟨by omega,by omega⟩,aC (beq_iff_eq.2 (by omega)) rfl⟩,bad (by rw[ja,if_neg c1,if_pos c2,this])⟩
  refine(λ⟨q,g1,g2⟩=>⟨q,aK (XG 34 (by decide) c1) (aK (XG 92 (by decide) c2) g1),g2⟩:(∃q:qE,(T.br (!KA (c.toNat:Int)) _ _).hit q/\_)->_) ?_;rw[Im];cases hp:fZ c with
  | false=>exact⟨sX,aC rfl rfl,bad (by rw[ja,if_neg c1,if_neg c2,if_neg (by rw[hp];simp)])⟩
  | true=>
   obtain⟨q,g1,g2⟩:=bk 1 c (by omega) (by omega) (by rw[ja,if_neg c1,if_neg c2,if_pos hp,ed]);exact⟨q,aK rfl g1,g2⟩
 ·rw[aaQ (by rw[ic];omega)] at hr;exact⟨.out (),aK (decide_eq_false (by omega)) rfl,hr.1 rfl⟩
def aek (q:Option (Option (Nat×List UInt8))):T XV:=.br q.isNone (.lf (aT [.int .i64 0,.string ⟨#[]⟩])) (.br (TN q) (.lf (aT [.int .i64 (1+(Cl q).1),.string ⟨(u8s ([]:List Int).reverse++(Cl q).2).toArray⟩])) (.lf (aT [.int .i64 0,.string ⟨#[]⟩])))
def tN (l:List UInt8):Nat×List UInt8:=bif TN (quo (l.drop 1)) then((Cl (quo (l.drop 1))).1+1,(Cl (quo (l.drop 1))).2) else(0,[])
theorem ZY:ao Tryz.prog 186 false (az [(0,sS),(1,sC)] λ((s:ByteArray),(c:Int),_)=>.lf (aI (Lib.indexByte s.data.toList c.toNat.toUInt8))):=
 su (λ((s:ByteArray),(c:Int),_)=>[.string s,.int .u8 c]) λw S ⟨(s:ByteArray),(c:Int),_⟩ r _ hr=>by
  obtain rfl:aI (Lib.indexByte s.data.toList c.toNat.toUInt8)=r:=hr;exact Calls.mono (Tryz.strings_IndexByte s c w) λ_ _ h=>Eb rfl ⟨h.1,h.2▸Below.refl _ _⟩
theorem Jl:ao Tryz.prog 133 false (az [(0,sS),(1,sS)] λ((s:ByteArray),(t:ByteArray),_)=>.nd (t=⟨#[10]⟩) (.lf (aI (Lib.countByte s.data.toList 10)))):=
 su (λ((s:ByteArray),(t:ByteArray),_)=>[.string s,.string t]) λw S ⟨(s:ByteArray),(t:ByteArray),_⟩ r _ ⟨ht,hr⟩=>by
  obtain rfl:aI (Lib.countByte s.data.toList 10)=r:=hr;subst ht;exact Calls.mono (Tryz.strings_Count_one s 10 w) λ_ _ h=>Eb rfl ⟨h.1,h.2▸Below.refl _ _⟩
theorem Ob:∀(o:Option (Option (Nat×List UInt8))) (x:Nat×List UInt8),(bif TN o then((Cl o).1+1,(Cl o).2) else(0,[]))=x->(aek o).hit (aT [.int .i64 x.1,.string ⟨x.2.toArray⟩])
 | none,_,h=>by subst h;exact aC rfl rfl
 | some none,_,h=>by subst h;exact aK rfl (aK rfl rfl)
 | some (some p),_,h=>by
  subst h;refine aK rfl (aC rfl ?_);show aT [.int .i64 (1+(p.1:Int)),.string ⟨([]++p.2).toArray⟩]=aT [.int .i64 ((p.1+1:Nat):Int),.string ⟨p.2.toArray⟩];rw[show((p.1+1:Nat):Int)=1+(p.1:Int) by omega];rfl
theorem N9:ao Tryz.prog 185 false (az [(0,sS)] λ((s:ByteArray),_)=>.nd (s.size<=20000/\1<=s.size) (.lf (aT [.int .i64 (tN s.data.toList).1,.string ⟨(tN s.data.toList).2.toArray⟩]))):=
 aN (C:=Mm) ((nL _ _).add 0 _ Kv) false 99 [(0,sS)] (λ((s:ByteArray),_)=>.nd (qN s [] 1) (aek (quo (s.data.toList.drop 1)))) (λ⟨(s:ByteArray),_⟩ r _ ⟨⟨h1,h2⟩,h⟩=>by
  obtain rfl:aT [.int .i64 (tN s.data.toList).1,.string ⟨(tN s.data.toList).2.toArray⟩]=r:=h;exact⟨⟨⟨⟨by decide,by omega,by omega⟩,h1,by decide,λv hv=>by cases hv⟩,Ob _ _ rfl⟩,.inr rfl⟩) Tryz.func185
noncomputable def aoX:eP Tryz.prog:=bA E7 [⟨_,_,_,MJ⟩,⟨_,_,_,Cq⟩,⟨_,_,_,N9⟩,⟨_,_,_,ZY⟩,⟨_,_,_,NE⟩,⟨_,_,_,Jl⟩] []
abbrev E6 (k:Int) (x:ByteArray) (n:Int):XV:=aT [.int .i64 k,.string x,.int .i64 n]
def ON (c:UInt8):Bool:=decide (Lib.indexByte [123,125,59,44,47] c>=0)
def cj (l:List UInt8):Int×List UInt8×Nat:=
 if 0<dn l then(1,l.take (dn l),dn l)
 else if 0<cK l then(2,l.take (cK l),cK l)
 else if l.headD 0=34 then(3,(tN l).2,(tN l).1)
 else if ON (l.headD 0) then(4,l.take 1,1) else(0,[],0)
theorem exT (s:ByteArray) (k:Nat):s.extract 0 k=⟨(s.data.toList.take k).toArray⟩:=baL (by rw[ByteArray.data_extract,Array.toList_extract,List.extract_eq_take_drop];rfl)
def Zm (s:ByteArray):T XV:=.nd (s.size<=9223372036854775807) (.br (decide ((dn s.data.toList:Int)>0)) (.nd ((0:Int)<=0/\(0:Int)<=dn s.data.toList/\(dn s.data.toList:Int)<=s.size) (.lf (E6 1 (s.extract 0 (dn s.data.toList)) (dn s.data.toList))))
 (.nd (s.size<=9223372036854775807) (.br (decide ((cK s.data.toList:Int)>0)) (.nd ((0:Int)<=0/\(0:Int)<=cK s.data.toList/\(cK s.data.toList:Int)<=s.size) (.lf (E6 2 (s.extract 0 (cK s.data.toList)) (cK s.data.toList))))
 (.nd ((0:Int)<=0/\(0:Int)<s.size) (.br (at8 s 0==34) (.nd (s.size<=20000/\1<=s.size) (.lf (E6 3 ⟨(tN s.data.toList).2.toArray⟩ (tN s.data.toList).1))) (.nd ((0:Int)<=0/\(0:Int)<s.size) (.br (decide (Lib.indexByte (⟨#[123,125,59,44,47]⟩:ByteArray).data.toList (at8 s 0).toNat.toUInt8>=0)) (.nd ((0:Int)<=0/\(0:Int)<=1/\(1:Int)<=s.size) (.lf (E6 4 (s.extract 0 1) 1))) (.lf (E6 0 ⟨#[]⟩ 0)))))))))
theorem uB (l:List UInt8):dn l<=l.length:=by
 unfold dn;cases l with
 | nil=>exact aaG _
 | cons c l=>show(if _ then _ else _)<=_;split;exact(acZ _).length_le;exact abz _
theorem yd (l:List UInt8):cK l<=l.length:=by
 unfold cK;split;exact abz _;exact(acZ _).length_le
theorem Zl:ao Tryz.prog 134 false (az [(0,sS)] λ((s:ByteArray),_)=>.nd (s.size<=20000/\1<=s.size) (.lf (E6 (cj s.data.toList).1 ⟨(cj s.data.toList).2.1.toArray⟩ (cj s.data.toList).2.2))):=
 aN (C:=aoX) (nL _ _) false 99 [(0,sS)] (λ((s:ByteArray),_)=>Zm s) (λ⟨(s:ByteArray),_⟩ r _ ⟨⟨h1,h2⟩,h⟩=>by
  obtain rfl:E6 (cj s.data.toList).1 ⟨(cj s.data.toList).2.1.toArray⟩ (cj s.data.toList).2.2=r:=h;refine⟨?_,.inr rfl⟩;have hw:=uB s.data.toList;have hn:=yd s.data.toList;rw[ic] at hw hn;obtain⟨c,l,e,ec,_⟩:=Jd (s:=s) (k:=0) (by omega);rw[acr] at e;have ec:at8 s 0=(c.toNat:Int):=ec;show(Zm s).hit _;unfold Zm cj;refine⟨by omega,?_⟩;by_cases q1:0<dn s.data.toList
  ·rw[if_pos q1];exact aC (decide_eq_true (by omega)) ⟨⟨by omega,by omega,by omega⟩,by rw[exT];rfl⟩
  rw[if_neg q1];refine aK (decide_eq_false (by omega)) ⟨by omega,?_⟩;by_cases q2:0<cK s.data.toList
  ·rw[if_pos q2];exact aC (decide_eq_true (by omega)) ⟨⟨by omega,by omega,by omega⟩,by rw[exT];rfl⟩
  rw[if_neg q2];refine aK (decide_eq_false (by omega)) ⟨⟨by omega,by omega⟩,?_⟩;rw[ec,show((c.toNat:Int).toNat.toUInt8)=c by rw[aae];exact UInt8.ofNat_toNat];have hm:s.data.toList.headD 0=c:=by rw[e];rfl
  rw[hm];by_cases q3:c=34
  ·rw[if_pos q3];exact aC (eqT 34 (by decide) q3) ⟨⟨h1,h2⟩,rfl⟩
  rw[if_neg q3];refine aK (XG 34 (by decide) q3) ⟨⟨by omega,by omega⟩,?_⟩;by_cases q4:ON c=true
  ·rw[if_pos q4];exact aC q4 ⟨⟨by omega,by omega,by omega⟩,by rw[exT];rfl⟩
  ·rw[if_neg q4];exact aK (acI.2 q4:ON c=false) rfl) Tryz.func134
noncomputable def ajw (t:TypeId):Option Ty:=List.lookup t [(9,.str),(3,tI),(166,.st 17),(46,tI)]
noncomputable def ahA:eP Tryz.prog:=bA ajw [⟨_,_,_,NE⟩,⟨_,_,_,Jl⟩,⟨_,_,_,Zl⟩] []
end Go.Proofs.YtdbpbfglhbiadaaGreatDoor
