/- MRun Tm1 MLp Bsc Lx1 Lx2 Lx3 -/
import Derived.Test.YtichkplomldgiaaGreatDoorJ24
import Derived.Test.YtichkplomldgiaaGreatDoorProg
import Derived.Lib.SlicesS
import Derived.Test.YtichkplomldgiaaGreatDoorJ01
import Derived.Test.YtichkplomldgiaaGreatDoorJ06
set_option maxHeartbeats 4000000
set_option maxRecDepth 100000
namespace Go.Proofs.YtichkplomldgiaaGreatDoor
open Go Go.RowKit
def bd (f:Func):Code:=f.body.getD .skip
def Nj (c:Code):Code:=match c with
 | .loop b=>b
 | _=>.skip
def tO (f:Func) (k:Nat):Code:=Nj ((eZ (bd f))[k]?.getD .skip)
abbrev sD (t:Ty):SS:=.c (.d t)
abbrev sI:SS:=sD tI
abbrev sS:SS:=sD .str
abbrev sB:SS:=sD .bool
abbrev sL:SS:=sD (.list .str)
abbrev aI (n:Int):XV:=.one (.sym (.int .i64 n))
abbrev aB (b:Bool):XV:=.one (.sym (.bool b))
abbrev aS (s:ByteArray):XV:=.one (.sym (.string s))
def G1 (v:Int):Bool:=decide (0<=v)
abbrev nc {P:Program} (C:dN P) (f:Func):Rg P f.ntmps:=Ks C f.ntmps f [] true (.inl rfl)
abbrev IW {P:Program} (C:dN P) (f:Func) (pb:List Nat):Rg P f.ntmps:=Ks C f.ntmps f pb false (.inr rfl)
abbrev Q0 {P:Program} (C:dN P) (f:Func) (pb:List Nat) (tb:List (Nat×List Nat)):Rg P f.ntmps:=Kh (IW C f pb) tb
abbrev nL {P:Program} {m:Nat} (R:Rg P m) (f:Func):oX P R.fn m R.pb (eZ (bd f)):=noL _ _ _ _ _
theorem Hi {b:Code}:∀{c:Code} {k:Nat},(eZ c)[k]?=some (.loop b)->∀(j:Nat) (x:Code),(eZ b)[j]?=some x->(eZ c)[k+1+j]?=some x:=by
 intro c;have two:∀{l1 l2:List Code} {k:Nat},(∀{k:Nat},l1[k]?=some (.loop b)->∀(j:Nat) (x:Code),(eZ b)[j]?=some x->l1[k+1+j]?=some x)->(∀{k:Nat},l2[k]?=some (.loop b)->∀(j:Nat) (x:Code),(eZ b)[j]?=some x->l2[k+1+j]?=some x)->(l1++l2)[k]?=some (.loop b)->∀(j:Nat) (x:Code),(eZ b)[j]?=some x->(l1++l2)[k+1+j]?=some x:=by
  intro l1 l2 k h1 h2 h j x hj;by_cases hk:k<l1.length
  ·rw[List.getElem?_append_left hk] at h;have:=h1 h j x hj;rw[List.getElem?_append_left (List.getElem?_eq_some_iff.1 this).1];exact this
  ·rw[List.getElem?_append_right (by omega)] at h;have:=h2 h j x hj;rw[List.getElem?_append_right (by omega),show k+1+j-l1.length=k-l1.length+1+j by omega];exact this
 induction c with
 | seq x y hx hy=>intro k h;exact two hx hy h
 | cond q x y hx hy=>intro k h;exact two hx hy h
 | block i x hx=>intro k h;exact hx h
 | loop x hx=>
  intro k h j y hj;cases k with
  | zero=>
   injection h with h
   injection h with h
   subst h;rw[Nat.zero_add,Nat.add_comm];exact hj
  | succ k=>
   have:=hx (k:=k) (by simpa[eZ] using h) j y hj;rw[show k+1+1+j=(k+1+j)+1 by omega];exact this
 | _=>intro k h;cases h
def dS {P:Program} {f:Func} (R:Rg P f.ntmps) (k d:Nat) (l lo lr:List (Nat×SS)) (G:aG l->T (LE l lo lr)):Prop:=∀c,(eZ (bd f))[k]?=some c->sN P R.fn f.ntmps R.pb c (Sx R.pb d l lo lr G)
theorem jX {P:Program} {f:Func} (R:Rg P f.ntmps) (L:oX P R.fn f.ntmps R.pb (eZ (bd f))) (n k d:Nat) (l lo lr:List (Nat×SS)) (B:aG l->T (LE l lo lr)) {G:aG l->T (LE l lo lr)} (μ:aG l->Nat) (iO:∀x r,xe l x->(G x).hit r->∃q,(B x).hit q/\match q with|.back x'=>μ x'<μ x/\(G x').hit r|q=>q=r) (hB:∀x,NL R L n k d (tO f k) l lo lr x=B x:=by intro x;kernel_rfl) (hk:(eZ (bd f))[k]?=some (.loop (tO f k)):=by kernel_rfl):dS R k d l lo lr G:=by
 intro c hc;rw[hk] at hc;obtain rfl:=Option.some.inj hc;exact PH R L (n:=n) (k:=k) μ (Hi hk) λx r h0 h=>by rw[hB];exact iO x r h0 h
theorem aJ {P:Program} {f:FuncId} {fn:Func} {C:dN P} (L:oX P (nc C fn).fn fn.ntmps (nc C fn).pb (eZ (bd fn))) (al:Bool) (n:Nat) (l0:List (Nat×SS)) (B:aG l0->T XV) {G:aG l0->T XV} (h:∀x r,xe l0 x->(G x).hit r->(B x).hit r/\(al=true\/r.plain=true)) (hf:P.funcs[f]?=some fn) (hB:∀x,SZ (nc C fn) L n (bd fn) l0 x=B x:=by intro x;kernel_rfl) (hln:l0.length<=fn.ntmps:=by decide) (hb:fn.body=some (bd fn):=by rfl):aj P f al (az l0 G):=
 pure_ok (nc C fn) L rfl rfl hf hb rfl al n l0 G hln λx r h0 h1=>by rw[hB];exact h x r h0 h1
theorem kI {P:Program} {f:FuncId} {fn:Func} {C:dN P} {pb:List Nat} (L:oX P (IW C fn pb).fn fn.ntmps (IW C fn pb).pb (eZ (bd fn))) (n:Nat) (l0 lr:List (Nat×SS)) (B:aG l0->T (XV×aG lr)) {G:aG l0->T (XV×aG lr)} (h:∀x r,xe l0 x->(G x).hit r->(B x).hit r) (hf:P.funcs[f]?=some fn) (hB:∀x,S3 (IW C fn pb) L n (bd fn) l0 lr x=B x:=by intro x;kernel_rfl) (jl:pb≠[]:=by decide) (hln:l0.length<=fn.ntmps:=by decide) (hb:fn.body=some (bd fn):=by rfl):eB P f pb l0 lr G:=
 wH (IW C fn pb) L rfl jl hf hb rfl n l0 lr G hln λx r h0 h1=>by rw[hB];exact h x r h0 h1
theorem WG {P:Program} {f:FuncId} {fn:Func} {C:dN P} {pb:List Nat} (tb:List (Nat×List Nat)) (L:oX P (Q0 C fn pb tb).fn fn.ntmps (Q0 C fn pb tb).pb (eZ (bd fn))) (n:Nat) (l0 lr:List (Nat×SS)) (B:aG l0->T (XV×aG lr)) {G:aG l0->T (XV×aG lr)} (h:∀x r,xe l0 x->(G x).hit r->(B x).hit r) (hf:P.funcs[f]?=some fn) (hB:∀x,S3 (Q0 C fn pb tb) L n (bd fn) l0 lr x=B x:=by intro x;kernel_rfl) (jl:pb≠[]:=by decide) (hln:l0.length<=fn.ntmps:=by decide) (hb:fn.body=some (bd fn):=by rfl):eB P f pb l0 lr G:=
 wH (Q0 C fn pb tb) L rfl jl hf hb rfl n l0 lr G hln λx r h0 h1=>by rw[hB];exact h x r h0 h1
theorem wI {P:Program} {f:FuncId} {fn:Func} {R:Rg P fn.ntmps} (L:oX P R.fn fn.ntmps R.pb (eZ (bd fn))) (n:Nat) (l0 lr:List (Nat×SS)) (B:aG l0->T (XV×aG lr)) {G:aG l0->T (XV×aG lr)} (h:∀x r,xe l0 x->(G x).hit r->(B x).hit r) (hf:P.funcs[f]?=some fn) (hB:∀x,S3 R L n (bd fn) l0 lr x=B x:=by intro x;kernel_rfl) (IE:R.fn=fn:=by rfl) (jl:R.pb≠[]:=by decide) (hln:l0.length<=fn.ntmps:=by decide) (hb:fn.body=some (bd fn):=by rfl):eB P f R.pb l0 lr G:=
 wH R L IE jl hf hb rfl n l0 lr G hln λx r h0 h1=>by rw[hB];exact h x r h0 h1
theorem q9 {P:Program} {f:FuncId} {fn:Func} {R:Rg P fn.ntmps} (L:oX P R.fn fn.ntmps R.pb (eZ (bd fn))) (al:Bool) (n:Nat) (l0:List (Nat×SS)) (B:aG l0->T XV) {G:aG l0->T XV} (h:∀x r,xe l0 x->(G x).hit r->(B x).hit r/\(al=true\/r.plain=true)) (hf:P.funcs[f]?=some fn) (hB:∀x,SZ R L n (bd fn) l0 x=B x:=by intro x;kernel_rfl) (IE:R.fn=fn:=by rfl) (jl:R.pb=[]:=by rfl) (hln:l0.length<=fn.ntmps:=by decide) (hb:fn.body=some (bd fn):=by rfl):aj P f al (az l0 G):=
 pure_ok R L IE jl hf hb rfl al n l0 G hln λx r h0 h1=>by rw[hB];exact h x r h0 h1
noncomputable def shut {α:Type} (a:α):α:=Classical.choose (⟨a,rfl⟩:∃b,b=a)
theorem fh {α:Type} (a:α):shut a=a:=Classical.choose_spec (⟨a,rfl⟩:∃b,b=a)
theorem aK {α:Type} {b:Bool} {x y:T α} {r:α} (hb:b=true) (h:x.hit r):(T.br b x y).hit r:=⟨λ_=>h,λe=>by rw[hb] at e;cases e⟩
theorem aQ {α:Type} {b:Bool} {x y:T α} {r:α} (hb:b=false) (h:y.hit r):(T.br b x y).hit r:=⟨(λe=>by rw[hb] at e;cases e),λ_=>h⟩
theorem hB {α:Type} {b:Bool} {x y:T α} {r:α} (h:(T.br b x y).hit r):(b=true/\x.hit r)\/(b=false/\y.hit r):=by
 cases b with
 | true=>exact .inl ⟨rfl,h.1 rfl⟩
 | false=>exact .inr ⟨rfl,h.2 rfl⟩
theorem aj.imp {P:Program} {f:FuncId} {al:Bool} {l0:List (Nat×SS)} {F G:aG l0->T XV} (h:aj P f al (az l0 F)) (hi:∀x r,(G x).hit r->∃q,(F x).hit q/\∀(w:World) (S:Nat->Prop) (v:Value),XR [] w S q v->XR [] w S r v):aj P f al (az l0 G):=λw S xs vs r hW hS hx hr=>by
 unfold az at hr;split at hr
 ·rename_i x ju;split at hr
  ·rename_i hl;obtain⟨q,h1,h2⟩:=hi x r hr;refine Calls.mono (h w S xs vs q hW hS hx (by unfold az;rw[ju];simp only[hl,if_true];exact h1)) λe w' ⟨v,S',e1,e2,e3,e4⟩=>⟨v,S',e1,e2,e3,h2 _ _ _ e4⟩
  ·exact hr.elim
 ·exact hr.elim
def OF:AV->AV
 | .list t xs _=>.list t xs false
 | a=>a
def Tz:XV->XV
 | .one a=>.one (OF a)
 | .agg cs=>.agg (cs.map OF)
 | .tup l=>.tup (l.map λp=>(p.1,p.2.map OF))
theorem u7 {bs:List Value} {w:World} {S:Nat->Prop} {x:AV} {v:Value} (h:VR bs w S x v):VR bs w S (OF x) v:=by
 cases x with
 | list t xs q=>obtain⟨A,n,c,h1,h2,_⟩:=h;exact⟨A,n,c,h1,h2,λe=>by cases e⟩
 | _=>exact h
theorem BJ {bs:List Value} {w:World} {S:Nat->Prop} {x:XV} {v:Value} (h:XR bs w S x v):XR bs w S (Tz x) v:=by
 have hc:∀{ag:Bool} {cs:List AV} {v:Value},CR bs w S ag cs v->CR bs w S ag (cs.map OF) v:=by
  intro ag cs v h;unfold CR at h ⊢;cases ag with
  | true=>obtain⟨vs,e,h⟩:=h;exact⟨vs,e,h.mapL λ_ _ _ h=>u7 h⟩
  | false=>obtain⟨a,rfl,h⟩:=h;exact⟨_,rfl,u7 h⟩
 cases x with
 | one b=>exact u7 h
 | agg cs=>exact hc (ag:=true) h
 | tup l=>obtain⟨vs,e,h⟩:=h;exact⟨vs,e,h.mapL λ_ _ _ h=>hc h⟩
theorem aj.wk {P:Program} {f:FuncId} {al:Bool} {l0:List (Nat×SS)} {F G:aG l0->T XV} (h:aj P f al (az l0 F)) (hi:∀x r,(G x).hit r->∃q,(F x).hit q/\Tz q=r):aj P f al (az l0 G):=h.imp λx r hr=>by
 obtain⟨q,h1,rfl⟩:=hi x r hr;exact⟨q,h1,λw S v h=>BJ h⟩
theorem Rl {P:Program} {f:FuncId} {t:Ty} {g:List (El t)->List (El t)->Bool} (h:∀(S:Nat->Prop) (A:Option Addr) (n c:Nat) (A2:Option Addr) (n2 c2:Nat) (xs ys:List (El t)) (w:World),RS w S A n c xs->RS w S A2 n2 c2 ys->Calls P f #[.slice A n c,.slice A2 n2 c2] w (Fz w (.bool (g xs ys)))):aj P f false (az [(0,sD (.list t)),(1,sD (.list t))] λ((xs:List (El t)),(ys:List (El t)),_)=>.lf (aB (g xs ys))):=
 gV λw S x vs r hS he hl hr=>by
  obtain⟨(xs:List (El t)),(ys:List (El t)),_⟩:=x;obtain⟨v,h1,A,q,c,h2,h3,_⟩:=he 0 (.one (.list t xs false)) List.mem_cons_self;obtain⟨v',iA,A2,q2,c2,Ew,Wu,_⟩:=he 1 (.one (.list t ys false)) (List.mem_cons_of_mem _ List.mem_cons_self);obtain rfl:=hr
  match vs,hl,h1,iA with
  | [u,u'],_,h1,iA=>
   injection h1 with h1
   injection iA with iA
   subst h1 iA h2 Ew;exact Calls.mono (h S A q c A2 q2 c2 xs ys w h3 Wu) λe w' ⟨e1,n,e2⟩=>⟨_,λ_=>False,e1,e2▸below_drewN (Below.refl _ _) n,λ_ q=>q.elim,rfl,rfl⟩
def IT {t:Ty} (g:FuncId) (q:List (El t)->List (El t)->Bool) (xs:List XV):T XV:=match xs with
 | [x,y,.one (.val (.func (.func k) a b))]=>if k=g/\a.size=0/\b.size=0 then az [(0,sD (.list t)),(1,sD (.list t))] (λ((xs:List (El t)),(ys:List (El t)),_)=>.lf (aB (q xs ys))) [x,y] else .bad
 | _=>.bad
theorem Kp {P:Program} {f g:FuncId} {t:Ty} {q:List (El t)->List (El t)->Bool} (h:∀(S:Nat->Prop) (A:Option Addr) (n c:Nat) (A2:Option Addr) (n2 c2:Nat) (xs ys:List (El t)) (w:World),RS w S A n c xs->RS w S A2 n2 c2 ys->(∀b,S b->b<w.heap.size)->Calls P f #[.slice A n c,.slice A2 n2 c2,.func (.func g) #[] #[]] w (jz w (.bool (q xs ys)))):aj P f false (IT (t:=t) g q):=by
 intro w S xs vs r hW hS hx hr;unfold IT at hr;split at hr
 ·rename_i x y k a b;split at hr
  ·rename_i hc;obtain⟨rfl,ha,hb⟩:=hc;obtain rfl:=Array.eq_empty_of_size_eq_zero ha;obtain rfl:=Array.eq_empty_of_size_eq_zero hb;cases hx with
   | cons h1 hx=>cases hx with
    | cons h2 hx=>cases hx with
     | cons h3 hx=>
      cases hx
      obtain rfl:_=Value.func (.func k) #[] #[]:=h3.1;obtain⟨⟨(xs:List (El t)),(ys:List (El t)),_⟩,he,hl,hr⟩:=uF hW hS (.cons h1 (.cons h2 .nil)) hr;obtain⟨v,g1,A,n,c,g2,g3,_⟩:=he 0 (.one (.list t xs false)) List.mem_cons_self;obtain⟨v',Wz,A2,n2,c2,g2',g3',_⟩:=he 1 (.one (.list t ys false)) (List.mem_cons_of_mem _ List.mem_cons_self);obtain rfl:=hr;injection g1 with g1
      injection Wz with Wz
      subst g1 Wz g2 g2';exact Calls.mono (h S A n c A2 n2 c2 xs ys w g3 g3' hS) λe w' e1=>⟨_,λ_=>False,e1.1,e1.2,λ_ q=>q.elim,rfl,rfl⟩
  ·exact hr.elim
 ·exact hr.elim
def Nc {α:Type} (ret:T α):List Bool->T α->T α
 | [],t=>t
 | b::l,t=>.br (!b) ret (Nc ret l t)
theorem Rh {α:Type} {ret t:T α} {r:α} (h:t.hit r):∀(l:List Bool),l.all id=true->(Nc ret l t).hit r
 | [],_=>h
 | b::l,hl=>by
  rw[List.all_cons,Bool.and_eq_true] at hl;exact aQ (by rw[show b=true from hl.1];rfl) (Rh h l hl.2)
theorem Ri {α:Type} {ret t:T α} {r:α} (h:ret.hit r):∀(l:List Bool),l.all id=false->(Nc ret l t).hit r
 | b::l,hl=>by
  cases b with
  | false=>exact aK rfl h
  | true=>exact aQ rfl (Ri h l hl)
def Bg {α:Type} (ret:T α):List Bool->T α->T α
 | [],t=>t
 | b::l,t=>.br b (Bg ret l t) ret
theorem kN {α:Type} {ret t:T α} {r:Bool->α} (hr:ret.hit (r false)) {y:Bool}:∀(l:List Bool),(l.all id=true->t.hit (r y))->(Bg ret l t).hit (r (l.all id&&y))
 | [],h=>h rfl
 | b::l,h=>by
  cases b with
  | false=>exact aQ rfl hr
  | true=>exact aK rfl (kN hr l λhl=>h hl)
noncomputable def Gd (t:TypeId):Option Ty:=List.lookup t [(9,.str),(3,tI)]
noncomputable def C0:dN Tryz.prog:=bH Gd [] []
theorem dX {x y:ByteArray}:(x.toList==y.toList)=decide (x=y):=by
 have e:∀a:ByteArray,a.toList=a.data.toList:=ByteArray.toList_eq;rw[e,e];by_cases h:x=y
 ·subst h;simp
 ·rw[decide_eq_false h,beq_eq_false_iff_ne];intro h2;exact h (by cases x;cases y;simp at h2;rw[h2])
theorem getD_drop {α:Type} {xs:List α} {i:Nat} (d:α) (h:i<xs.length):xs.drop i=xs.getD i d::xs.drop (i+1):=by
 rw[List.getD_eq_getElem?_getD,List.getElem?_eq_getElem h];exact List.drop_eq_getElem_cons h
theorem IQ:dS (nc C0 Tryz.f72) 0 0 [(0,sL),(1,sS),(5,sI)] [] [] λ((xs:List ByteArray),(s:ByteArray),(i:Int),_)=>
 .nd (0<=i/\i<=xs.length) (.br (G1 (Lib.idxFromS (xs.drop i.toNat) s i.toNat)) (.lf (.ret (aI (Lib.idxFromS (xs.drop i.toNat) s i.toNat)) ())) (.lf (.out ()))):=by
  refine jX _ (nL _ _) 99 0 0 [(0,sL),(1,sS),(5,sI)] [] [] (λ((xs:List ByteArray),(s:ByteArray),(i:Int),_)=>.br (decide (i<xs.length)) (.nd (0<=i/\i<xs.length) (.br ((xs.getD i.toNat ⟨#[]⟩).toList==s.toList) (.lf (.ret (aI i) ())) (.nd (dD (i+1)) (.lf (.back (xs,s,i+1,())))))) (.lf (.out ())))
   (λ((xs:List ByteArray),_,(i:Int),_)=>xs.length-i.toNat) ?_
  rintro⟨(xs:List ByteArray),(s:ByteArray),(i:Int),_⟩ r ⟨hl,_⟩ ⟨⟨h0,h1⟩,h⟩;have hl:xs.length<=9223372036854775807:=hl;obtain⟨k,rfl⟩:∃k:Nat,i=k:=⟨i.toNat,by omega⟩;simp only[Int.toNat_natCast,dX] at h ⊢;by_cases hi:k<xs.length
  ·rw[getD_drop ⟨#[]⟩ hi] at h;unfold Lib.idxFromS at h;by_cases hx:xs.getD k ⟨#[]⟩=s
   ·rw[if_pos hx] at h;exact⟨_,aK (decide_eq_true (by omega)) ⟨⟨by omega,by omega⟩,aK (decide_eq_true hx) rfl⟩,((hB h).resolve_right λq=>by have:=q.1;simp[G1] at this).2⟩
   ·rw[if_neg hx] at h;exact⟨_,aK (decide_eq_true (by omega)) ⟨⟨by omega,by omega⟩,aQ (decide_eq_false hx) ⟨⟨by omega,by omega⟩,rfl⟩⟩,by show xs.length-(k+1)<xs.length-k;omega,⟨by omega,by omega⟩,h⟩
  ·rw[List.drop_eq_nil_of_le (by omega)] at h;exact⟨_,aQ (decide_eq_false (by omega)) rfl,((hB h).resolve_left λq=>by have:=q.1;simp[G1,Lib.idxFromS] at this).2⟩
theorem kB:∀(xs:List ByteArray) (s:ByteArray) (i:Nat),0<=Lib.idxFromS xs s i\/Lib.idxFromS xs s i= -1
 | [],_,_=>.inr rfl
 | x::l,s,i=>by
  unfold Lib.idxFromS;split
  ·exact .inl (by omega)
  ·exact kB l s (i+1)
theorem find_ok:aj Tryz.prog 72 false (az [(0,sL),(1,sS)] λ((xs:List ByteArray),(s:ByteArray),_)=>.lf (aI (Lib.idxOfS xs s))):=
 aJ (C:=C0) ((nL _ _).add 0 _ IQ) false 99 [(0,sL),(1,sS)] (λ((xs:List ByteArray),(s:ByteArray),_)=>.nd ((0:Int)<=0/\(0:Int)<=xs.length) (.br (G1 (Lib.idxFromS xs s 0)) (.lf (aI (Lib.idxFromS xs s 0))) (.lf (aI (-1)))))
  (λ⟨xs,s,_⟩ r _ h=>⟨⟨⟨by omega,by omega⟩,by
   obtain rfl:aI (Lib.idxOfS xs s)=r:=h;rcases kB xs s 0 with h|h
   ·exact aK (decide_eq_true h) rfl
   ·exact aQ (decide_eq_false (by omega)) (by show aI (-1)=aI (Lib.idxFromS xs s 0);rw[h])⟩,.inr (by obtain rfl:aI (Lib.idxOfS xs s)=r:=h;rfl)⟩) Tryz.func72
abbrev aT (us:List Value):XV:=.tup (us.map λu=>(false,[.sym u]))
def uj {α σ ρ:Type} (st:α->σ->T (σ ⊕ ρ)):List α->σ->T (σ ⊕ ρ)
 | [],s=>.lf (.inl s)
 | a::l,s=>(st a s).bind λq=>match q with
  | .inl s'=>uj st l s'
  | .inr r=>.lf (.inr r)
theorem T.bind_hit {α β:Type} {f:α->T β} {r:β} {q:α}:∀{t:T α},t.hit q->(f q).hit r->(t.bind f).hit r
 | .lf a,h,h2=>by obtain rfl:a=q:=h;exact h2
 | .br b x y,h,h2=>⟨λe=>T.bind_hit (h.1 e) h2,λe=>T.bind_hit (h.2 e) h2⟩
 | .nd p t,h,h2=>⟨h.1,T.bind_hit h.2 h2⟩
def LE.isB {l lo lr:List (Nat×SS)}:LE l lo lr->Bool
 | .back _=>true
 | _=>false
theorem dS.imp {P:Program} {f:Func} {R:Rg P f.ntmps} {k d:Nat} {l lo lr:List (Nat×SS)} {F G:aG l->T (LE l lo lr)} (h:dS R k d l lo lr F) (hi:∀x r,(G x).hit r->(F x).hit r):dS R k d l lo lr G:=λc hc cx st a w q jl hh hs=>h c hc cx st a w q jl (by
 unfold Sx at hh ⊢;split at hh
 ·obtain⟨r,h1,h2⟩:=T.hit_bind hh;exact T.bind_hit (hi _ r h1) h2
 ·exact hh) hs
def LE.nx {l lo lr:List (Nat×SS)} (q:LE l lo lr) (μ:aG l->Nat) (G:aG l->T (LE l lo lr)) (m:Nat) (r:LE l lo lr):Prop:=match q with
 | .back x=>μ x<m/\(G x).hit r
 | q=>q=r
theorem jF {P:Program} {f:Func} (R:Rg P f.ntmps) (L:oX P R.fn f.ntmps R.pb (eZ (bd f))) (n k d:Nat) (l lo lr:List (Nat×SS)) (B:aG l->T (LE l lo lr)) {G:aG l->T (LE l lo lr)} (μ:aG l->Nat) (iO:∀x r,xe l x->(G x).hit r->∃q,(B x).hit q/\q.nx μ G (μ x) r) (hB:∀x,NL R L n k d (tO f k) l lo lr x=B x:=by intro x;kernel_rfl) (hk:(eZ (bd f))[k]?=some (.loop (tO f k)):=by kernel_rfl):dS R k d l lo lr G:=
 jX R L n k d l lo lr B μ (λx r hb hr=>let ⟨q,h1,h2⟩:=iO x r hb hr;⟨q,h1,by cases q<;>exact h2⟩) hB hk
theorem PI {P:Program} {f:Func} (R:Rg P f.ntmps) (L:oX P R.fn f.ntmps R.pb (eZ (bd f))) (n k d:Nat) (l lo lr:List (Nat×SS)) {α σ ρ:Type} (st:α->σ->T (σ ⊕ ρ)) (xs:aG l->List α) (ix:aG l->Int) (s:aG l->σ) (mk:aG l->σ->aG l) (fin:aG l->σ->LE l lo lr) (MV:aG l->ρ->LE l lo lr) (inv:aG l->Prop) (B:aG l->T (LE l lo lr)) {G:aG l->T (LE l lo lr)} (hG:∀x r,(G x).hit r->inv x/\0<=ix x/\ix x<=(xs x).length/\∃q,(uj st ((xs x).drop (ix x).toNat) (s x)).hit q/\q.elim (fin x) (MV x)=r) (yD:∀x a q,xe l x->inv x->0<=ix x->(ix x).toNat<(xs x).length->(xs x)[(ix x).toNat]?=some a->(st a (s x)).hit q->(B x).hit (q.elim (λs'=>.back (mk x s')) (MV x))/\∀s',q=.inl s'->inv (mk x s')/\ix (mk x s')=ix x+1) (wt:∀x,xe l x->inv x->ix x=(xs x).length->(B x).hit (fin x (s x))) (hmk:∀x s',xs (mk x s')=xs x/\s (mk x s')=s'/\fin (mk x s')=fin x/\MV (mk x s')=MV x:=by intro x s';exact⟨rfl,rfl,rfl,rfl⟩) (cM:∀x s',(fin x s').isB=false:=by intro x s';rfl) (VG:∀x e,(MV x e).isB=false:=by intro x e;rfl) (hB:∀x,NL R L n k d (tO f k) l lo lr x=B x:=by intro x;kernel_rfl) (hk:(eZ (bd f))[k]?=some (.loop (tO f k)):=by kernel_rfl):dS R k d l lo lr G:=by
 have h1:dS R k d l lo lr λx=>.nd (inv x/\0<=ix x/\ix x<=(xs x).length) ((uj st ((xs x).drop (ix x).toNat) (s x)).bind λq=>.lf (q.elim (fin x) (MV x))):=by
  refine jX R L n k d l lo lr B (λx=>(xs x).length-(ix x).toNat) (λx r hb ⟨⟨h0,h1,h2⟩,hr⟩=>?_) hB hk;have nb:∀{q:LE l lo lr},q.isB=false->q=r->match q with|.back x'=>(xs x').length-(ix x').toNat<(xs x).length-(ix x).toNat/\(T.nd (inv x'/\0<=ix x'/\ix x'<=(xs x').length) ((uj st ((xs x').drop (ix x').toNat) (s x')).bind λq=>.lf (q.elim (fin x') (MV x')))).hit r|q=>q=r:=λ{q} h e=>by cases q<;>first|exact e|cases h
  by_cases hi:(ix x).toNat<(xs x).length
  ·rw[List.drop_eq_getElem_cons hi] at hr;obtain⟨q,hq,hr⟩:=T.hit_bind hr;obtain⟨q1,D1,hq⟩:=T.hit_bind hq;obtain⟨b1,b2⟩:=yD x _ q1 hb h0 h1 hi (List.getElem?_eq_getElem hi) D1;refine⟨_,b1,?_⟩;obtain rfl:=hr;cases q1 with
   | inl s'=>
    obtain⟨e1,e3,e4,e5⟩:=hmk x s';obtain⟨b3,e2⟩:=b2 s' rfl;have e6:(ix x+1).toNat=(ix x).toNat+1:=by omega
    show(xs (mk x s')).length-(ix (mk x s')).toNat<_/\_;refine⟨by rw[e1,e2,e6];omega,⟨b3,by omega,by rw[e1,e2];omega⟩,?_⟩;rw[e1,e2,e3,e4,e5,e6];exact T.bind_hit hq rfl
   | inr e=>obtain rfl:=hq;exact nb (VG x e) rfl
  ·have he:ix x=(xs x).length:=by omega
   rw[List.drop_eq_nil_of_le (by omega)] at hr;exact⟨_,wt x hb h0 he,nb (cM x _) hr⟩
 exact h1.imp λx r hr=>by
  obtain⟨g1,g2,g3,q,g4,g5⟩:=hG x r hr;exact⟨⟨g1,g2,g3⟩,T.bind_hit g4 g5⟩
section
variable {w w':World} {S:Nat->Prop} {e:Ending} {P:Program} {f:FuncId}
abbrev NI (w:World) (S:Nat->Prop) (al:Bool) (x:XV) (e:Ending) (w':World):Prop:=∃v S',e=.returned v/\Below w.heap.size w w'/\(∀b,S' b->(al=true/\S b)\/(w.heap.size<=b/\b<w'.heap.size))/\XR [] w' S' x v
theorem yz:∀{n:Nat} {l:List XV} {t:Nat} {y:XV},(t,y)∈kA n l->n<=t
 | _,[],_,_,h=>by cases h
 | n,x::l,t,y,h=>by
  rcases List.mem_cons.1 h with e|h
  ·injection e with e _;omega
  ·have:=yz h;omega
theorem OV {w:World} {S:Nat->Prop}:∀{us vs:List Value} {n:Nat},vs.length=us.length->(∀t y,(t,y)∈kA n (us.map λu=>XV.one (.sym u))->∃v,vs[t-n]?=some v/\XR [] w S y v)->vs=us
 | [],[],_,_,_=>rfl
 | [],_::_,_,h,_=>by cases h
 | _::_,[],_,h,_=>by cases h
 | u::us,v::vs,n,hl,h=>by
  obtain⟨v',h1,h2,_⟩:=h n _ List.mem_cons_self;rw[Nat.sub_self] at h1;injection h1 with h1
  subst h1 h2;refine congrArg (v::·) (OV (w:=w) (S:=S) (n:=n+1) (by simpa using hl) λt y hy=>?_);obtain⟨k,rfl⟩:∃k,t=n+1+k:=⟨t-(n+1),by have:=yz hy;omega⟩;have:=h _ y (List.mem_cons_of_mem _ hy);rw[show n+1+k-n=k+1 by omega] at this;rw[show n+1+k-(n+1)=k by omega];exact this
theorem lC {al:Bool} {l0:List (Nat×SS)} {G:aG l0->T XV} (us:aG l0->List Value) (h:∀(w:World) (S:Nat->Prop) (x:aG l0) (r:XV),Wd w->(G x).hit r->Calls P f (us x).toArray w (NI w S al r)) (hu:∀x,(bB l0 x).env=kA 0 ((us x).map λu=>XV.one (.sym u)):=by intro x;rfl) (hl:∀x,(us x).length=l0.length:=by intro x;rfl) (im:∀x:aG l0,(bB l0 x).heap=[]:=by intro x;rfl):aj P f al (az l0 G):=
 rc (λw S x vs r hW hS he Bs hr=>by
  obtain rfl:vs=us x:=OV (n:=0) (Bs.trans (hl x).symm) λt y hy=>he t y (by rw[hu x];exact hy);exact h w S x r hW hr) im
theorem uH {al:Bool} {v:Value} (hv:v.oneCell'=true) (h:jz w v e w'):NI w S al (.one (.sym v)) e w':=⟨v,λ_=>False,h.1,h.2,λ_ q=>q.elim,rfl,hv⟩
theorem Xb {al:Bool} {x:XV} {v:Value} (hx:XR [] w' (λ_=>False) x v) (h:jz w v e w'):NI w S al x e w':=⟨v,λ_=>False,h.1,h.2,λ_ q=>q.elim,hx⟩
end
abbrev sC:SS:=sD (.int .u8)
def vX (x:Int):Bool:=decide (97<=x)&&decide (x<=122)
def kK (x:Int):Bool:=decide (48<=x)&&decide (x<=57)
def z5 (x:Int):Bool:=decide (32<=x)&&decide (x<=126)
def mJ (x:Int):Bool:=vX x||(kK x||x==45)
def js (x:Int):Bool:=!(x==10)
def uU (p:Int->Bool) (c:UInt8):Bool:=p c.toNat
abbrev uO (f:FuncId) (p:Int->Bool):Prop:=aj Tryz.prog f false (az [(0,sC)] λ((x:Int),_)=>.lf (aB (p x)))
theorem wR {a b:Bool} {r:XV} (h:aB (a&&b)=r):(T.br a (.lf (aB b)) (.lf (aB false))).hit r/\(false=true\/r.plain=true):=by
 subst h;exact⟨⟨λh=>by rw[h];rfl,λh=>by rw[h];rfl⟩,.inr rfl⟩
theorem tT:uO 182 vX:=aJ (C:=C0) (nL _ _) false 99 [(0,sC)] (λ((x:Int),_)=>.br (decide (97<=x)) (.lf (aB (decide (x<=122)))) (.lf (aB false))) (λ⟨(_:Int),_⟩ _ _ h=>wR h) Tryz.func182
theorem yM:uO 184 kK:=aJ (C:=C0) (nL _ _) false 99 [(0,sC)] (λ((x:Int),_)=>.br (decide (48<=x)) (.lf (aB (decide (x<=57)))) (.lf (aB false))) (λ⟨(_:Int),_⟩ _ _ h=>wR h) Tryz.func184
theorem xO:uO 132 z5:=aJ (C:=C0) (nL _ _) false 99 [(0,sC)] (λ((x:Int),_)=>.br (decide (32<=x)) (.lf (aB (decide (x<=126)))) (.lf (aB false))) (λ⟨(_:Int),_⟩ _ _ h=>wR h) Tryz.func132
theorem Pu:uO 143 js:=aJ (C:=C0) (nL _ _) false 99 [(0,sC)] (λ((x:Int),_)=>.lf (aB (js x))) (λ_ _ _ h=>⟨h,.inr (by obtain rfl:=h;rfl)⟩) Tryz.func143
noncomputable def Yf:dN Tryz.prog:=bH Gd [⟨_,_,_,tT⟩,⟨_,_,_,yM⟩] []
theorem tX:uO 183 mJ:=aJ (C:=Yf) (nL _ _) false 99 [(0,sC)] (λ((x:Int),_)=>.br (vX x) (.lf (aB true)) (.br (kK x) (.lf (aB true)) (.lf (aB (x==45))))) (λ⟨(x:Int),_⟩ r _ h=>by
 obtain rfl:aB (mJ x)=r:=h;refine⟨?_,.inr rfl⟩;unfold mJ;exact⟨λh=>by rw[h];rfl,λh=>⟨λk=>by rw[h,k];rfl,λk=>by rw[h,k];rfl⟩⟩) Tryz.func183
def Gu (p:Int->Bool) (c:UInt8) (n:Int):T (Int ⊕ Int):=.br (p c.toNat) (.nd (dD (n+1)) (.lf (.inl (n+1)))) (.lf (.inr n))
theorem xA (p:Int->Bool):∀(l:List UInt8) (n:Int),0<=n->n+l.length<=9223372036854775807->∃q,(uj (Gu p) l n).hit q/\q.elim id id=n+(l.takeWhile (uU p)).length
 | [],n,_,_=>⟨.inl n,rfl,by simp⟩
 | c::l,n,h0,h1=>by
  rw[List.length_cons] at h1;rw[List.takeWhile_cons];cases hp:p c.toNat with
  | true=>
   obtain⟨q,h2,h3⟩:=xA p l (n+1) (by omega) (by omega);have hs:(Gu p c n).hit (.inl (n+1)):=aK hp ⟨⟨by omega,by omega⟩,rfl⟩;refine⟨q,T.bind_hit hs h2,?_⟩;rw[h3,if_pos (show uU p c=true from hp),List.length_cons];omega
  | false=>
   have hs:(Gu p c n).hit (.inr n):=aQ hp rfl;exact⟨.inr n,T.bind_hit hs rfl,by rw[if_neg (by rw[show uU p c=p c.toNat from rfl,hp];simp)];simp⟩
noncomputable abbrev zD:=Tryz.f142
abbrev JD (k:FuncId):List (Nat×SS):=[(0,sS),(1,.fn k),(5,sI)]
abbrev NK:List (Nat×SS):=[(5,sI)]
def YA (k:FuncId) (p:Int->Bool) (s:ByteArray) (n:Int):T (LE (JD k) NK []):=.br (decide (n<s.size)) (.nd (0<=n/\n<s.size) (.br (p ((s.data.toList.getD n.toNat 0).toNat:Int)) (.nd (dD (n+1)) (.lf (.back (s,(),n+1,())))) (.lf (.out (n,()))))) (.lf (.out (n,())))
def FL (s:ByteArray) (n:Int):Prop:=0<=n/\n<=s.size/\s.size<=9223372036854775807
def uS (p:Int->Bool) (s:ByteArray) (n:Int):Int:=n+((s.data.toList.drop n.toNat).takeWhile (uU p)).length
theorem dd (s:ByteArray):s.data.toList.length=s.size:=rfl
theorem Gj {s:ByteArray} {n:Int} {a:UInt8} (h:s.data.toList[n.toNat]?=some a):s.data.toList.getD n.toNat 0=a:=by rw[List.getD_eq_getElem?_getD,h];rfl
theorem xz {k:FuncId} {p:Int->Bool} {C:dN Tryz.prog} (hX:∀x:aG (JD k),NL (nc C zD) (nL _ zD) 99 0 0 (tO zD 0) (JD k) NK [] x=YA k p x.1 x.2.2.1):dS (nc C zD) 0 0 (JD k) NK [] λ((s:ByteArray),_,(n:Int),_)=>.nd (FL s n) (.lf (.out (uS p s n,()))):=by
 refine PI (nc C zD) (nL _ _) 99 0 0 (JD k) NK [] (Gu p) (λ((s:ByteArray),_)=>s.data.toList) (λ(_,_,(n:Int),_)=>n) (λ(_,_,(n:Int),_)=>n) (λ((s:ByteArray),_) m=>(s,(),m,())) (λ_ m=>.out (m,())) (λ_ m=>.out (m,())) (λ((s:ByteArray),_,(n:Int),_)=>FL s n) _ ?_ ?_ ?_ (hB:=hX)
 ·rintro⟨(s:ByteArray),_,(n:Int),_⟩ r ⟨h,rfl⟩;obtain⟨q,h1,h2⟩:=xA p (s.data.toList.drop n.toNat) n h.1 (by rw[List.length_drop,dd];have:=h.2;omega);refine⟨h,h.1,h.2.1,q,h1,?_⟩;cases q<;>exact congrArg (λm:Int=>(LE.out (m,()):LE (JD k) NK [])) h2
 ·rintro⟨(s:ByteArray),_,(n:Int),_⟩ a q _ h (h0:0<=n) (h1:n.toNat<s.data.toList.length) ha hq;have h1:n<s.size:=by rw[dd] at h1;omega
  have e:=Gj ha;rcases hB hq with⟨hp,hq⟩|⟨hp,hq⟩
  ·obtain⟨hi,rfl⟩:=hq;exact⟨aK (decide_eq_true h1) ⟨⟨h0,h1⟩,aK (by rw[e];exact hp) ⟨hi,rfl⟩⟩,λs' e=>by injection e with e;subst e;exact⟨(⟨Int.le_add_one h0,h1,h.2.2⟩:FL s (n+1)),rfl⟩⟩
  ·obtain rfl:=hq;exact⟨aK (decide_eq_true h1) ⟨⟨h0,h1⟩,aQ (by rw[e];exact hp) rfl⟩,λs' e=>by cases e⟩
 ·rintro⟨(s:ByteArray),_,(n:Int),_⟩ _ _ h;obtain rfl:n=(s.size:Int):=h;exact aQ (decide_eq_false (Int.lt_irrefl _)) rfl
abbrev Si (k:FuncId) (p:Int->Bool):List XV->T XV:=az [(0,sS),(1,.fn k)] λ((s:ByteArray),_)=>.nd (s.size<=9223372036854775807) (.lf (aI (uS p s 0)))
abbrev za (k:FuncId) (p:Int->Bool):Prop:=aj Tryz.prog 142 false (Si k p)
def Sq (c:List XV->Bool) (F G:List XV->T XV) (xs:List XV):T XV:=bif c xs then F xs else G xs
theorem aj.or {P:Program} {f:FuncId} {al:Bool} {F G:List XV->T XV} (c:List XV->Bool) (h:aj P f al F) (g:aj P f al G):aj P f al (Sq c F G):=λw S xs vs r hW hS hx hr=>by
 unfold Sq at hr;cases e:c xs with
 | true=>exact h w S xs vs r hW hS hx (by rw[e] at hr;exact hr)
 | false=>exact g w S xs vs r hW hS hx (by rw[e] at hr;exact hr)
def PX (k:FuncId):List XV->Bool
 | [_,.one (.val (.func (.func j) _ _))]=>k==j
 | _=>false
theorem qK {k:FuncId} {p:Int->Bool} {C:dN Tryz.prog} (hX:∀x:aG (JD k),NL (nc C zD) (nL _ zD) 99 0 0 (tO zD 0) (JD k) NK [] x=YA k p x.1 x.2.2.1) (hF:∀x:aG [(0,sS),(1,.fn k)],SZ (nc C zD) ((nL _ zD).add 0 _ (xz hX)) 99 (bd zD) [(0,sS),(1,.fn k)] x=.nd (FL x.1 0) (.lf (aI (uS p x.1 0)))):za k p:=
 aJ (C:=C) ((nL _ zD).add 0 _ (xz hX)) false 99 [(0,sS),(1,.fn k)] (λ((s:ByteArray),_)=>.nd (FL s 0) (.lf (aI (uS p s 0)))) (λ⟨(s:ByteArray),_⟩ r _ ⟨hs,h⟩=>⟨⟨⟨by omega,by omega,hs⟩,h⟩,.inr (by obtain rfl:=h;rfl)⟩) Tryz.func142 (hB:=hF) (hln:=by show 2<=zD.ntmps;decide)
noncomputable def NG:dN Tryz.prog:=bH Gd [⟨_,_,_,tX⟩,⟨_,_,_,yM⟩,⟨_,_,_,Pu⟩] []
theorem Gr:za 183 mJ:=qK (C:=NG) (by intro x;kernel_rfl) (by intro x;kernel_rfl)
theorem Gt:za 184 kK:=qK (C:=NG) (by intro x;kernel_rfl) (by intro x;kernel_rfl)
theorem Gs:za 143 js:=qK (C:=NG) (by intro x;kernel_rfl) (by intro x;kernel_rfl)
theorem KL:aj Tryz.prog 142 false (Sq (PX 183) (Si 183 mJ) (Sq (PX 184) (Si 184 kK) (Si 143 js))):=
 Gr.or _ (Gt.or _ Gs)
noncomputable def vn (t:TypeId):Option Ty:=List.lookup t [(9,.str),(3,tI),(5,.int .u8)]
noncomputable def Bo:dN Tryz.prog:=bH vn [⟨_,_,_,tT⟩,⟨_,_,_,tX⟩,⟨_,_,_,xO⟩,⟨_,_,_,KL⟩] []
theorem Rt {s:ByteArray} {l:List UInt8} (h:s.data.toList=l):s=⟨l.toArray⟩:=by subst h;rfl
theorem Q6 (s:ByteArray) (k:Nat):s.extract k s.size=⟨(s.data.toList.drop k).toArray⟩:=Rt (by
 rw[ByteArray.data_extract,Array.toList_extract,List.extract_eq_take_drop];exact List.take_of_length_le (by rw[List.length_drop];exact Nat.le_refl _))
theorem xY (c:UInt8):vX c.toNat=fT c:=by unfold vX fT;congr 1<;>simp only[decide_eq_decide]<;>omega
theorem xZ (c:UInt8):kK c.toNat=digitB c:=by unfold kK digitB;congr 1<;>simp only[decide_eq_decide]<;>omega
theorem xX (c:UInt8):z5 c.toNat=eT c:=by unfold z5 eT;congr 1<;>simp only[decide_eq_decide]<;>omega
theorem Oe (c:UInt8) (k:Nat) (hk:k<256):(((c.toNat:Int)==(k:Int)):Bool)=(c==UInt8.ofNat k):=by
 rw[Bool.eq_iff_iff,beq_iff_eq,beq_iff_eq];constructor
 ·intro h;rw[show k=c.toNat by omega];exact(UInt8.ofNat_toNat).symm
 ·rintro rfl;rw[UInt8.toNat_ofNat_of_lt' hk]
theorem xW (c:UInt8):mJ c.toNat=lF c:=by
 unfold mJ lF;rw[xY,xZ,show(((c.toNat:Int)==45):Bool)=(c==45) from Oe c 45 (by decide),Bool.or_assoc]
theorem ofW:uU mJ=lF:=funext xW
theorem ofD:uU kK=digitB:=funext xZ
abbrev at8 (s:ByteArray) (n:Int):Int:=((s.data.toList.getD n.toNat 0).toNat:Int)
def BI (s:ByteArray):T XV:=.br (s.toList==(⟨#[]⟩:ByteArray).toList) (.lf (aI 0)) (.nd ((0:Int)<=0/\(0:Int)<s.size) (.br (!vX (at8 s 0)) (.lf (aI 0)) (.nd (s.size<=9223372036854775807) (.lf (aI (uS mJ s 0))))))
theorem BH:aj Tryz.prog 147 false (az [(0,sS)] λ((s:ByteArray),_)=>.nd (s.size<=9223372036854775807) (.lf (aI (ce s.data.toList)))):=
 aJ (C:=Bo) (nL _ _) false 99 [(0,sS)] (λ((s:ByteArray),_)=>BI s)
  (λ⟨(s:ByteArray),_⟩ r _ ⟨hs,h⟩=>⟨by
   obtain rfl:aI (ce s.data.toList)=r:=h;show(BI s).hit _;unfold BI ce uS at8;rw[dX];cases e:s.data.toList with
   | nil=>exact aK (decide_eq_true (Rt e)) rfl
   | cons c l=>
    have h0:s.size=l.length+1:=by rw[<-dd,e];rfl
    refine aQ (decide_eq_false λq=>by rw[q] at h0;cases h0) ⟨⟨by decide,by omega⟩,?_⟩;show(T.br (!vX (c.toNat:Int)) _ _).hit _;rw[xY];show(T.br (!fT c) _ _).hit (aI ((if fT c=true then(List.takeWhile lF (c::l)).length else 0:Nat):Int));cases hc:fT c with
    | true=>exact aQ rfl ⟨hs,by rw[ofW];simp;rfl⟩
    | false=>exact aK rfl rfl,.inr (by obtain rfl:=h;rfl)⟩) Tryz.func147
def G0 (s:ByteArray) (n:Int):T XV:=.br (decide (n<s.size)) (.nd (0<=n/\n<s.size) (.br (mJ (at8 s n)) (.lf (aI 0)) (.lf (aI n)))) (.lf (aI n))
theorem Db {s:ByteArray} {k:Nat} (hk:k<=s.size):(G0 s k).hit (aI (if(((s.data.toList)[k]?.map lF).getD false=true) then 0 else k)):=by
 unfold G0 at8;by_cases h:k<s.size
 ·have h':k<s.data.toList.length:=h;refine aK (decide_eq_true (by omega)) ⟨⟨by omega,by omega⟩,?_⟩;rw[Int.toNat_natCast,List.getElem?_eq_getElem h',List.getD_eq_getElem?_getD,List.getElem?_eq_getElem h'];show(T.br (mJ _) _ _).hit _;rw[Option.getD_some,xW,Option.map_some,Option.getD_some];cases lF s.data.toList[k] with
  | true=>exact aK rfl rfl
  | false=>exact aQ rfl rfl
 ·rw[List.getElem?_eq_none (by rw[dd];omega)];exact aQ (decide_eq_false (by omega)) rfl
theorem tG:aj Tryz.prog 148 false (az [(0,sS)] λ((s:ByteArray),_)=>.nd (s.size<=9223372036854775807) (.lf (aI (bK s.data.toList)))):=
 aJ (C:=Bo) (nL _ _) false 99 [(0,sS)] (λ((s:ByteArray),_)=>.nd (s.size<=9223372036854775807) (.br (uS kK s 0==0) (.lf (aI 0)) (.br (decide (uS kK s 0>6)) (.lf (aI 0)) (.nd ((0:Int)<=0/\(0:Int)<s.size) (.br (at8 s 0==48) (.br (decide (uS kK s 0>1)) (.lf (aI 0)) (G0 s (uS kK s 0))) (G0 s (uS kK s 0)))))))
  (λ⟨(s:ByteArray),_⟩ r _ ⟨hs,h⟩=>⟨by
   obtain rfl:aI (bK s.data.toList)=r:=h;refine⟨hs,?_⟩;have hn:uS kK s 0=((s.data.toList.takeWhile digitB).length:Nat):=by unfold uS;rw[ofD];simp
   have hl:(s.data.toList.takeWhile digitB).length<=s.size:=(List.takeWhile_sublist _).length_le;rw[hn];obtain⟨k,hk⟩:∃k,(s.data.toList.takeWhile digitB).length=k:=⟨_,rfl⟩;unfold bK;rw[hk] at hl ⊢;by_cases h0:k=0
   ·rw[if_pos (.inl h0)];exact aK (by rw[h0];rfl) rfl
   refine aQ (beq_eq_false_iff_ne.2 (by omega)) ?_;by_cases h6:6<k
   ·rw[if_pos (.inr (.inl h6))];exact aK (decide_eq_true (by omega)) rfl
   refine aQ (decide_eq_false (by omega)) ⟨⟨by decide,by omega⟩,?_⟩;have hh:(at8 s 0==48)=decide (s.data.toList.head?=some 48):=by
    show(((s.data.toList.getD 0 0).toNat:Int)==(48:Nat))=_;rw[Oe _ 48 (by decide)];cases e:s.data.toList with
    | nil=>
     have:s.size=0:=by rw[<-dd,e];rfl
     omega
    | cons c l=>rw[Bool.eq_iff_iff];simp
   have hE:=Db hl;refine⟨λe=>?_,λe=>?_⟩
   ·rw[hh,decide_eq_true_eq] at e;by_cases h1:1<k
    ·rw[if_pos (.inr (.inr (.inl ⟨e,h1⟩)))];exact aK (decide_eq_true (by omega)) rfl
    ·refine aQ (decide_eq_false (by omega)) ?_;simp only[h0,h6,h1,and_false,false_or];split at hE<;>rename_i q<;>simp only[q]<;>exact hE
   ·rw[hh,decide_eq_false_iff_not] at e;simp only[h0,h6,e,false_and,false_or];split at hE<;>rename_i q<;>simp only[q]<;>exact hE,.inr (by obtain rfl:=h;rfl)⟩) Tryz.func148
def av:Bool->List UInt8->Nat
 | _,[]=>0
 | false,c::l=>if c=32\/c=9\/c=10\/c=13 then av false l+1 else if c=35 then av true l+1 else 0
 | true,c::l=>if c=10 then av false l+1 else av true l+1
theorem fx:∀(b:Bool) (l:List UInt8),av b l<=l.length
 | b,[]=>by cases b<;>exact Nat.le_refl _
 | false,c::l=>by
  have:=fx false l;have:=fx true l;unfold av;rw[List.length_cons];split
  ·omega
  ·split<;>omega
 | true,c::l=>by
  have:=fx false l;have:=fx true l;unfold av;rw[List.length_cons];split<;>omega
theorem YN (c:UInt8):uU js c=!(c==10):=by unfold uU js;rw[show(((c.toNat:Int)==10):Bool)=(c==10) from Oe c 10 (by decide)]
theorem o8:∀(l:List UInt8),av true l=(l.takeWhile (uU js)).length+av false (l.drop (l.takeWhile (uU js)).length)
 | []=>rfl
 | c::l=>by
  rw[List.takeWhile_cons,YN];by_cases h:c=10
  ·subst h;simp[av]
  ·have hb:(c==10)=false:=beq_eq_false_iff_ne.2 h;rw[hb];show av true (c::l)=_;rw[av,if_neg h,o8 l];simp only[Bool.not_false,if_true,List.length_cons,List.drop_succ_cons];omega
abbrev Sj:List (Nat×SS):=[(0,sS),(3,sI)]
abbrev TN:List (Nat×SS):=[(3,sI)]
abbrev KS:=LE Sj TN []
noncomputable abbrev skF:=Tryz.f99
def zJ (s:ByteArray) (n:Int):T KS:=.nd (dD n) (.lf (.back (s,n,())))
def TP (s:ByteArray) (n:Int):T KS:=.br (decide (n<s.size)) (.nd (0<=n/\n<s.size) (.br (at8 s n==32) (zJ s (n+1)) (.br (at8 s n==9) (zJ s (n+1)) (.br (at8 s n==10) (zJ s (n+1)) (.br (at8 s n==13) (zJ s (n+1))
 (.br (at8 s n==35) (.nd (0<=n/\n<=s.size/\(s.size:Int)<=s.size) (.nd ((s.extract n.toNat (s.size:Int).toNat).size<=9223372036854775807) (zJ s (n+uS js (s.extract n.toNat (s.size:Int).toNat) 0)))) (.lf (.ret (aI n) ())))))))) (.lf (.out (n,())))
def YE (s:ByteArray) (n:Int):T KS:=.nd (FL s n) (.br (n+av false (s.data.toList.drop n.toNat)==s.size) (.lf (.out ((s.size:Int),()))) (.lf (.ret (aI (n+av false (s.data.toList.drop n.toNat))) ())))
def YD (x:aG Sj):Nat:=ByteArray.size x.1-Int.toNat x.2.1
theorem Gx:dS (nc Bo skF) 0 0 Sj TN [] λx=>YE x.1 x.2.1:=by
 refine jF _ (nL _ _) 99 0 0 Sj TN [] (λx=>TP x.1 x.2.1) YD ?_;rintro⟨(s:ByteArray),(n:Int),_⟩ r _ ⟨h,hr⟩;obtain⟨h0,h1,h2⟩:FL s n:=h;obtain⟨k,rfl⟩:∃k:Nat,n=k:=⟨n.toNat,by omega⟩;have hr:(T.br ((k:Int)+((av false (s.data.toList.drop (k:Int).toNat):Nat):Int)==s.size) (.lf (.out ((s.size:Int),()))) (.lf (.ret (aI ((k:Int)+((av false (s.data.toList.drop (k:Int).toNat):Nat):Int))) ())):T KS).hit r:=hr;show∃q,(TP s k).hit q/\_;unfold TP at8;rw[Int.toNat_natCast] at hr ⊢;by_cases hk:k<s.size
 ·have rW:k<s.data.toList.length:=hk;obtain⟨c,l,e⟩:∃c l,s.data.toList.drop k=c::l:=⟨_,_,List.drop_eq_getElem_cons rW⟩;have hc:s.data.toList.getD k 0=c:=by rw[List.getD_eq_getElem?_getD,<-List.head?_drop,e];rfl
  have hl:l.length+k+1=s.size:=by have:=congrArg List.length e;rw[List.length_drop,List.length_cons,dd] at this;omega
  have hd:s.data.toList.drop (k+1)=l:=by rw[<-List.drop_drop,e];rfl
  rw[e] at hr;have q:∀m:Nat,m<256->(((c.toNat:Int)==(m:Int)):Bool)=(c==UInt8.ofNat m):=λm hm=>Oe c m hm;have sl:=fx false l;have bk:∀j:Nat,0<j->k+j<=s.size->av false (c::l)=j+av false (s.data.toList.drop (k+j))->∃q,(zJ s ((k:Int)+((j:Nat):Int))).hit q/\q.nx YD (λx=>YE x.1 x.2.1) (s.size-(k:Int).toNat) r:=λj hj nK hj3=>by
   refine⟨.back (s,(k:Int)+((j:Nat):Int),()),⟨⟨by omega,by omega⟩,rfl⟩,by show s.size-((k:Int)+((j:Nat):Int)).toNat<s.size-(k:Int).toNat;omega,(⟨by omega,by omega,h2⟩:FL s ((k:Int)+((j:Nat):Int))),?_⟩;show(T.br ((k:Int)+((j:Nat):Int)+((av false (s.data.toList.drop ((k:Int)+((j:Nat):Int)).toNat):Nat):Int)==s.size) (.lf (.out ((s.size:Int),()))) (.lf (.ret (aI ((k:Int)+((j:Nat):Int)+((av false (s.data.toList.drop ((k:Int)+((j:Nat):Int)).toNat):Nat):Int))) ())):T KS).hit r;rw[show((k:Int)+((j:Nat):Int)).toNat=k+j by omega,show(k:Int)+((j:Nat):Int)+((av false (s.data.toList.drop (k+j)):Nat):Int)=k+((av false (c::l):Nat):Int) by rw[hj3];omega];exact hr
  have go:∀{q:KS} {y:T KS},y.hit q->(T.br (decide ((k:Int)<s.size)) (.nd (0<=(k:Int)/\(k:Int)<s.size) y) (.lf (.out ((k:Int),())))).hit q:=λh=>aK (decide_eq_true (by omega)) ⟨⟨by omega,by omega⟩,h⟩;rw[hc];have b1:(c=32\/c=9\/c=10\/c=13)->av false (c::l)=1+av false (s.data.toList.drop (k+1)):=λh=>by rw[av,if_pos h,hd];omega
  by_cases c1:c=32
  ·obtain⟨q1,g1,g2⟩:=bk 1 (by omega) (by omega) (b1 (.inl c1));exact⟨q1,go (aK (by rw[c1];rfl) g1),g2⟩
  have n1:(((c.toNat:Int)==32):Bool)=false:=(q 32 (by decide)).trans (beq_eq_false_iff_ne.2 c1);by_cases c2:c=9
  ·obtain⟨q1,g1,g2⟩:=bk 1 (by omega) (by omega) (b1 (.inr (.inl c2)));exact⟨q1,go (aQ n1 (aK (by rw[c2];rfl) g1)),g2⟩
  have n2:(((c.toNat:Int)==9):Bool)=false:=(q 9 (by decide)).trans (beq_eq_false_iff_ne.2 c2);by_cases c3:c=10
  ·obtain⟨q1,g1,g2⟩:=bk 1 (by omega) (by omega) (b1 (.inr (.inr (.inl c3))));exact⟨q1,go (aQ n1 (aQ n2 (aK (by rw[c3];rfl) g1))),g2⟩
  have n3:(((c.toNat:Int)==10):Bool)=false:=(q 10 (by decide)).trans (beq_eq_false_iff_ne.2 c3);by_cases c4:c=13
  ·obtain⟨q1,g1,g2⟩:=bk 1 (by omega) (by omega) (b1 (.inr (.inr (.inr c4))));exact⟨q1,go (aQ n1 (aQ n2 (aQ n3 (aK (by rw[c4];rfl) g1)))),g2⟩
  have n4:(((c.toNat:Int)==13):Bool)=false:=(q 13 (by decide)).trans (beq_eq_false_iff_ne.2 c4);have hn:¬(c=32\/c=9\/c=10\/c=13):=by simp[c1,c2,c3,c4]
  by_cases c5:c=35
  ·have hx:s.extract k (s.size:Int).toNat=⟨(s.data.toList.drop k).toArray⟩:=by rw[Int.toNat_natCast];exact Q6 s k
   have hsp:uS js (s.extract k (s.size:Int).toNat) 0=((l.takeWhile (uU js)).length+1:Nat):=by
    rw[hx];unfold uS;show(0:Int)+((((s.data.toList.drop k)).drop 0).takeWhile (uU js)).length=_;rw[List.drop_zero,e,c5,List.takeWhile_cons,if_pos (by rw[YN];rfl),List.length_cons];omega
   have hw:(l.takeWhile (uU js)).length<=l.length:=(List.takeWhile_sublist _).length_le;obtain⟨q1,g1,g2⟩:=bk ((l.takeWhile (uU js)).length+1) (by omega) (by omega) (by
    rw[av,if_neg hn,if_pos c5,o8,show k+((l.takeWhile (uU js)).length+1)=k+1+(l.takeWhile (uU js)).length by omega,<-List.drop_drop,hd];omega)
   refine⟨q1,go (aQ n1 (aQ n2 (aQ n3 (aQ n4 (aK (by rw[c5];rfl) ⟨⟨by omega,by omega,Int.le_refl _⟩,?_,by rw[hsp];exact g1⟩))))),g2⟩;rw[hx];show(s.data.toList.drop k).toArray.size<=_;rw[List.size_toArray,List.length_drop,dd];omega
  ·have n5:(((c.toNat:Int)==35):Bool)=false:=(q 35 (by decide)).trans (beq_eq_false_iff_ne.2 c5);rw[av,if_neg hn,if_neg c5] at hr;have hr:=hr.2 (beq_eq_false_iff_ne.2 (by omega));exact⟨.ret (aI k) (),go (aQ n1 (aQ n2 (aQ n3 (aQ n4 (aQ n5 rfl))))),by rw[show(k:Int)+((0:Nat):Int)=k by omega] at hr;exact hr⟩
 ·have fb:k=s.size:=by omega
  rw[List.drop_eq_nil_of_le (by rw[dd];omega)] at hr;have hr:=hr.1 (beq_iff_eq.2 (by show(k:Int)+((0:Nat):Int)=_;omega));exact⟨.out ((k:Int),()),aQ (decide_eq_false (by omega)) rfl,by rw[fb];exact hr⟩
theorem CC:aj Tryz.prog 99 false (az [(0,sS)] λ((s:ByteArray),_)=>.nd (s.size<=9223372036854775807) (.lf (aI (av false s.data.toList)))):=
 aJ (C:=Bo) ((nL _ _).add 0 _ Gx) false 99 [(0,sS)] (λ((s:ByteArray),_)=>.nd (FL s 0) (.br ((0:Int)+((av false (s.data.toList.drop (Int.toNat 0)):Nat):Int)==s.size) (.lf (aI s.size)) (.lf (aI ((0:Int)+((av false (s.data.toList.drop (Int.toNat 0)):Nat):Int)))))) (λ⟨(s:ByteArray),_⟩ r _ ⟨hs,h⟩=>by
  obtain rfl:aI (av false s.data.toList)=r:=h;have e:(0:Int)+((av false (s.data.toList.drop (Int.toNat 0)):Nat):Int)=(av false s.data.toList:Nat):=by rw[show Int.toNat 0=0 from rfl,List.drop_zero];omega
  refine⟨⟨⟨by omega,by omega,hs⟩,?_⟩,.inr rfl⟩;rw[e];exact⟨λh=>by rw[beq_iff_eq.1 h];rfl,λ_=>rfl⟩) Tryz.func99
def quo:List UInt8->Option (Option (Nat×List UInt8))
 | []=>none
 | c::l=>if c=34 then some (some (1,[])) else if c=92 then(match l with | []=>some none | d::l'=>if d=34\/d=92 then(quo l').map (Option.map λp=>(p.1+2,d::p.2)) else some none)
  else if eT c then(quo l).map (Option.map λp=>(p.1+1,c::p.2)) else some none
def GN:Option (Option (Nat×List UInt8))->Bool
 | some (some _)=>true
 | _=>false
def tB:Option (Option (Nat×List UInt8))->Nat×List UInt8
 | some (some p)=>p
 | _=>(0,[])
abbrev qL:List (Nat×SS):=[(0,sS),(4,.c (.own (.int .u8) 5)),(5,sI)]
abbrev qE:=LE qL [] []
noncomputable abbrev qF:=Tryz.f149
def GQ (n:Int) (x:List UInt8):qE:=.ret (.tup [(false,[.sym (.int .i64 n)]),(false,[.sym (.string ⟨x.toArray⟩)])]) ()
def lI:qE:=.ret (.tup [(false,[.val (.int .i64 0)]),(false,[.val (.string ⟨#[]⟩)])]) ()
def Uc (s:ByteArray) (l:List Int) (c n:Int):T qE:=.nd ((l.length+1)*2<=140737488355328) (.nd (dD n) (.lf (.back (s,c::l,n,()))))
def Ub (s:ByteArray) (l:List Int) (n:Int):T qE:=.nd (0<=n/\n<s.size) (Uc s l (at8 s n) (n+1))
def qB (s:ByteArray) (l:List Int) (n:Int):T qE:=.br (decide (n<s.size)) (.nd (0<=n/\n<s.size) (.br (at8 s n==34) (.nd (dD (n+1)) (.nd (∀v:Int,v∈l.reverse->0<=v/\v<=255) (.lf (GQ (n+1) (u8s l.reverse)))))
 (.br (at8 s n==92) (.nd (dD (n+1)) (.br (n+1==s.size) (.lf lI) (.nd (0<=n+1/\n+1<s.size) (.br (!(at8 s (n+1)==34)) (.nd (0<=n+1/\n+1<s.size) (.br (!(at8 s (n+1)==92)) (.lf lI) (Ub s l (n+1)))) (Ub s l (n+1)))))) (.br (!z5 (at8 s n)) (.lf lI) (Uc s l (at8 s n) (n+1)))))) (.lf (.out ()))
def qT (l:List Int) (n:Int) (q:Option (Option (Nat×List UInt8))):T qE:=.br q.isNone (.lf (.out ())) (.br (GN q) (.lf (GQ (n+(tB q).1) (u8s l.reverse++(tB q).2))) (.lf lI))
def qN (s:ByteArray) (l:List Int) (n:Int):Prop:=FL s n/\s.size<=20000/\(l.length:Int)<=n/\∀v∈l,0<=v/\v<=255
def qG (s:ByteArray) (l:List Int) (n:Int):T qE:=.nd (qN s l n) (qT l n (quo (s.data.toList.drop n.toNat)))
def qM (x:aG qL):Nat:=ByteArray.size x.1-Int.toNat x.2.2.1
theorem Cb (l:List Int) (b:UInt8):u8s ((b.toNat:Int)::l).reverse=u8s l.reverse++[b]:=by unfold u8s;simp
theorem GP {l:List Int} {k j:Nat} {b:UInt8} {r:qE}:∀{q},(qT l k (q.map (Option.map λp=>(p.1+j,b::p.2)))).hit r->(qT ((b.toNat:Int)::l) ((k:Int)+(j:Nat)) q).hit r
 | none,h=>⟨λ_=>h.1 rfl,λe=>by cases e⟩
 | some none,h=>⟨(λe=>by cases e),λ_=>⟨(λe=>by cases e),λ_=>(h.2 rfl).2 rfl⟩⟩
 | some (some p),h=>by
  have h:=(h.2 rfl).1 rfl;refine⟨(λe=>by cases e),λ_=>⟨λ_=>?_,λe=>by cases e⟩⟩;rw[Cb,List.append_assoc];show(T.lf (GQ ((k:Int)+(j:Nat)+(p.1:Nat)) (u8s l.reverse++(b::p.2)))).hit r;rw[show(k:Int)+(j:Nat)+(p.1:Nat)=k+((p.1+j:Nat):Int) by omega];exact h
theorem yJ {s:ByteArray} {k:Nat} (hk:k<s.size):∃c l,s.data.toList.drop k=c::l/\at8 s k=(c.toNat:Int)/\s.data.toList.drop (k+1)=l/\l.length+k+1=s.size:=by
 have rW:k<s.data.toList.length:=hk;have e:=List.drop_eq_getElem_cons rW;refine⟨_,_,e,?_,rfl,?_⟩
 ·unfold at8;rw[Int.toNat_natCast,List.getD_eq_getElem?_getD,List.getElem?_eq_getElem rW];rfl
 ·rw[List.length_drop,dd];omega
theorem Od {c:UInt8} (k:Nat) (hk:k<256) (h:c=UInt8.ofNat k):(((c.toNat:Int)==(k:Int)):Bool)=true:=by rw[Oe c k hk];exact beq_iff_eq.2 h
theorem Kl {c:UInt8} (k:Nat) (hk:k<256) (h:¬c=UInt8.ofNat k):(((c.toNat:Int)==(k:Int)):Bool)=false:=by rw[Oe c k hk];exact beq_eq_false_iff_ne.2 h
theorem nT {c:UInt8} (k:Nat) (hk:k<256) (h:c=UInt8.ofNat k):(!((c.toNat:Int)==(k:Int)))=false:=by rw[Od k hk h];rfl
theorem nF {c:UInt8} (k:Nat) (hk:k<256) (h:¬c=UInt8.ofNat k):(!((c.toNat:Int)==(k:Int)))=true:=by rw[Kl k hk h];rfl
theorem eO (c:UInt8) (l:List UInt8):quo (c::l)=if c=34 then some (some (1,[])) else if c=92 then(match l with | []=>some none | d::l'=>if d=34\/d=92 then(quo l').map (Option.map λp=>(p.1+2,d::p.2)) else some none) else if eT c then(quo l).map (Option.map λp=>(p.1+1,c::p.2)) else some none:=by cases l<;>rfl
theorem zW:dS (nc Bo qF) 0 0 qL [] [] λx=>qG x.1 x.2.1 x.2.2.1:=by
 refine jF _ (nL _ _) 99 0 0 qL [] [] (λx=>qB x.1 x.2.1 x.2.2.1) qM ?_;rintro⟨(s:ByteArray),(a:List Int),(n:Int),_⟩ r _ ⟨h,hr⟩;obtain⟨⟨h0,h1,h2⟩,h3,h4,h5⟩:qN s a n:=h;obtain⟨k,rfl⟩:∃k:Nat,n=k:=⟨n.toNat,by omega⟩;have hr:(qT a k (quo (s.data.toList.drop k))).hit r:=hr;show∃q,(qB s a k).hit q/\q.nx qM (λx=>qG x.1 x.2.1 x.2.2.1) (s.size-k) r;unfold qB;by_cases hk:k<s.size
 ·obtain⟨c,l,e,ec,ed,el⟩:=yJ hk;rw[e] at hr;have bk:∀(j:Nat) (b:UInt8),0<j->k+j<=s.size->quo (c::l)=(quo (s.data.toList.drop (k+j))).map (Option.map λp=>(p.1+j,b::p.2))->∃q,(Uc s a b.toNat ((k:Int)+((j:Nat):Int))).hit q/\q.nx qM (λx=>qG x.1 x.2.1 x.2.2.1) (s.size-k) r:=λj b hj nK hq=>by
   rw[hq] at hr;refine⟨.back (s,(b.toNat:Int)::a,(k:Int)+((j:Nat):Int),()),⟨by omega,⟨by omega,by omega⟩,rfl⟩,by show s.size-((k:Int)+((j:Nat):Int)).toNat<_;omega,⟨⟨?_,?_,h2⟩,h3,?_,?_⟩,?_⟩
   ·show(0:Int)<=(k:Int)+((j:Nat):Int);omega
   ·show(k:Int)+((j:Nat):Int)<=s.size;omega
   ·show((a.length+1:Nat):Int)<=(k:Int)+((j:Nat):Int);omega
   ·intro v hv;rcases List.mem_cons.1 hv with rfl|hv
    ·have:=b.toNat_lt;exact⟨by omega,by omega⟩
    ·exact h5 v hv
   ·have:=GP hr;show(qT _ ((k:Int)+((j:Nat):Int)) (quo (s.data.toList.drop ((k:Int)+((j:Nat):Int)).toNat))).hit r;rw[show((k:Int)+((j:Nat):Int)).toNat=k+j by omega];exact this
  have bad:quo (c::l)=some none->lI=r:=λq=>by rw[q] at hr;exact(hr.2 rfl).2 rfl
  suffices hs:∃q:qE,(T.br (at8 s k==34) _ _).hit q/\q.nx qM (λx=>qG x.1 x.2.1 x.2.2.1) (s.size-k) r by
   obtain⟨q,g1,g2⟩:=hs;exact⟨q,aK (decide_eq_true (by omega)) ⟨⟨by omega,by omega⟩,g1⟩,g2⟩
  rw[ec];by_cases c1:c=34
  ·rw[show quo (c::l)=some (some (1,[])) by rw[eO,if_pos c1]] at hr;refine⟨_,aK (Od 34 (by decide) c1) ⟨⟨by omega,by omega⟩,λv hv=>h5 v (by simpa using hv),rfl⟩,?_⟩;have e9:GQ ((k:Int)+1) (u8s a.reverse++[])=r:=(hr.2 rfl).1 rfl;rw[List.append_nil] at e9;exact e9
  by_cases c2:c=92
  ·suffices hs:∃q:qE,(T.nd (dD ((k:Int)+1)) (.br ((k:Int)+1==s.size) _ _)).hit q/\q.nx qM (λx=>qG x.1 x.2.1 x.2.2.1) (s.size-k) r by
    obtain⟨q,g1,g2⟩:=hs;exact⟨q,aQ (Kl 34 (by decide) c1) (aK (Od 92 (by decide) c2) g1),g2⟩
   by_cases hl:k+1<s.size
   ·obtain⟨d,m,e',S5,ed',el'⟩:=yJ hl;rw[ed] at e';have S5:at8 s ((k:Int)+1)=(d.toNat:Int):=S5;suffices hs:∃q:qE,(T.br (!(at8 s ((k:Int)+1)==34)) _ _).hit q/\q.nx qM (λx=>qG x.1 x.2.1 x.2.2.1) (s.size-k) r by
     obtain⟨q,g1,g2⟩:=hs;exact⟨q,⟨⟨by omega,by omega⟩,aQ (beq_eq_false_iff_ne.2 (by omega)) ⟨⟨by omega,by omega⟩,g1⟩⟩,g2⟩
    have es:d=34\/d=92->∃q,(Ub s a ((k:Int)+1)).hit q/\q.nx qM (λx=>qG x.1 x.2.1 x.2.2.1) (s.size-k) r:=λq=>by
     obtain⟨q,g1,g2⟩:=bk 2 d (by omega) (by omega) (by rw[eO,if_neg c1,if_pos c2,e'];show(if _ then _ else _)=_;rw[if_pos q,show k+2=k+1+1 from rfl,ed']);exact⟨q,⟨⟨by omega,by omega⟩,by rw[S5,show(k:Int)+1+1=(k:Int)+(2:Nat) by omega];exact g1⟩,g2⟩
    rw[S5];by_cases d1:d=34
    ·obtain⟨q,g1,g2⟩:=es (.inl d1);exact⟨q,aQ (nT 34 (by decide) d1) g1,g2⟩
    refine(λ⟨q,g1,g2⟩=>⟨q,aK (nF 34 (by decide) d1) ⟨⟨by omega,by omega⟩,g1⟩,g2⟩:(∃q:qE,(T.br (!((d.toNat:Int)==92)) _ _).hit q/\_)->_) ?_;by_cases d2:d=92
    ·obtain⟨q,g1,g2⟩:=es (.inr d2);exact⟨q,aQ (nT 92 (by decide) d2) g1,g2⟩
    ·exact⟨lI,aK (nF 92 (by decide) d2) rfl,bad (by rw[eO,if_neg c1,if_pos c2,e'];show(if _ then _ else _)=_;rw[if_neg (by simp[d1,d2])])⟩
   ·have:l=[]:=List.eq_nil_of_length_eq_zero (by omega);exact⟨lI,⟨⟨by omega,by omega⟩,aK (beq_iff_eq.2 (by omega)) rfl⟩,bad (by rw[eO,if_neg c1,if_pos c2,this])⟩
  refine(λ⟨q,g1,g2⟩=>⟨q,aQ (Kl 34 (by decide) c1) (aQ (Kl 92 (by decide) c2) g1),g2⟩:(∃q:qE,(T.br (!z5 (c.toNat:Int)) _ _).hit q/\_)->_) ?_;rw[xX];cases hp:eT c with
  | false=>exact⟨lI,aK rfl rfl,bad (by rw[eO,if_neg c1,if_neg c2,if_neg (by rw[hp];simp)])⟩
  | true=>
   obtain⟨q,g1,g2⟩:=bk 1 c (by omega) (by omega) (by rw[eO,if_neg c1,if_neg c2,if_pos hp,ed]);exact⟨q,aQ rfl g1,g2⟩
 ·rw[List.drop_eq_nil_of_le (by rw[dd];omega)] at hr;exact⟨.out (),aQ (decide_eq_false (by omega)) rfl,hr.1 rfl⟩
def Pg (q:Option (Option (Nat×List UInt8))):T XV:=.br q.isNone (.lf (aT [.int .i64 0,.string ⟨#[]⟩])) (.br (GN q) (.lf (aT [.int .i64 (1+(tB q).1),.string ⟨(u8s ([]:List Int).reverse++(tB q).2).toArray⟩])) (.lf (aT [.int .i64 0,.string ⟨#[]⟩])))
def ma (l:List UInt8):Nat×List UInt8:=bif GN (quo (l.drop 1)) then((tB (quo (l.drop 1))).1+1,(tB (quo (l.drop 1))).2) else(0,[])
theorem LS:aj Tryz.prog 150 false (az [(0,sS),(1,sC)] λ((s:ByteArray),(c:Int),_)=>.lf (aI (Lib.indexByte s.data.toList c.toNat.toUInt8))):=
 lC (λ((s:ByteArray),(c:Int),_)=>[.string s,.int .u8 c]) λw S ⟨(s:ByteArray),(c:Int),_⟩ r _ hr=>by
  obtain rfl:aI (Lib.indexByte s.data.toList c.toNat.toUInt8)=r:=hr;exact Calls.mono (Tryz.strings_IndexByte s c w) λ_ _ h=>uH rfl ⟨h.1,h.2▸Below.refl _ _⟩
theorem yP:aj Tryz.prog 100 false (az [(0,sS),(1,sS)] λ((s:ByteArray),(t:ByteArray),_)=>.nd (t=⟨#[10]⟩) (.lf (aI (Lib.countByte s.data.toList 10)))):=
 lC (λ((s:ByteArray),(t:ByteArray),_)=>[.string s,.string t]) λw S ⟨(s:ByteArray),(t:ByteArray),_⟩ r _ ⟨ht,hr⟩=>by
  obtain rfl:aI (Lib.countByte s.data.toList 10)=r:=hr;subst ht;exact Calls.mono (Tryz.strings_Count_one s 10 w) λ_ _ h=>uH rfl ⟨h.1,h.2▸Below.refl _ _⟩
theorem C3:∀(o:Option (Option (Nat×List UInt8))) (x:Nat×List UInt8),(bif GN o then((tB o).1+1,(tB o).2) else(0,[]))=x->(Pg o).hit (aT [.int .i64 x.1,.string ⟨x.2.toArray⟩])
 | none,_,h=>by subst h;exact aK rfl rfl
 | some none,_,h=>by subst h;exact aQ rfl (aQ rfl rfl)
 | some (some p),_,h=>by
  subst h;refine aQ rfl (aK rfl ?_);show aT [.int .i64 (1+(p.1:Int)),.string ⟨([]++p.2).toArray⟩]=aT [.int .i64 ((p.1+1:Nat):Int),.string ⟨p.2.toArray⟩];rw[show((p.1+1:Nat):Int)=1+(p.1:Int) by omega];rfl
theorem C1:aj Tryz.prog 149 false (az [(0,sS)] λ((s:ByteArray),_)=>.nd (s.size<=20000/\1<=s.size) (.lf (aT [.int .i64 (ma s.data.toList).1,.string ⟨(ma s.data.toList).2.toArray⟩]))):=
 aJ (C:=Bo) ((nL _ _).add 0 _ zW) false 99 [(0,sS)] (λ((s:ByteArray),_)=>.nd (qN s [] 1) (Pg (quo (s.data.toList.drop 1)))) (λ⟨(s:ByteArray),_⟩ r _ ⟨⟨h1,h2⟩,h⟩=>by
  obtain rfl:aT [.int .i64 (ma s.data.toList).1,.string ⟨(ma s.data.toList).2.toArray⟩]=r:=h;exact⟨⟨⟨⟨by decide,by omega,by omega⟩,h1,by decide,λv hv=>by cases hv⟩,C3 _ _ rfl⟩,.inr rfl⟩) Tryz.func149
noncomputable def Ye:dN Tryz.prog:=bH vn [⟨_,_,_,BH⟩,⟨_,_,_,tG⟩,⟨_,_,_,C1⟩,⟨_,_,_,LS⟩,⟨_,_,_,CC⟩,⟨_,_,_,yP⟩] []
abbrev vk (k:Int) (x:ByteArray) (n:Int):XV:=aT [.int .i64 k,.string x,.int .i64 n]
def Dr (c:UInt8):Bool:=decide (Lib.indexByte [123,125,59,44,47] c>=0)
def aW (l:List UInt8):Int×List UInt8×Nat:=
 if 0<ce l then(1,l.take (ce l),ce l)
 else if 0<bK l then(2,l.take (bK l),bK l)
 else if l.headD 0=34 then(3,(ma l).2,(ma l).1)
 else if Dr (l.headD 0) then(4,l.take 1,1) else(0,[],0)
theorem Ob (s:ByteArray) (k:Nat):s.extract 0 k=⟨(s.data.toList.take k).toArray⟩:=Rt (by rw[ByteArray.data_extract,Array.toList_extract,List.extract_eq_take_drop];rfl)
def Lq (s:ByteArray):T XV:=.nd (s.size<=9223372036854775807) (.br (decide ((ce s.data.toList:Int)>0)) (.nd ((0:Int)<=0/\(0:Int)<=ce s.data.toList/\(ce s.data.toList:Int)<=s.size) (.lf (vk 1 (s.extract 0 (ce s.data.toList)) (ce s.data.toList))))
 (.nd (s.size<=9223372036854775807) (.br (decide ((bK s.data.toList:Int)>0)) (.nd ((0:Int)<=0/\(0:Int)<=bK s.data.toList/\(bK s.data.toList:Int)<=s.size) (.lf (vk 2 (s.extract 0 (bK s.data.toList)) (bK s.data.toList))))
 (.nd ((0:Int)<=0/\(0:Int)<s.size) (.br (at8 s 0==34) (.nd (s.size<=20000/\1<=s.size) (.lf (vk 3 ⟨(ma s.data.toList).2.toArray⟩ (ma s.data.toList).1))) (.nd ((0:Int)<=0/\(0:Int)<s.size) (.br (decide (Lib.indexByte (⟨#[123,125,59,44,47]⟩:ByteArray).data.toList (at8 s 0).toNat.toUInt8>=0)) (.nd ((0:Int)<=0/\(0:Int)<=1/\(1:Int)<=s.size) (.lf (vk 4 (s.extract 0 1) 1))) (.lf (vk 0 ⟨#[]⟩ 0)))))))))
theorem mL (l:List UInt8):ce l<=l.length:=by
 unfold ce;cases l with
 | nil=>exact Nat.le_refl _
 | cons c l=>show(if _ then _ else _)<=_;split;exact(List.takeWhile_sublist _).length_le;exact Nat.zero_le _
theorem po (l:List UInt8):bK l<=l.length:=by
 unfold bK;split;exact Nat.zero_le _;exact(List.takeWhile_sublist _).length_le
theorem Lp:aj Tryz.prog 101 false (az [(0,sS)] λ((s:ByteArray),_)=>.nd (s.size<=20000/\1<=s.size) (.lf (vk (aW s.data.toList).1 ⟨(aW s.data.toList).2.1.toArray⟩ (aW s.data.toList).2.2))):=
 aJ (C:=Ye) (nL _ _) false 99 [(0,sS)] (λ((s:ByteArray),_)=>Lq s) (λ⟨(s:ByteArray),_⟩ r _ ⟨⟨h1,h2⟩,h⟩=>by
  obtain rfl:vk (aW s.data.toList).1 ⟨(aW s.data.toList).2.1.toArray⟩ (aW s.data.toList).2.2=r:=h;refine⟨?_,.inr rfl⟩;have hw:=mL s.data.toList;have hn:=po s.data.toList;rw[dd] at hw hn;obtain⟨c,l,e,ec,_⟩:=yJ (s:=s) (k:=0) (by omega);rw[List.drop_zero] at e;have ec:at8 s 0=(c.toNat:Int):=ec;show(Lq s).hit _;unfold Lq aW;refine⟨by omega,?_⟩;by_cases q1:0<ce s.data.toList
  ·rw[if_pos q1];exact aK (decide_eq_true (by omega)) ⟨⟨by omega,by omega,by omega⟩,by rw[Ob];rfl⟩
  rw[if_neg q1];refine aQ (decide_eq_false (by omega)) ⟨by omega,?_⟩;by_cases q2:0<bK s.data.toList
  ·rw[if_pos q2];exact aK (decide_eq_true (by omega)) ⟨⟨by omega,by omega,by omega⟩,by rw[Ob];rfl⟩
  rw[if_neg q2];refine aQ (decide_eq_false (by omega)) ⟨⟨by omega,by omega⟩,?_⟩;rw[ec,show((c.toNat:Int).toNat.toUInt8)=c by rw[Int.toNat_natCast];exact UInt8.ofNat_toNat];have hm:s.data.toList.headD 0=c:=by rw[e];rfl
  rw[hm];by_cases q3:c=34
  ·rw[if_pos q3];exact aK (Od 34 (by decide) q3) ⟨⟨h1,h2⟩,rfl⟩
  rw[if_neg q3];refine aQ (Kl 34 (by decide) q3) ⟨⟨by omega,by omega⟩,?_⟩;by_cases q4:Dr c=true
  ·rw[if_pos q4];exact aK q4 ⟨⟨by omega,by omega,by omega⟩,by rw[Ob];rfl⟩
  ·rw[if_neg q4];exact aQ (Bool.eq_false_iff.2 q4:Dr c=false) rfl) Tryz.func101
noncomputable def TH (t:TypeId):Option Ty:=List.lookup t [(9,.str),(3,tI),(100,.st 17),(54,tI)]
noncomputable def R9:dN Tryz.prog:=bH TH [⟨_,_,_,CC⟩,⟨_,_,_,yP⟩,⟨_,_,_,Lp⟩] []
end Go.Proofs.YtichkplomldgiaaGreatDoor
