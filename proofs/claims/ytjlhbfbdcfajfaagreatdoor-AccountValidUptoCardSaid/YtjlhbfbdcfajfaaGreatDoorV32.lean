/- MRun Tm1 Tm2 Tm3 Tm4 Tm5 -/
import Derived.Test.YtjlhbfbdcfajfaaGreatDoorV00
import Derived.Test.YtjlhbfbdcfajfaaGreatDoorV31
import Derived.Test.YtjlhbfbdcfajfaaGreatDoorProg
import Derived.Lib.SlicesS
import Derived.Test.YtjlhbfbdcfajfaaGreatDoorV12
import Derived.Test.YtjlhbfbdcfajfaaGreatDoorV16
set_option maxHeartbeats 8000000
set_option maxRecDepth 100000
namespace Go.Proofs.YtjlhbfbdcfajfaaGreatDoor
open Go Go.RowKit
def bd (f:Func):Code:=f.body.getD .skip
def Yn (c:Code):Code:=match c with
 | .loop b=>b
 | _=>.skip
def aaQ (f:Func) (k:Nat):Code:=Yn ((kC (bd f))[k]?.getD .skip)
abbrev sD (t:Ty):SS:=.c (.d t)
abbrev sI:SS:=sD tI
abbrev sS:SS:=sD .str
abbrev sB:SS:=sD .bool
abbrev sL:SS:=sD (.list .str)
abbrev aI (n:Int):XV:=.one (.sym (.int .i64 n))
abbrev aB (b:Bool):XV:=.one (.sym (.bool b))
abbrev aS (s:ByteArray):XV:=.one (.sym (.string s))
def Ri (v:Int):Bool:=decide (0≤v)
abbrev xZ {P:Program} (C:iZ P) (f:Func):Rg P f.ntmps:=Vi C f.ntmps f [] true (.inl rfl)
abbrev Kh {P:Program} (C:iZ P) (f:Func) (pb:List Nat):Rg P f.ntmps:=Vi C f.ntmps f pb false (.inr rfl)
abbrev fRg {P:Program} (C:iZ P) (f:Func) (pb:List Nat) (tb:List (Nat×List Nat)):Rg P f.ntmps:=OA (Kh C f pb) tb
abbrev nL {P:Program} {m:Nat} (R:Rg P m) (f:Func):AU P R.fn m R.pb (kC (bd f)):=noL _ _ _ _ _
theorem Ru {b:Code}:∀{c:Code} {k:Nat},(kC c)[k]?=some (.loop b)→∀(j:Nat) (x:Code),(kC b)[j]?=some x→(kC c)[k+1+j]?=some x:=by
 intro c;have two:∀{l1 l2:List Code} {k:Nat},(∀{k:Nat},l1[k]?=some (.loop b)→∀(j:Nat) (x:Code),(kC b)[j]?=some x→l1[k+1+j]?=some x)→(∀{k:Nat},l2[k]?=some (.loop b)→∀(j:Nat) (x:Code),(kC b)[j]?=some x→l2[k+1+j]?=some x)→(l1++l2)[k]?=some (.loop b)→∀(j:Nat) (x:Code),(kC b)[j]?=some x→(l1++l2)[k+1+j]?=some x:=by
  intro l1 l2 k h1 h2 h j x hj;by_cases hk:k<l1.length
  ·rw[aaK hk] at h;have:=h1 h j x hj;rw[aaK (aab.1 this).1];exact this
  ·rw[aag (by omega)] at h;have:=h2 h j x hj;rw[aag (by omega),show k+1+j-l1.length=k-l1.length+1+j by omega];exact this
 induction c with
 | seq x y hx hy=>intro k h;exact two hx hy h
 | cond q x y hx hy=>intro k h;exact two hx hy h
 | block i x hx=>intro k h;exact hx h
 | loop x hx=>
  intro k h j y hj;cases k with
  | zero=>
   injection h with h
   injection h with h
   subst h;rw[ace,adN];exact hj
  | succ k=>
   have:=hx (k:=k) (by simpa[kC] using h) j y hj;rw[show k+1+1+j=(k+1+j)+1 by omega];exact this
 | _=>intro k h;cases h
def fO {P:Program} {f:Func} (R:Rg P f.ntmps) (k d:Nat) (l lo lr:List (Nat×SS)) (G:ct l→T (LE l lo lr)):Prop:=∀c,(kC (bd f))[k]?=some c→AY P R.fn f.ntmps R.pb c (lpT R.pb d l lo lr G)
theorem fS {P:Program} {f:Func} (R:Rg P f.ntmps) (L:AU P R.fn f.ntmps R.pb (kC (bd f))) (n k d:Nat) (l lo lr:List (Nat×SS)) (B:ct l→T (LE l lo lr)) {G:ct l→T (LE l lo lr)} (μ:ct l→Nat) (db:∀x r,La l x→(G x).hit r→∃q,(B x).hit q∧match q with|.back x'=>μ x'<μ x∧(G x').hit r|q=>q=r) (hB:∀x,rdT R L n k d (aaQ f k) l lo lr x=B x:=by intro x;kernel_rfl) (hk:(kC (bd f))[k]?=some (.loop (aaQ f k)):=by kernel_rfl):fO R k d l lo lr G:=by
 intro c hc;rw[hk] at hc;obtain rfl:=aae hc;exact aaP R L (n:=n) (k:=k) μ (Ru hk) fun x r h0 h=>by rw[hB];exact db x r h0 h
theorem bT {P:Program} {f:FuncId} {fn:Func} {C:iZ P} (L:AU P (xZ C fn).fn fn.ntmps (xZ C fn).pb (kC (bd fn))) (al:Bool) (n:Nat) (l0:List (Nat×SS)) (B:ct l0→T XV) {G:ct l0→T XV} (h:∀x r,La l0 x→(G x).hit r→(B x).hit r∧(al=true∨r.plain=true)) (hf:P.funcs[f]?=some fn) (hB:∀x,fnT (xZ C fn) L n (bd fn) l0 x=B x:=by intro x;kernel_rfl) (D5:l0.length≤fn.ntmps:=by decide) (hb:fn.body=some (bd fn):=by rfl):ax P f al (aX l0 G):=
 pure_ok (xZ C fn) L rfl rfl hf hb rfl al n l0 G D5 fun x r h0 h1=>by rw[hB];exact h x r h0 h1
theorem kx {P:Program} {f:FuncId} {fn:Func} {C:iZ P} {pb:List Nat} (L:AU P (Kh C fn pb).fn fn.ntmps (Kh C fn pb).pb (kC (bd fn))) (n:Nat) (l0 lr:List (Nat×SS)) (B:ct l0→T (XV×ct lr)) {G:ct l0→T (XV×ct lr)} (h:∀x r,La l0 x→(G x).hit r→(B x).hit r) (hf:P.funcs[f]?=some fn) (hB:∀x,fnE (Kh C fn pb) L n (bd fn) l0 lr x=B x:=by intro x;kernel_rfl) (np:pb≠[]:=by decide) (D5:l0.length≤fn.ntmps:=by decide) (hb:fn.body=some (bd fn):=by rfl):fV P f pb l0 lr G:=
 Fz (Kh C fn pb) L rfl np hf hb rfl n l0 lr G D5 fun x r h0 h1=>by rw[hB];exact h x r h0 h1
theorem X6 {P:Program} {f:FuncId} {fn:Func} {C:iZ P} {pb:List Nat} (tb:List (Nat×List Nat)) (L:AU P (fRg C fn pb tb).fn fn.ntmps (fRg C fn pb tb).pb (kC (bd fn))) (n:Nat) (l0 lr:List (Nat×SS)) (B:ct l0→T (XV×ct lr)) {G:ct l0→T (XV×ct lr)} (h:∀x r,La l0 x→(G x).hit r→(B x).hit r) (hf:P.funcs[f]?=some fn) (hB:∀x,fnE (fRg C fn pb tb) L n (bd fn) l0 lr x=B x:=by intro x;kernel_rfl) (np:pb≠[]:=by decide) (D5:l0.length≤fn.ntmps:=by decide) (hb:fn.body=some (bd fn):=by rfl):fV P f pb l0 lr G:=
 Fz (fRg C fn pb tb) L rfl np hf hb rfl n l0 lr G D5 fun x r h0 h1=>by rw[hB];exact h x r h0 h1
theorem OO {P:Program} {f:FuncId} {fn:Func} {R:Rg P fn.ntmps} (L:AU P R.fn fn.ntmps R.pb (kC (bd fn))) (n:Nat) (l0 lr:List (Nat×SS)) (B:ct l0→T (XV×ct lr)) {G:ct l0→T (XV×ct lr)} (h:∀x r,La l0 x→(G x).hit r→(B x).hit r) (hf:P.funcs[f]?=some fn) (hB:∀x,fnE R L n (bd fn) l0 lr x=B x:=by intro x;kernel_rfl) (SK:R.fn=fn:=by rfl) (np:R.pb≠[]:=by decide) (D5:l0.length≤fn.ntmps:=by decide) (hb:fn.body=some (bd fn):=by rfl):fV P f R.pb l0 lr G:=
 Fz R L SK np hf hb rfl n l0 lr G D5 fun x r h0 h1=>by rw[hB];exact h x r h0 h1
theorem ut {P:Program} {f:FuncId} {fn:Func} {R:Rg P fn.ntmps} (L:AU P R.fn fn.ntmps R.pb (kC (bd fn))) (al:Bool) (n:Nat) (l0:List (Nat×SS)) (B:ct l0→T XV) {G:ct l0→T XV} (h:∀x r,La l0 x→(G x).hit r→(B x).hit r∧(al=true∨r.plain=true)) (hf:P.funcs[f]?=some fn) (hB:∀x,fnT R L n (bd fn) l0 x=B x:=by intro x;kernel_rfl) (SK:R.fn=fn:=by rfl) (np:R.pb=[]:=by rfl) (D5:l0.length≤fn.ntmps:=by decide) (hb:fn.body=some (bd fn):=by rfl):ax P f al (aX l0 G):=
 pure_ok R L SK np hf hb rfl al n l0 G D5 fun x r h0 h1=>by rw[hB];exact h x r h0 h1
noncomputable def shut {α:Type} (a:α):α:=Classical.choose (⟨a,rfl⟩:∃b,b=a)
theorem mz {α:Type} (a:α):shut a=a:=Classical.choose_spec (⟨a,rfl⟩:∃b,b=a)
theorem bf {α:Type} {b:Bool} {x y:T α} {r:α} (hb:b=true) (h:x.hit r):(T.br b x y).hit r:=⟨fun _=>h,fun e=>by rw[hb] at e;cases e⟩
theorem bw {α:Type} {b:Bool} {x y:T α} {r:α} (hb:b=false) (h:y.hit r):(T.br b x y).hit r:=⟨(fun e=>by rw[hb] at e;cases e),fun _=>h⟩
theorem hB {α:Type} {b:Bool} {x y:T α} {r:α} (h:(T.br b x y).hit r):(b=true∧x.hit r)∨(b=false∧y.hit r):=by
 cases b with
 | true=>exact .inl ⟨rfl,h.1 rfl⟩
 | false=>exact .inr ⟨rfl,h.2 rfl⟩
theorem ax.imp {P:Program} {f:FuncId} {al:Bool} {l0:List (Nat×SS)} {F G:ct l0→T XV} (h:ax P f al (aX l0 F)) (hi:∀x r,(G x).hit r→∃q,(F x).hit q∧∀(w:World) (S:Nat→Prop) (v:Value),XR [] w S q v→XR [] w S r v):ax P f al (aX l0 G):=fun w S xs vs r hW hS hx hr=>by
 unfold aX at hr;split at hr
 ·rename_i x i7;split at hr
  ·rename_i hl;obtain⟨q,h1,h2⟩:=hi x r hr;refine Calls.mono (h w S xs vs q hW hS hx (by unfold aX;rw[i7];simp only[hl,if_true];exact h1)) fun e w' ⟨v,S',e1,e2,e3,e4⟩=>⟨v,S',e1,e2,e3,h2 _ _ _ e4⟩
  ·exact hr.elim
 ·exact hr.elim
def ZN:AV→AV
 | .list t xs _=>.list t xs false
 | a=>a
def Lm:XV→XV
 | .one a=>.one (ZN a)
 | .agg cs=>.agg (cs.map ZN)
 | .tup l=>.tup (l.map fun p=>(p.1,p.2.map ZN))
theorem Ei {bs:List Value} {w:World} {S:Nat→Prop} {x:AV} {v:Value} (h:VR bs w S x v):VR bs w S (ZN x) v:=by
 cases x with
 | list t xs q=>obtain⟨A,n,c,h1,h2,_⟩:=h;exact⟨A,n,c,h1,h2,fun e=>by cases e⟩
 | _=>exact h
theorem Eh {bs:List Value} {w:World} {S:Nat→Prop} {x:XV} {v:Value} (h:XR bs w S x v):XR bs w S (Lm x) v:=by
 have hc:∀{ag:Bool} {cs:List AV} {v:Value},CR bs w S ag cs v→CR bs w S ag (cs.map ZN) v:=by
  intro ag cs v h;unfold CR at h ⊢;cases ag with
  | true=>obtain⟨vs,e,h⟩:=h;exact⟨vs,e,h.mapL fun _ _ _ h=>Ei h⟩
  | false=>obtain⟨a,rfl,h⟩:=h;exact⟨_,rfl,Ei h⟩
 cases x with
 | one b=>exact Ei h
 | agg cs=>exact hc (ag:=true) h
 | tup l=>obtain⟨vs,e,h⟩:=h;exact⟨vs,e,h.mapL fun _ _ _ h=>hc h⟩
theorem ax.wk {P:Program} {f:FuncId} {al:Bool} {l0:List (Nat×SS)} {F G:ct l0→T XV} (h:ax P f al (aX l0 F)) (hi:∀x r,(G x).hit r→∃q,(F x).hit q∧Lm q=r):ax P f al (aX l0 G):=h.imp fun x r hr=>by
 obtain⟨q,h1,rfl⟩:=hi x r hr;exact⟨q,h1,fun w S v h=>Eh h⟩
theorem Pd {P:Program} {f:FuncId} {t:Ty} {g:List (El t)→List (El t)→Bool} (h:∀(S:Nat→Prop) (A:Option Addr) (n c:Nat) (A2:Option Addr) (n2 c2:Nat) (xs ys:List (El t)) (w:World),RS w S A n c xs→RS w S A2 n2 c2 ys→Calls P f #[.slice A n c,.slice A2 n2 c2] w (xb w (.bool (g xs ys)))):ax P f false (aX [(0,sD (.list t)),(1,sD (.list t))] fun((xs:List (El t)),(ys:List (El t)),_)=>.lf (aB (g xs ys))):=
 gr fun w S x vs r hS he hl hr=>by
  obtain⟨(xs:List (El t)),(ys:List (El t)),_⟩:=x;obtain⟨v,h1,A,q,c,h2,h3,_⟩:=he 0 (.one (.list t xs false)) aaS;obtain⟨v',i9,A2,q2,c2,Bg,J5,_⟩:=he 1 (.one (.list t ys false)) (aa9 _ aaS);obtain rfl:=hr
  match vs,hl,h1,i9 with
  | [u,u'],_,h1,i9=>
   injection h1 with h1
   injection i9 with i9
   subst h1 i9 h2 Bg;exact Calls.mono (h S A q c A2 q2 c2 xs ys w h3 J5) fun e w' ⟨e1,n,e2⟩=>⟨_,fun _=>False,e1,e2▸below_drewN (Below.refl _ _) n,fun _ q=>q.elim,rfl,rfl⟩
def Td {t:Ty} (g:FuncId) (q:List (El t)→List (El t)→Bool) (xs:List XV):T XV:=match xs with
 | [x,y,.one (.val (.func (.func k) a b))]=>if k=g∧a.size=0∧b.size=0 then aX [(0,sD (.list t)),(1,sD (.list t))] (fun((xs:List (El t)),(ys:List (El t)),_)=>.lf (aB (q xs ys))) [x,y] else .bad
 | _=>.bad
theorem Vb {P:Program} {f g:FuncId} {t:Ty} {q:List (El t)→List (El t)→Bool} (h:∀(S:Nat→Prop) (A:Option Addr) (n c:Nat) (A2:Option Addr) (n2 c2:Nat) (xs ys:List (El t)) (w:World),RS w S A n c xs→RS w S A2 n2 c2 ys→(∀b,S b→b<w.heap.size)→Calls P f #[.slice A n c,.slice A2 n2 c2,.func (.func g) #[] #[]] w (j5 w (.bool (q xs ys)))):ax P f false (Td (t:=t) g q):=by
 intro w S xs vs r hW hS hx hr;unfold Td at hr;split at hr
 ·rename_i x y k a b;split at hr
  ·rename_i hc;obtain⟨rfl,ha,hb⟩:=hc;obtain rfl:=aco ha;obtain rfl:=aco hb;cases hx with
   | cons h1 hx=>cases hx with
    | cons h2 hx=>cases hx with
     | cons h3 hx=>
      cases hx
      obtain rfl:_=Value.func (.func k) #[] #[]:=h3.1;obtain⟨⟨(xs:List (El t)),(ys:List (El t)),_⟩,he,hl,hr⟩:=Dx hW hS (.cons h1 (.cons h2 .nil)) hr;obtain⟨v,g1,A,n,c,g2,g3,_⟩:=he 0 (.one (.list t xs false)) aaS;obtain⟨v',g1',A2,n2,c2,g2',g3',_⟩:=he 1 (.one (.list t ys false)) (aa9 _ aaS);obtain rfl:=hr;injection g1 with g1
      injection g1' with g1'
      subst g1 g1' g2 g2';exact Calls.mono (h S A n c A2 n2 c2 xs ys w g3 g3' hS) fun e w' e1=>⟨_,fun _=>False,e1.1,e1.2,fun _ q=>q.elim,rfl,rfl⟩
  ·exact hr.elim
 ·exact hr.elim
def Dp {α:Type} (ret:T α):List Bool→T α→T α
 | [],t=>t
 | b::l,t=>.br (!b) ret (Dp ret l t)
theorem yX {α:Type} {ret t:T α} {r:α} (h:t.hit r):∀(l:List Bool),l.all id=true→(Dp ret l t).hit r
 | [],_=>h
 | b::l,hl=>by
  rw[acr,aaO] at hl;exact bw (by rw[show b=true from hl.1];rfl) (yX h l hl.2)
theorem yY {α:Type} {ret t:T α} {r:α} (h:ret.hit r):∀(l:List Bool),l.all id=false→(Dp ret l t).hit r
 | b::l,hl=>by
  cases b with
  | false=>exact bf rfl h
  | true=>exact bw rfl (yY h l hl)
def KM {α:Type} (ret:T α):List Bool→T α→T α
 | [],t=>t
 | b::l,t=>.br b (KM ret l t) ret
theorem rz {α:Type} {ret t:T α} {r:Bool→α} (hr:ret.hit (r false)) {y:Bool}:∀(l:List Bool),(l.all id=true→t.hit (r y))→(KM ret l t).hit (r (l.all id&&y))
 | [],h=>h rfl
 | b::l,h=>by
  cases b with
  | false=>exact bw rfl hr
  | true=>exact bf rfl (rz hr l fun hl=>h hl)
noncomputable def rO (t:TypeId):Option Ty:=List.lookup t [(9,.str),(3,tI)]
noncomputable def C0:iZ Tryz.prog:=d9 rO [] []
theorem eu {x y:ByteArray}:(x.toList==y.toList)=decide (x=y):=by
 have e:∀a:ByteArray,a.toList=a.data.toList:=ByteArray.toList_eq;rw[e,e];by_cases h:x=y
 ·subst h;simp
 ·rw[decide_eq_false h,beq_eq_false_iff_ne];intro h2;exact h (by cases x;cases y;simp at h2;rw[h2])
theorem getD_drop {α:Type} {xs:List α} {i:Nat} (d:α) (h:i<xs.length):xs.drop i=xs.getD i d::xs.drop (i+1):=by
 rw[aar,aac h];exact List.drop_eq_getElem_cons h
theorem S8:fO (xZ C0 Tryz.f48) 0 0 [(0,sL),(1,sS),(5,sI)] [] [] fun((xs:List ByteArray),(s:ByteArray),(i:Int),_)=>
 .nd (0≤i∧i≤xs.length) (.br (Ri (Lib.idxFromS (xs.drop i.toNat) s i.toNat)) (.lf (.ret (aI (Lib.idxFromS (xs.drop i.toNat) s i.toNat)) ())) (.lf (.out ()))):=by
  refine fS _ (nL _ _) 99 0 0 [(0,sL),(1,sS),(5,sI)] [] [] (fun((xs:List ByteArray),(s:ByteArray),(i:Int),_)=>.br (decide (i<xs.length)) (.nd (0≤i∧i<xs.length) (.br ((xs.getD i.toNat ⟨#[]⟩).toList==s.toList) (.lf (.ret (aI i) ())) (.nd (du (i+1)) (.lf (.back (xs,s,i+1,())))))) (.lf (.out ())))
   (fun((xs:List ByteArray),_,(i:Int),_)=>xs.length-i.toNat) ?_
  rintro⟨(xs:List ByteArray),(s:ByteArray),(i:Int),_⟩ r ⟨hl,_⟩ ⟨⟨h0,h1⟩,h⟩;have hl:xs.length≤9223372036854775807:=hl;obtain⟨k,rfl⟩:∃k:Nat,i=k:=⟨i.toNat,by omega⟩;simp only[aaf,eu] at h ⊢;by_cases hi:k<xs.length
  ·rw[getD_drop ⟨#[]⟩ hi] at h;unfold Lib.idxFromS at h;by_cases hx:xs.getD k ⟨#[]⟩=s
   ·rw[if_pos hx] at h;exact⟨_,bf (decide_eq_true (by omega)) ⟨⟨by omega,by omega⟩,bf (decide_eq_true hx) rfl⟩,((hB h).resolve_right fun q=>by have:=q.1;simp[Ri] at this).2⟩
   ·rw[if_neg hx] at h;exact⟨_,bf (decide_eq_true (by omega)) ⟨⟨by omega,by omega⟩,bw (decide_eq_false hx) ⟨⟨by omega,by omega⟩,rfl⟩⟩,by show xs.length-(k+1)<xs.length-k;omega,⟨by omega,by omega⟩,h⟩
  ·rw[aa5 (by omega)] at h;exact⟨_,bw (decide_eq_false (by omega)) rfl,((hB h).resolve_left fun q=>by have:=q.1;simp[Ri,Lib.idxFromS] at this).2⟩
theorem mG:∀(xs:List ByteArray) (s:ByteArray) (i:Nat),0≤Lib.idxFromS xs s i∨Lib.idxFromS xs s i= -1
 | [],_,_=>.inr rfl
 | x::l,s,i=>by
  unfold Lib.idxFromS;split
  ·exact .inl (by omega)
  ·exact mG l s (i+1)
theorem find_ok:ax Tryz.prog 48 false (aX [(0,sL),(1,sS)] fun((xs:List ByteArray),(s:ByteArray),_)=>.lf (aI (Lib.idxOfS xs s))):=
 bT (C:=C0) ((nL _ _).add 0 _ S8) false 99 [(0,sL),(1,sS)] (fun((xs:List ByteArray),(s:ByteArray),_)=>.nd ((0:Int)≤0∧(0:Int)≤xs.length) (.br (Ri (Lib.idxFromS xs s 0)) (.lf (aI (Lib.idxFromS xs s 0))) (.lf (aI (-1)))))
  (fun⟨xs,s,_⟩ r _ h=>⟨⟨⟨by omega,by omega⟩,by
   obtain rfl:aI (Lib.idxOfS xs s)=r:=h;rcases mG xs s 0 with h|h
   ·exact bf (decide_eq_true h) rfl
   ·exact bw (decide_eq_false (by omega)) (by show aI (-1)=aI (Lib.idxFromS xs s 0);rw[h])⟩,.inr (by obtain rfl:aI (Lib.idxOfS xs s)=r:=h;rfl)⟩) Tryz.func48
theorem FM {P:Program} {f:FuncId} {g:ByteArray→Bool} (h:∀(s:ByteArray) (w:World),s.size≤9223372036854775807→Calls P f #[.string s] w (gL w (.bool (g s)))):ax P f false (aX [(0,sS)] fun((s:ByteArray),_)=>.nd (s.size≤9223372036854775807) (.lf (aB (g s)))):=
 gr fun w S x vs r hS he hl hr=>by
  obtain⟨(s:ByteArray),_⟩:=x;obtain⟨v,h1,h2,_⟩:=he 0 (aS s) aaS;obtain⟨hs,rfl⟩:=hr
  match vs,hl,h1 with
  | [u],_,h1=>
   injection h1 with h1
   subst h1 h2;exact Calls.mono (h s w hs) fun e w' ⟨e1,e2⟩=>⟨_,fun _=>False,e1,e2▸Below.refl _ _,fun _ q=>q.elim,rfl,rfl⟩
theorem nM:ax Tryz.prog 45 false (aX [(0,sS)] fun((s:ByteArray),_)=>.nd (s.size≤9223372036854775807) (.lf (aB (fE s.data.toList)))):=FM Jt
theorem qg:ax Tryz.prog 107 false (aX [(0,sS)] fun((s:ByteArray),_)=>.nd (s.size≤9223372036854775807) (.lf (aB (iS s.data.toList)))):=FM Lj
theorem Ra:ax Tryz.prog 169 false (aX [(0,sS)] fun((s:ByteArray),_)=>.nd (s.size≤9223372036854775807) (.lf (aB (kq s.data.toList)))):=FM EY
noncomputable def C1:iZ Tryz.prog:=d9 rO [⟨_,_,_,find_ok⟩,⟨_,_,_,nM⟩,⟨_,_,_,qg⟩,⟨_,_,_,Ra⟩] []
theorem Hz {b y:Bool} {x:T XV} (h:b=true→x.hit (aB y)):(T.br b x (.lf (aB false))).hit (aB (b&&y)):=by
 cases b with
 | true=>exact⟨fun _=>h rfl,fun e=>by cases e⟩
 | false=>exact⟨(fun e=>by cases e),fun _=>rfl⟩
theorem zU:ax Tryz.prog 110 false (aX [(0,sS)] fun((s:ByteArray),_)=>.nd (s.size≤9223372036854775807) (.lf (aB (nS s)))):=
 bT (C:=C1) (nL _ _) false 99 [(0,sS)] (fun((s:ByteArray),_)=>.br (decide ((s.size:Int)≥1)) (.br (decide ((s.size:Int)≤24)) (.nd (s.size≤9223372036854775807) (.lf (aB (fE s.data.toList)))) (.lf (aB false))) (.lf (aB false)))
  (fun⟨s,_⟩ r _ ⟨hs,h⟩=>by
   obtain rfl:aB (nS s)=r:=h;exact⟨Hz fun _=>Hz fun _=>⟨hs,rfl⟩,.inr rfl⟩) Tryz.func110
theorem Jz (l:List UInt8):-(6*10^l.length-6)≤l.foldl dn 0∧l.foldl dn 0≤23*10^l.length-23:=by
 have:∀k:List UInt8,-(6*10^k.reverse.length-6)≤k.reverse.foldl dn 0∧k.reverse.foldl dn 0≤23*10^k.reverse.length-23:=by
  intro k;induction k with
  | nil=>simp
  | cons x k ih=>
   rw[ab6,List.foldl_append,aa8,ab2];obtain⟨P,hP⟩:∃P:Int,(10:Int)^k.reverse.length=P:=⟨_,rfl⟩;have e:(10:Int)^(k.reverse.length+1)=10*P:=by rw[Int.pow_succ,hP,Int.mul_comm]
   rw[hP] at ih;rw[e];have hx:=x.toNat_lt;show _≤10*_+(x.toNat:Int)-48∧10*_+(x.toNat:Int)-48≤_;omega
 have h:=this l.reverse
 rwa [aal] at h
theorem yb {l:List UInt8} (h:l.length≤6):-6000000≤l.foldl dn 0∧l.foldl dn 0≤23000000:=by
 have h1:=Jz l;have h2:10^l.length≤10^6:=ada (by omega) h;have h3:(10:Int)^l.length=((10^l.length:Nat):Int):=by simp
 rw[h3] at h1;have h4:10^6=1000000:=by decide
 omega
theorem yJ {l:List UInt8} {k:Nat} {x:UInt8} (h:l[k]?=some x) (n:Int):(l.take (k+1)).foldl dn n=10*(l.take k).foldl dn n+(x.toNat:Int)-48:=by
 rw[jh h,List.foldl_append];rfl
theorem Jy:fO (xZ C1 Tryz.f141) 0 0 [(0,sS),(4,sI),(5,sI)] [(0,sS),(4,sI)] [] fun((s:ByteArray),(n:Int),(i:Int),_)=>
 .nd (∃k:Nat,i=k∧k≤s.size∧k≤6∧(s.data.toList.take k).foldl dn 0=n) (.lf (.out (s,(dz s.data.toList).1,()))):=by
  refine fS _ (nL _ _) 99 0 0 [(0,sS),(4,sI),(5,sI)] [(0,sS),(4,sI)] [] (fun((s:ByteArray),(n:Int),(i:Int),_)=>.br (decide (i<s.size)) (.br (decide (i<6)) (.nd (du (10*n)) (.nd (0≤i∧i<s.size) (.nd (du (10*n+IntKind.i64.wrap (s.data.toList.getD i.toNat 0).toNat)) (.nd (du (10*n+IntKind.i64.wrap (s.data.toList.getD i.toNat 0).toNat-48)) (.nd (du (i+1)) (.lf (.back (s,10*n+IntKind.i64.wrap (s.data.toList.getD i.toNat 0).toNat-48,i+1,())))))))) (.lf (.out (s,n,())))) (.lf (.out (s,n,()))))
   (fun(_,_,(i:Int),_)=>6-i.toNat) ?_
  rintro⟨(s:ByteArray),n,i,_⟩ r _ ⟨⟨k,rfl,h1,h2,rfl⟩,rfl⟩;have bM:s.data.toList.length=s.size:=abI;by_cases hi:k<s.size
  ·by_cases h6:k<6
   ·have hx:s.data.toList[k]?=some (s.data.toList.getD k 0):=by
     rw[aar,aac (by omega)];rfl
    have hb:=yb (l:=s.data.toList.take k) (by rw[ab4];omega);have bZ:=yb (l:=s.data.toList.take (k+1)) (by rw[ab4];omega);rw[yJ hx] at bZ;have hc:=(s.data.toList.getD k 0).toNat_lt;have hw:IntKind.i64.wrap ((s.data.toList.getD k 0).toNat:Int)=((s.data.toList.getD k 0).toNat:Int):=by rw[IntKind.wrap_i64];omega
    refine⟨_,bf (decide_eq_true (by omega)) (bf (decide_eq_true (by omega)) ⟨⟨by omega,by omega⟩,⟨by omega,by omega⟩,?_,?_,⟨by omega,by omega⟩,rfl⟩),?_,⟨k+1,rfl,by omega,by omega,?_⟩,rfl⟩
    ·show du (_+IntKind.i64.wrap ((s.data.toList.getD k 0).toNat:Int));rw[hw];exact⟨by omega,by omega⟩
    ·show du (_+IntKind.i64.wrap ((s.data.toList.getD k 0).toNat:Int)-48);rw[hw];exact⟨by omega,by omega⟩
    ·show 6-(k+1)<6-k;omega
    ·rw[yJ hx];show _=_+IntKind.i64.wrap ((s.data.toList.getD k 0).toNat:Int)-48;rw[hw]
   ·obtain rfl:k=6:=by omega
    exact⟨_,bf (decide_eq_true (by omega)) (bw (decide_eq_false (by omega)) rfl),rfl⟩
  ·refine⟨_,bw (decide_eq_false (by omega)) rfl,?_⟩;simp only[dz,acV (show s.data.toList.length≤6 by omega),acV (show s.data.toList.length≤k by omega)]
theorem oA:ax Tryz.prog 141 false (aX [(0,sS)] fun((s:ByteArray),_)=>.nd (s.size≤9223372036854775807) (.lf (.tup [(false,[.sym (.int .i64 (dz s.data.toList).1)]),(false,[.sym (.bool (dz s.data.toList).2)])]))):=
 bT (C:=C1) ((nL _ _).add 0 _ Jy) false 99 [(0,sS)] (fun((s:ByteArray),_)=>.nd (∃k:Nat,(0:Int)=k∧k≤s.size∧k≤6∧(s.data.toList.take k).foldl dn 0=0) (.nd (s.size≤9223372036854775807) (.lf (.tup [(false,[.sym (.int .i64 (dz s.data.toList).1)]),(false,[.sym (.bool (kq s.data.toList))])]))))
  (fun⟨s,_⟩ r _ ⟨hs,h⟩=>⟨⟨⟨0,rfl,abS _,abS _,rfl⟩,hs,h⟩,.inr (by obtain rfl:=h;rfl)⟩) Tryz.func141
def Hg (k:ByteArray):List ByteArray→T XV
 | []=>.lf (.one (.val (.slice none 0 0)))
 | a::l=>.br (k.toList==a.toList) (.lf (.one (.list .str (aJ a) true))) (Hg k l)
theorem yw {k:ByteArray}:∀{l:List ByteArray},(k∉l→aJ k=[])→∃q,(Hg k l).hit q∧∀(w:World) (S:Nat→Prop) (v:Value),XR [] w S q v→XR [] w S (.one (.list .str (aJ k) true)) v
 | [],h=>⟨_,rfl,fun w S v ⟨e,_⟩=>⟨none,0,0,e,by rw[h (by simp)];exact RS.nil _ _,fun _ _=>rfl⟩⟩
 | a::l,h=>by
  by_cases e:k=a
  ·subst e;exact⟨_,bf (by simp) rfl,fun _ _ _ h=>h⟩
  ·obtain⟨q,h1,h2⟩:=yw (k:=k) (l:=l) fun hl=>h (by simp[e,hl]);exact⟨q,bw (by rw[eu];exact decide_eq_false e) h1,h2⟩
theorem qK:ax Tryz.prog 83 true (aX [(0,sS)] fun((s:ByteArray),_)=>.lf (.one (.list .str (aJ s) true))):=
 ax.imp (l0:=[(0,sS)]) (F:=fun((k:ByteArray),_)=>Hg k iR) (bT (C:=C1) (nL _ _) true 99 [(0,sS)] (fun((k:ByteArray),_)=>Hg k iR) (fun _ _ _ h=>⟨h,.inl rfl⟩) Tryz.func83) fun⟨(k:ByteArray),_⟩ r h=>by
  obtain rfl:XV.one (.list .str (aJ k) true)=r:=h;refine yw fun h=>?_;simp only[iR,aba,abG,or_false,not_or] at h;obtain⟨h1,h2,h3,h4,h5,h6,h7⟩:=h;exact(if_neg h1).trans ((if_neg h2).trans ((if_neg h3).trans ((if_neg h4).trans ((if_neg h5).trans ((if_neg h6).trans (if_neg h7))))))
def nt (p:Int×Int) (no line:Int):Int×Int:=if p.1=0∧no≠0 then(no,line) else p
abbrev stN:List CS:=[.any,.any,.any,.any,.any,.any,.any,.any,.any,.any,.any,.any,.any,.any,.any,.any,.any,.d tI,.d tI]
abbrev sN:SS:=.box 104 stN
abbrev pN:List Nat:=[0,1,2,3,4,5,6,7,8,9,10,11,12,13,14,15,16,17]
abbrev sF:SS:=.st 0
abbrev gK:=fc stN
def Y1 (p:Int×Int):gK:=((),(),(),(),(),(),(),(),(),(),(),(),(),(),(),(),(),p.1,p.2,())
def gK.f (x:gK):Int×Int:=(x.2.2.2.2.2.2.2.2.2.2.2.2.2.2.2.2.2.1,x.2.2.2.2.2.2.2.2.2.2.2.2.2.2.2.2.2.2.1)
def gK.err (x:gK):Int:=x.f.1
def gK.note (x:gK) (no line:Int):gK:=Y1 (nt x.f no line)
def gK.setF (_:gK) (no line:Int):gK:=Y1 (no,line)
theorem JA {p:Int×Int} {no:Int} (line:Int) (h:p.1=0) (hn:no≠0):nt p no line=(no,line):=if_pos ⟨h,hn⟩
theorem Rb {p:Int×Int} (no line:Int) (h:p.1≠0):nt p no line=p:=if_neg fun q=>h q.1
theorem MD {p:Int×Int} (line:Int):nt p 0 line=p:=if_neg fun q=>q.2 rfl
theorem aaC {p:Int×Int} {c d line vR:Int} (hc:c≠0):nt (nt p c line) d vR=nt p c line:=by
 by_cases h:p.1=0
 ·rw[JA line h hc];exact Rb d vR hc
 ·rw[Rb c line h,Rb d vR h]
theorem MF {x:gK} {no:Int} (line:Int) (h:x.err=0) (hn:no≠0):x.note no line=x.setF no line:=congrArg Y1 (JA line h hn)
theorem MG {x:gK} (no line:Int) (h:x.err≠0):x.note no line=x:=congrArg Y1 (Rb no line h)
theorem zQ {x:gK} (line:Int):x.note 0 line=x:=congrArg Y1 (MD line)
abbrev an (r:XV) (x:gK):XV×gK×Unit:=(r,x,())
theorem kw:fV Tryz.prog 46 pN [(0,sN),(1,sI),(2,sI)] [(0,sN)] fun((x:gK),(no:Int),(line:Int),_)=>.nd ((0:Int)≠no) (.lf (an (.tup []) (x.note no line))):=
 kx (C:=C1) (nL _ _) 99 [(0,sN),(1,sI),(2,sI)] [(0,sN)] (fun((x:gK),(no:Int),(line:Int),_)=>.br (x.err==0) (.lf (an (.tup []) (x.setF no line))) (.lf (an (.tup []) x)))
  (fun⟨(x:gK),no,line,_⟩ r _ ⟨hn,h⟩=>by
   obtain rfl:an (.tup []) (x.note no line)=r:=h;by_cases e:x.err=0
   ·exact bf (beq_iff_eq.2 e) (congrArg (an _) (MF line e (acJ hn)).symm)
   ·exact bw (beq_eq_false_iff_ne.2 e) (congrArg (an _) (MG no line e).symm)) Tryz.func46
noncomputable def C2:iZ Tryz.prog:=d9 rO [⟨_,_,_,find_ok⟩,⟨_,_,_,nM⟩,⟨_,_,_,qg⟩,⟨_,_,_,zU⟩,⟨_,_,_,oA⟩,⟨_,_,_,qK⟩] [⟨_,_,_,_,_,kw⟩]
theorem rK:fV Tryz.prog 140 pN [(0,sN),(1,sF)] [(0,sN)] fun((x:gK),(f:ao),_)=>.lf (an (aS (bi f.vals)) (x.note (dD f.vals) f.line)):=
 kx (C:=C2) (nL _ _) 99 [(0,sN),(1,sF)] [(0,sN)] (fun((x:gK),(f:ao),_)=>.br (!((f.vals.length:Int)==1)) (.nd ((0:Int)≠7) (.lf (an (aS ⟨#[]⟩) (x.note 7 f.line)))) (.nd ((0:Int)≤0∧(0:Int)<f.vals.length) (.lf (an (aS (f.vals.getD 0 ⟨#[]⟩)) x))))
  (fun⟨(x:gK),(f:ao),_⟩ r _ h=>by
   obtain rfl:an (aS (bi f.vals)) (x.note (dD f.vals) f.line)=r:=h;by_cases e:f.vals.length=1
   ·refine bw (by rw[e];rfl) ⟨⟨by omega,by omega⟩,?_⟩;rw[bi,dD,if_neg (by simp[e]),if_neg (by simp[e]),zQ];rfl
   ·refine bf (by simp;omega) ⟨by decide,?_⟩;rw[bi,dD,if_pos e,if_pos e];rfl) Tryz.func140
noncomputable def C3:iZ Tryz.prog:=d9 rO [⟨_,_,_,find_ok⟩,⟨_,_,_,nM⟩,⟨_,_,_,qg⟩,⟨_,_,_,zU⟩,⟨_,_,_,oA⟩,⟨_,_,_,qK⟩] [⟨_,_,_,_,_,kw⟩,⟨_,_,_,_,_,rK⟩]
theorem Wi {x:gK} {no:Int} (line:Int) (h:x.err=0) (hn:no≠0):(x.note no line).err=no:=by rw[MF line h hn];rfl
theorem ME {x:gK} {c d line vR:Int} (hc:c≠0):(x.note c line).note d vR=x.note c line:=congrArg Y1 (aaC hc)
theorem DC {x:gK} {a:XV} {c d e line:Int} (h:(if c=0 then d else c)=e):an a ((x.note c line).note d line)=an a (x.note e line):=by
 subst h;by_cases hc:c=0
 ·rw[if_pos hc,hc,zQ]
 ·rw[if_neg hc,ME hc]
theorem KN {x:gK} {a:XV} {c e line:Int} (h:c=e):an a (x.note c line)=an a (x.note e line):=by rw[h]
theorem tt:∀(xs:List ByteArray) (s:ByteArray) (i:Nat),Lib.idxFromS xs s i≤i+xs.length
 | [],_,_=>by show(-1:Int)≤_;omega
 | x::l,s,i=>by
  unfold Lib.idxFromS;split
  ·simp only[abs];omega
  ·have:=tt l s (i+1);simp only[abs];omega
theorem Nw:fV Tryz.prog 109 pN [(0,sN),(1,sF),(2,sI),(3,sI)] [(0,sN)] fun((x:gK),(f:ao),(a:Int),(b:Int),_)=>.nd ((bi f.vals).size≤9223372036854775807) (.lf (an (aI (i6 f.vals)) (x.note (jo f.vals a b) f.line))):=
 kx (C:=C3) (nL _ _) 99 [(0,sN),(1,sF),(2,sI),(3,sI)] [(0,sN)] (fun((x:gK),(f:ao),(a:Int),(b:Int),_)=>.nd ((bi f.vals).size≤9223372036854775807) (.br (!(dz (bi f.vals).data.toList).2) (.nd ((0:Int)≠5) (.lf (an (aI (i6 f.vals)) ((x.note (dD f.vals) f.line).note 5 f.line)))) (.br (decide (i6 f.vals<a)) (.nd ((0:Int)≠4) (.lf (an (aI (i6 f.vals)) ((x.note (dD f.vals) f.line).note 4 f.line)))) (.br (decide (i6 f.vals>b)) (.nd ((0:Int)≠4) (.lf (an (aI (i6 f.vals)) ((x.note (dD f.vals) f.line).note 4 f.line)))) (.lf (an (aI (i6 f.vals)) (x.note (dD f.vals) f.line)))))))
  (fun⟨(x:gK),(f:ao),(a:Int),(b:Int),_⟩ r _ ⟨hs,h⟩=>by
   obtain rfl:an (aI (i6 f.vals)) (x.note (jo f.vals a b) f.line)=r:=h;refine⟨hs,fun h1=>⟨by decide,DC ?_⟩,fun h1=>⟨fun h2=>⟨by decide,DC ?_⟩,fun h2=>⟨fun h3=>⟨by decide,DC ?_⟩,fun h3=>?_⟩⟩⟩
   ·unfold jo dD;split<;>simp_all
   ·unfold jo dD;split<;>simp_all
   ·unfold jo dD;split<;>simp_all
   ·refine KN ?_;have:=of_decide_eq_false h2;have:=of_decide_eq_false h3;unfold jo dD;split<;>simp_all) Tryz.func109
theorem Tx:fV Tryz.prog 108 pN [(0,sN),(1,sF),(2,sL)] [(0,sN)] fun((x:gK),(f:ao),(l:List ByteArray),_)=>.nd (l.length≤99) (.lf (an (aI (iD f.vals l)) (x.note (jp f.vals l) f.line))):=
 kx (C:=C3) (nL _ _) 99 [(0,sN),(1,sF),(2,sL)] [(0,sN)] (fun((x:gK),(f:ao),(l:List ByteArray),_)=>.br (decide (Lib.idxOfS l (bi f.vals)<0)) (.nd ((0:Int)≠2) (.nd (du (iD f.vals l)) (.lf (an (aI (iD f.vals l)) ((x.note (dD f.vals) f.line).note 2 f.line))))) (.nd (du (iD f.vals l)) (.lf (an (aI (iD f.vals l)) (x.note (dD f.vals) f.line)))))
  (fun⟨(x:gK),(f:ao),(l:List ByteArray),_⟩ r _ ⟨hs,h⟩=>by
   obtain rfl:an (aI (iD f.vals l)) (x.note (jp f.vals l) f.line)=r:=h;have hb:du (iD f.vals l):=by
    have:=tt l (bi f.vals) 0;have:=mG l (bi f.vals) 0;unfold iD du Lib.idxOfS at*;omega
   refine⟨fun h1=>⟨by decide,hb,DC ?_⟩,fun h1=>⟨hb,?_⟩⟩
   ·unfold jp dD;split<;>simp_all
   ·refine KN ?_;unfold jp dD;split<;>simp_all) Tryz.func108
theorem Bz:fV Tryz.prog 112 pN [(0,sN),(1,sF)] [(0,sN)] fun((x:gK),(f:ao),_)=>.nd ((bi f.vals).size≤9223372036854775807) (.lf (an (aS (bi f.vals)) (x.note (kI f.vals) f.line))):=
 kx (C:=C3) (nL _ _) 99 [(0,sN),(1,sF)] [(0,sN)] (fun((x:gK),(f:ao),_)=>.br (!((bi f.vals).toList==(⟨#[]⟩:ByteArray).toList)) (.nd ((bi f.vals).size≤9223372036854775807) (.br (!nS (bi f.vals)) (.nd ((0:Int)≠8) (.lf (an (aS (bi f.vals)) ((x.note (dD f.vals) f.line).note 8 f.line)))) (.lf (an (aS (bi f.vals)) (x.note (dD f.vals) f.line))))) (.lf (an (aS (bi f.vals)) (x.note (dD f.vals) f.line))))
  (fun⟨(x:gK),(f:ao),_⟩ r _ ⟨hs,h⟩=>by
   obtain rfl:an (aS (bi f.vals)) (x.note (kI f.vals) f.line)=r:=h;refine⟨fun h1=>⟨hs,fun h2=>⟨by decide,DC ?_⟩,fun h2=>?_⟩,fun h1=>?_⟩
   ·rw[eu] at h1;unfold kI dD;split<;>simp_all
   ·refine KN ?_;rw[eu] at h1;unfold kI dD;split<;>simp_all
   ·refine KN ?_;rw[eu] at h1;unfold kI dD;split<;>simp_all) Tryz.func112
abbrev KT:SS:=.box 113 [.d .str,.d (.list .str),.d tI]
abbrev zj:=fc [.d .str,.d (.list .str),.d tI]
def zj.vs (f:zj):List ByteArray:=f.2.1
def zj.ln (f:zj):Int:=f.2.2.1
theorem MN (s:ByteArray):nS s=dE s 1 24:=by
 unfold nS dE;cases fE s.data.toList<;>simp
abbrev Eu (l:List ByteArray):Prop:=∀s∈l,s.size≤9223372036854775807
abbrev nT (x:gK) (f:zj):LE [(0,sN),(2,sI),(4,KT),(7,sI)] [(0,sN),(4,KT)] [(0,sN)]:=.out (x,f,())
abbrev vI (x:gK) (m:Int) (f:zj) (i:Int):LE [(0,sN),(2,sI),(4,KT),(7,sI)] [(0,sN),(4,KT)] [(0,sN)]:=.back (x,m,f,i,())
theorem Ch (m:Int) (pre:List ByteArray) (s:ByteArray) (r:List ByteArray):fI m pre (s::r)=if(pre.length:Int)=m then 7 else if dE s 1 24=false then 8 else if Lib.containsS pre s then 3 else fI m (pre++[s]) r:=by rw[fI]
def G2 (x:gK) (m:Int) (l:List ByteArray) (i:Int):Prop:=0≤i∧i≤l.length∧(x.err=0→i≤m)∧Eu l
theorem RG:fO (Kh C3 Tryz.f85 pN) 0 0 [(0,sN),(2,sI),(4,KT),(7,sI)] [(0,sN),(4,KT)] [(0,sN)] fun((x:gK),(m:Int),(f:zj),(i:Int),_)=>
 .nd (G2 x m f.vs i) (.lf (nT (x.note (fI m (f.vs.take i.toNat) (f.vs.drop i.toNat)) f.ln) f)):=by
  refine fS _ (nL _ _) 99 0 0 [(0,sN),(2,sI),(4,KT),(7,sI)] [(0,sN),(4,KT)] [(0,sN)] (fun((x:gK),(m:Int),(f:zj),(i:Int),_)=>.br (decide (i<f.vs.length)) (.br (x.err==0) (.br (decide (i≥m)) (.nd ((0:Int)≠7) (.nd (du (i+1)) (.lf (vI (x.note 7 f.ln) m f (i+1))))) (.nd (0≤i∧i<f.vs.length) (.nd ((f.vs.getD i.toNat ⟨#[]⟩).size≤9223372036854775807) (.br (!nS (f.vs.getD i.toNat ⟨#[]⟩)) (.nd ((0:Int)≠8) (.nd (du (i+1)) (.lf (vI (x.note 8 f.ln) m f (i+1))))) (.nd ((0:Int)≤0∧0≤i∧i≤f.vs.length) (.nd (0≤i∧i<f.vs.length) (.br (decide (Lib.idxOfS (f.vs.take i.toNat) (f.vs.getD i.toNat ⟨#[]⟩)≥0)) (.nd ((0:Int)≠3) (.nd (du (i+1)) (.lf (vI (x.note 3 f.ln) m f (i+1))))) (.nd (du (i+1)) (.lf (vI x m f (i+1))))))))))) (.lf (nT x f))) (.lf (nT x f)))
   (fun(_,_,(f:zj),(i:Int),_)=>f.vs.length-i.toNat) ?_
  rintro⟨(x:gK),(m:Int),(f:zj),(i:Int),_⟩ r rG ⟨hn,hr⟩;obtain⟨h0,h1,h2,h3⟩:G2 x m f.vs i:=hn;have hl:f.vs.length≤9223372036854775807:=rG.2.2.1.2.1;obtain⟨k,rfl⟩:∃k:Nat,i=k:=⟨i.toNat,by omega⟩;obtain rfl:nT (x.note (fI m (f.vs.take k) (f.vs.drop k)) f.ln) f=r:=hr;by_cases hk:k<f.vs.length
  ·by_cases he:x.err=0
   ·have hx:=getD_drop (⟨#[]⟩:ByteArray) hk;have Bb:f.vs[k]?=some (f.vs.getD k ⟨#[]⟩):=by rw[aar,aac hk];rfl
    have hm:=h2 he;have hs:=h3 (f.vs.getD k ⟨#[]⟩) (acS Bb);have da:du ((k:Int)+1):=⟨by omega,by omega⟩;have dec:f.vs.length-(k+1)<f.vs.length-k:=by omega
    have hp:nS (f.vs.getD k ⟨#[]⟩)=dE (f.vs.getD k ⟨#[]⟩) 1 24:=MN _;have stop:∀c:Int,c≠0→fI m (f.vs.take k) (f.vs.drop k)=c→G2 (x.note c f.ln) m f.vs ((k:Int)+1)∧nT ((x.note c f.ln).note (fI m (f.vs.take (k+1)) (f.vs.drop (k+1))) f.ln) f=nT (x.note (fI m (f.vs.take k) (f.vs.drop k)) f.ln) f:=fun c hc hg=>by
     refine⟨⟨by omega,by omega,fun q=>absurd q (by rw[Wi _ he hc];exact hc),h3⟩,?_⟩;rw[hg,ME hc]
    rw[hx] at stop ⊢;rw[Ch,ab4,adI (by omega)] at stop ⊢;by_cases h7:(k:Int)=m
    ·rw[if_pos h7] at stop ⊢;exact⟨_,bf (decide_eq_true (by omega)) (bf (beq_iff_eq.2 he) (bf (decide_eq_true (by omega)) ⟨by decide,da,rfl⟩)),dec,stop 7 (by decide) rfl⟩
    rw[if_neg h7] at stop ⊢;have go:∀{y:T (LE [(0,sN),(2,sI),(4,KT),(7,sI)] [(0,sN),(4,KT)] [(0,sN)])} {q},y.hit q→_:=fun {y q} h=>bf (x:=T.br _ _ _) (y:=.lf (nT x f)) (b:=decide ((k:Int)<f.vs.length)) (decide_eq_true (by omega)) (bf (y:=.lf (nT x f)) (beq_iff_eq.2 he) (bw (b:=decide ((k:Int)≥m)) (x:=.nd ((0:Int)≠7) (.nd (du ((k:Int)+1)) (.lf (vI (x.note 7 f.ln) m f (k+1))))) (y:=.nd (0≤(k:Int)∧(k:Int)<f.vs.length) (.nd ((f.vs.getD k ⟨#[]⟩).size≤9223372036854775807) y)) (decide_eq_false (by omega)) ⟨⟨by omega,by omega⟩,hs,h⟩));by_cases h8:dE (f.vs.getD k ⟨#[]⟩) 1 24=false
    ·rw[if_pos h8] at stop ⊢;exact⟨_,go (bf (by rw[aaf,hp,h8];rfl) ⟨by decide,da,rfl⟩),dec,stop 8 (by decide) rfl⟩
    rw[if_neg h8] at stop ⊢;by_cases J5:Lib.containsS (f.vs.take k) (f.vs.getD k ⟨#[]⟩)
    ·rw[if_pos J5] at stop ⊢;exact⟨_,go (bw (by rw[aaf,hp];simpa using h8) ⟨⟨by omega,by omega,by omega⟩,⟨by omega,by omega⟩,bf J5 ⟨by decide,da,rfl⟩⟩),dec,stop 3 (by decide) rfl⟩
    ·rw[if_neg J5];refine⟨_,go (bw (by rw[aaf,hp];simpa using h8) ⟨⟨by omega,by omega,by omega⟩,⟨by omega,by omega⟩,bw (ade.2 J5:Lib.containsS _ _=false) ⟨da,rfl⟩⟩),dec,⟨by omega,by omega,fun _=>by omega,h3⟩,?_⟩;show nT (x.note (fI m (f.vs.take (k+1)) (f.vs.drop (k+1))) f.ln) f=_;rw[jh Bb]
   ·exact⟨_,bf (decide_eq_true (by omega)) (bw (beq_eq_false_iff_ne.2 he) rfl),congrArg (fun z=>nT z f) (MG _ _ he).symm⟩
  ·exact⟨_,bw (decide_eq_false (by omega)) rfl,congrArg (fun z=>nT z f) (by rw[aa5 (by omega)];exact(zQ _).symm)⟩
def lsR (l:List ByteArray):XV:=.one (.list .str (l.reverse++[]).reverse !(l.reverse++[]).isEmpty)
theorem Wq (l:List ByteArray):lsR l=.one (.list .str l !l.isEmpty):=by unfold lsR;simp
def UA (x:gK) (m:Int) (l:List ByteArray) (ln:Int):T (XV×gK×Unit):=.nd (G2 x m l 0) (.nd ((0+l.length)*17≤140737488355328) (.lf (an (lsR l) (x.note (fI m (l.take 0) (l.drop 0)) ln))))
theorem vM:fV Tryz.prog 85 pN [(0,sN),(1,sF),(2,sI)] [(0,sN)] fun((x:gK),(f:ao),(m:Int),_)=>.nd (Eu f.vals∧0≤m∧f.vals.length≤1099511627776) (.lf (an (.one (.list .str f.vals !f.vals.isEmpty)) (x.note (eD f.vals m) f.line))):=by
 refine X6 (C:=C3) (pb:=pN) [(12,[6])] ((nL _ _).add 0 _ RG) 99 [(0,sN),(1,sF),(2,sI)] [(0,sN)] (fun((x:gK),(f:ao),(m:Int),_)=>.br ((f.vals.length:Int)==0) (.nd ((0:Int)≠7) (UA (x.note 7 f.line) m f.vals f.line)) (UA x m f.vals f.line)) ?_ Tryz.func85;rintro⟨(x:gK),(f:ao),(m:Int),_⟩ r _ ⟨⟨h1,h2,h3⟩,h⟩;obtain rfl:an (.one (.list .str f.vals !f.vals.isEmpty)) (x.note (eD f.vals m) f.line)=r:=h;rw[←Wq];refine⟨fun e=>?_,fun e=>?_⟩
 ·have e:f.vals.length=0:=by have:=beq_iff_eq.1 e;omega
  have e2:=abv e;refine⟨by decide,⟨by omega,by omega,fun _=>h2,h1⟩,by omega,DC ?_⟩;rw[e2];rfl
 ·have e:f.vals≠[]:=fun q=>by rw[q] at e;cases e
  refine⟨⟨by omega,by omega,fun _=>h2,h1⟩,by omega,KN ?_⟩;unfold eD;rw[if_neg e];rfl
abbrev stC:List CS:=[.d .str,.d tI,.d tI,.d tI,.d (.list .str),.own (.st 3) 95,.own (.st 10) 97,.d tI,.d tI,.d .bool,.d (.list .limb),.d (.list .limb),.d tI,.d .str,.own .str 9,.own (.st 7) 152,.own (.st 6) 151,.d tI,.d tI]
abbrev sT:SS:=.box 104 stC
abbrev bg:=fc stC
def bg.f (x:bg):Int×Int:=(x.2.2.2.2.2.2.2.2.2.2.2.2.2.2.2.2.2.1,x.2.2.2.2.2.2.2.2.2.2.2.2.2.2.2.2.2.2.1)
def bg.err (x:bg):Int:=x.f.1
def bg.setF (x:bg) (p:Int×Int):bg:=(x.1,x.2.1,x.2.2.1,x.2.2.2.1,x.2.2.2.2.1,x.2.2.2.2.2.1,x.2.2.2.2.2.2.1,x.2.2.2.2.2.2.2.1,x.2.2.2.2.2.2.2.2.1,x.2.2.2.2.2.2.2.2.2.1,x.2.2.2.2.2.2.2.2.2.2.1,x.2.2.2.2.2.2.2.2.2.2.2.1,x.2.2.2.2.2.2.2.2.2.2.2.2.1,x.2.2.2.2.2.2.2.2.2.2.2.2.2.1,x.2.2.2.2.2.2.2.2.2.2.2.2.2.2.1,x.2.2.2.2.2.2.2.2.2.2.2.2.2.2.2.1,x.2.2.2.2.2.2.2.2.2.2.2.2.2.2.2.2.1,p.1,p.2,())
def bg.note (x:bg) (no line:Int):bg:=x.setF (nt x.f no line)
theorem uw {x:bg} (line:Int):x.note 0 line=x:=congrArg x.setF (MD line)
abbrev Iw (r:XV) (x:bg):XV×bg×Unit:=(r,x,())
abbrev sBb:SS:=.box 110 [.d .str,.d .str,.d (.list (.st 0)),.d tI]
abbrev sBk:SS:=.st 1
abbrev jW:=fc [.d .str,.d .str,.d (.list (.st 0)),.d tI]
def bg.cont (x:bg):List ah:=List.reverse (α:=ah) x.2.2.2.2.2.1
def bg.snm (x:bg):List ByteArray:=List.reverse (α:=ByteArray) x.2.2.2.2.2.2.1
def bg.styl (x:bg):List aw:=x.snm.map fun n=>⟨n,[],[]⟩
def bg.seen (x:bg):List ByteArray:=List.reverse (α:=ByteArray) x.2.2.2.2.2.2.2.2.2.2.2.2.2.2.1
def bg.lines (x:bg):List (Int×Int):=List.reverse (α:=Int×Int) x.2.2.2.2.2.2.2.2.2.2.2.2.2.2.2.1
def bg.names (x:bg):List (List ByteArray×List ByteArray):=List.reverse (α:=List ByteArray×List ByteArray) x.2.2.2.2.2.2.2.2.2.2.2.2.2.2.2.2.1
def bg.line (x:bg):Int:=x.f.2
def bg.e (x:bg):aa:=⟨x.1,x.2.1,x.2.2.1,x.2.2.2.1,x.2.2.2.2.1,x.cont,x.styl,x.2.2.2.2.2.2.2.1,x.2.2.2.2.2.2.2.2.1,⟨x.2.2.2.2.2.2.2.2.2.1,x.2.2.2.2.2.2.2.2.2.2.1,x.2.2.2.2.2.2.2.2.2.2.2.1⟩,x.2.2.2.2.2.2.2.2.2.2.2.2.1,x.2.2.2.2.2.2.2.2.2.2.2.2.2.1⟩
def bg.r (x:bg):eO:=⟨x.e,x.seen,x.lines,x.names,⟨x.err,x.line⟩⟩
section
variable {L:Type} (back:Bool→Int→Int→L) (out:Bool→Int→L) (len:Nat) (at':Nat→ByteArray) (c:Bool) (nm:ByteArray)
def hdB (same:Bool) (n i:Int):T L:=.br (decide (i<len)) (.br c (.br same (.nd (du (n+1)) (.nd (du (i+1)) (.lf (back true (n+1) (i+1))))) (.nd (0≤i∧i<len) (.nd (du (n+1)) (.nd (du (i+1)) (.lf (back ((at' i.toNat).toList==nm.toList) (n+1) (i+1))))))) (.lf (out same n))) (.lf (out same n))
def hdAny:Nat→Nat→Bool
 | 0,_=>false
 | k+1,i=>decide (at' i=nm)||hdAny k (i+1)
def Oh (same:Bool) (i:Int):Bool:=same||(c&&hdAny at' nm (len-i.toNat) i.toNat)
def J3 (n:Int):Int:=bif c then len else n
def Zj (n i:Int):Prop:=0≤i∧i≤len∧(c=true→n=i)
theorem Hw {same:Bool} {n i:Int} (hl:len≤9223372036854775807) (hp:Zj len c n i):∃q,(hdB back out len at' c nm same n i).hit q∧(q=out (Oh len at' c nm same i) (J3 len c n)∨∃s' n',q=back s' n' (i+1)∧i<len∧Zj len c n' (i+1)∧Oh len at' c nm s' (i+1)=Oh len at' c nm same i∧J3 len c n'=J3 len c n):=by
 obtain⟨h0,h1,h2⟩:=hp;obtain⟨k,rfl⟩:∃k:Nat,i=k:=⟨i.toNat,by omega⟩;by_cases hk:k<len
 ·cases c with
  | true=>
   obtain rfl:=h2 rfl;have e1:((k:Int)+1).toNat=k+1:=by omega
   have e2:len-k=(len-(k+1))+1:=by omega
   cases same with
   | true=>exact⟨_,bf (decide_eq_true (by omega)) (bf rfl (bf rfl ⟨⟨by omega,by omega⟩,⟨by omega,by omega⟩,rfl⟩)),.inr ⟨_,_,rfl,by omega,⟨by omega,by omega,fun _=>rfl⟩,rfl,rfl⟩⟩
   | false=>
    refine⟨_,bf (decide_eq_true (by omega)) (bf rfl (bw rfl ⟨⟨by omega,by omega⟩,⟨by omega,by omega⟩,⟨by omega,by omega⟩,rfl⟩)),.inr ⟨_,_,rfl,by omega,⟨by omega,by omega,fun _=>rfl⟩,?_,rfl⟩⟩;unfold Oh;rw[e1,aaf,e2,eu];simp only[hdAny,acc,adc]
  | false=>exact⟨_,bf (decide_eq_true (by omega)) (bw rfl rfl),.inl (by unfold Oh J3;simp)⟩
 ·refine⟨_,bw (decide_eq_false (by omega)) rfl,.inl ?_⟩;unfold Oh J3;rw[aaf,show len-k=0 by omega];cases c with
  | true=>obtain rfl:=h2 rfl;simp only[hdAny,Bool.and_false,Bool.or_false];congr 1;show(k:Int)=len;omega
  | false=>simp
end
theorem CC {α:Type} (f:α→ByteArray) (d:α) (nm:ByteArray):∀(l:List α) (k:Nat),k≤l.length→hdAny (fun i=>f (l.getD i d)) nm (l.length-k) k=(l.drop k).any fun x=>decide (f x=nm):=by
 intro l k hk;obtain⟨j,hj⟩:∃j,l.length-k=j:=⟨_,rfl⟩;induction j generalizing k with
 | zero=>rw[hj,aa5 (by omega)];rfl
 | succ j ih=>
  rw[hj,getD_drop d (by omega),adh,←ih (k+1) (by omega) (by omega),show l.length-(k+1)=j by omega];rfl
abbrev Zl (s:Nat):List (Nat×SS):=[(0,sT),(3,sBb),(4,sB),(5,sB),(6,sI),(s,sI)]
abbrev Zk:List (Nat×SS):=[(0,sT),(3,sBb),(4,sB),(5,sB),(6,sI)]
def Aw (s:Nat) (x:bg) (b:jW) (dp same:Bool) (n i:Int):LE (Zl s) Zk [(0,sT)]:=.back (x,b,dp,same,n,i,())
def tz (s:Nat) (x:bg) (b:jW) (dp same:Bool) (n:Int):LE (Zl s) Zk [(0,sT)]:=.out (x,b,dp,same,n,())
def is (k:ByteArray) (b:jW):Bool:=b.1.toList==k.toList
theorem Oc:fO (Kh C3 Tryz.f82 [0]) 0 0 (Zl 7) Zk [(0,sT)] fun((x:bg),(b:jW),(dp:Bool),(same:Bool),(n:Int),(i:Int),_)=>
 .nd (Zj x.cont.length (is af b) n i) (.lf (tz 7 x b dp (Oh x.cont.length (fun i=>(x.cont.getD i ah.zero).name) (is af b) b.2.1 same i) (J3 x.cont.length (is af b) n))):=by
  refine fS _ (nL _ _) 99 0 0 (Zl 7) Zk [(0,sT)] (fun((x:bg),(b:jW),(dp:Bool),(same:Bool),(n:Int),(i:Int),_)=>hdB (Aw 7 x b dp) (tz 7 x b dp) (List.length (α:=ah) x.2.2.2.2.2.1) (fun i=>(x.cont.getD i ah.zero).name) (is af b) b.2.1 same n i)
   (fun((x:bg),_,_,_,_,(i:Int),_)=>x.cont.length-i.toNat) ?_
  rintro⟨(x:bg),(b:jW),(dp:Bool),(same:Bool),(n:Int),(i:Int),_⟩ r rG ⟨hp,hr⟩;have hl2:List.length (α:=ah) x.2.2.2.2.2.1=x.cont.length:=(aaH (α:=ah)).symm;have hl:x.cont.length≤9223372036854775807:=hl2▸(rG.1.2.2.2.2.2.1:List.length (α:=ah) x.2.2.2.2.2.1≤_);obtain⟨q,h1,h2⟩:=Hw (Aw 7 x b dp) (tz 7 x b dp) x.cont.length (fun i=>(x.cont.getD i ah.zero).name) (is af b) b.2.1 (same:=same) hl hp;refine⟨q,by show T.hit (hdB _ _ (List.length (α:=ah) x.2.2.2.2.2.1) _ _ _ _ _ _) _;rw[hl2];exact h1,?_⟩;rcases h2 with rfl|⟨s',n',rfl,h3,h4,h5,h6⟩
  ·exact hr
  ·refine⟨?_,h4,?_⟩
   ·have:=hp.1;show x.cont.length-(i+1).toNat<x.cont.length-i.toNat;omega
   ·show tz _ _ _ _ _ _=_;rw[h5,h6];exact hr
theorem Ob:fO (Kh C3 Tryz.f82 [0]) 1 2 (Zl 8) Zk [(0,sT)] fun((x:bg),(b:jW),(dp:Bool),(same:Bool),(n:Int),(i:Int),_)=>
 .nd (Zj x.snm.length (is aD b) n i) (.lf (tz 8 x b dp (Oh x.snm.length (fun i=>x.snm.getD i ⟨#[]⟩) (is aD b) b.2.1 same i) (J3 x.snm.length (is aD b) n))):=by
  refine fS _ (nL _ _) 99 1 2 (Zl 8) Zk [(0,sT)] (fun((x:bg),(b:jW),(dp:Bool),(same:Bool),(n:Int),(i:Int),_)=>hdB (Aw 8 x b dp) (tz 8 x b dp) (List.length (α:=ByteArray) x.2.2.2.2.2.2.1) (fun i=>x.snm.getD i ⟨#[]⟩) (is aD b) b.2.1 same n i)
   (fun((x:bg),_,_,_,_,(i:Int),_)=>x.snm.length-i.toNat) ?_
  rintro⟨(x:bg),(b:jW),(dp:Bool),(same:Bool),(n:Int),(i:Int),_⟩ r rG ⟨hp,hr⟩;have hl2:List.length (α:=ByteArray) x.2.2.2.2.2.2.1=x.snm.length:=(aaH (α:=ByteArray)).symm;have hl:x.snm.length≤9223372036854775807:=hl2▸(rG.1.2.2.2.2.2.2.1:List.length (α:=ByteArray) x.2.2.2.2.2.2.1≤_);obtain⟨q,h1,h2⟩:=Hw (Aw 8 x b dp) (tz 8 x b dp) x.snm.length (fun i=>x.snm.getD i ⟨#[]⟩) (is aD b) b.2.1 (same:=same) hl hp;refine⟨q,by show T.hit (hdB _ _ (List.length (α:=ByteArray) x.2.2.2.2.2.2.1) _ _ _ _ _ _) _;rw[hl2];exact h1,?_⟩;rcases h2 with rfl|⟨s',n',rfl,h3,h4,h5,h6⟩
  ·exact hr
  ·refine⟨?_,h4,?_⟩
   ·have:=hp.1;show x.snm.length-(i+1).toNat<x.snm.length-i.toNat;omega
   ·show tz _ _ _ _ _ _=_;rw[h5,h6];exact hr
abbrev SR:=XV×bg×Unit
def Qg (x:bg) (line c:Int):T SR:=.nd ((0:Int)≠c) (.lf (Iw (.tup []) (x.note c line)))
def Xu (x:bg) (b:av) (dp:Bool):T SR:=.br (!dp) (.br (decide (Lib.idxOfS x.seen b.kind≥0)) (Qg x b.line 3) (.lf (Iw (.tup []) x))) (.lf (Iw (.tup []) x))
def Sz (x:bg) (b:av) (dp:Bool):T SR:=.br (!dp) (.br (!(b.name.toList==(⟨#[]⟩:ByteArray).toList)) (Qg x b.line 2) (Xu x b dp)) (Xu x b dp)
def Of (x:bg) (b:av) (dp:Bool) (n:Int):T SR:=.br (b.kind.toList==aD.toList) (.br (decide (n≥6)) (Qg x b.line 7) (Sz x b dp)) (Sz x b dp)
def Xv (x:bg) (b:av) (dp:Bool) (n:Int):T SR:=.br (b.kind.toList==af.toList) (.br (decide (n≥4)) (Qg x b.line 7) (Of x b dp n)) (Of x b dp n)
def SA (x:bg) (b:av) (dp same:Bool) (n:Int):T SR:=.br dp (.br same (Qg x b.line 3) (Xv x b dp n)) (Xv x b dp n)
def Xw (x:bg) (b:av) (dp same:Bool) (n:Int):T SR:=.br dp (.nd (b.name.size≤9223372036854775807) (.br (!iS b.name.data.toList) (Qg x b.line 8) (.br (decide ((b.name.size:Int)>24)) (Qg x b.line 8) (SA x b dp same n)))) (SA x b dp same n)
def abV (x:bg) (b:av) (dp same:Bool) (n:Int):T SR:=.br dp (.br (b.name.toList==(⟨#[]⟩:ByteArray).toList) (Qg x b.line 6) (Xw x b dp same n)) (Xw x b dp same n)
def Xx (x:bg) (b:av) (dp same:Bool) (n:Int):T SR:=.br (aJ b.kind).isEmpty (Qg x b.line 2) (abV x b dp same n)
def Og (x:bg) (b:av):Bool:=Oh x.snm.length (fun i=>x.snm.getD i ⟨#[]⟩) (b.kind.toList==aD.toList) b.name (Oh x.cont.length (fun i=>(x.cont.getD i ah.zero).name) (b.kind.toList==af.toList) b.name false 0) 0
def Fq (x:bg) (b:av):Int:=J3 x.snm.length (b.kind.toList==aD.toList) (J3 x.cont.length (b.kind.toList==af.toList) 0)
def Xy (x:bg) (b:av) (dp:Bool):T SR:=.nd (Zj x.cont.length (b.kind.toList==af.toList) 0 0) (.nd (Zj x.snm.length (b.kind.toList==aD.toList) (J3 x.cont.length (b.kind.toList==af.toList) 0) 0) (Xx x b dp (Og x b) (Fq x b)))
theorem px {α:Type} {F:Int→α} {a b:Bool} {X Y:T α} {P:Prop} [Decidable P] {c d:Int} (hP:P↔a=true∧b=true) (hX:X.hit (F c)) (hY:Y.hit (F d)):(T.br a (.br b X Y) Y).hit (F (if P then c else d)):=by
 by_cases h:P
 ·rw[if_pos h];exact bf (hP.1 h).1 (bf (hP.1 h).2 hX)
 ·rw[if_neg h];cases a with
  | false=>exact bw rfl hY
  | true=>exact bf rfl (bw (by cases b with|false=>rfl|true=>exact absurd (hP.2 ⟨rfl,rfl⟩) h) hY)
theorem Z4 {α:Type} {F:Int→α} {a b:Bool} {X Y:T α} {P:Prop} [Decidable P] {c d:Int} (hP:P↔a=true∨b=true) (hX:X.hit (F c)) (hY:Y.hit (F d)):(T.br a X (.br b X Y)).hit (F (if P then c else d)):=by
 by_cases h:P
 ·rw[if_pos h];cases a with
  | true=>exact bf rfl hX
  | false=>exact bw rfl (bf (by cases b with|true=>rfl|false=>rcases hP.1 h with h|h<;>cases h) hX)
 ·rw[if_neg h];cases a with
  | true=>exact absurd (hP.2 (.inl rfl)) h
  | false=>exact bw rfl (bw (by cases b with|false=>rfl|true=>exact absurd (hP.2 (.inr rfl)) h) hY)
theorem LS {α:Type} {F:Int→α} {a:Bool} {X Y:T α} {P:Prop} [Decidable P] {c d:Int} (hP:P↔a=true) (hX:X.hit (F c)) (hY:Y.hit (F d)):(T.br a X Y).hit (F (if P then c else d)):=by
 by_cases h:P
 ·rw[if_pos h];exact bf (hP.1 h) hX
 ·rw[if_neg h];exact bw (by cases a with|false=>rfl|true=>exact absurd (hP.2 rfl) h) hY
def Hy (x:bg) (line c:Int):SR:=Iw (.tup []) (x.note c line)
theorem kX {x:bg} {line c:Int} (h:(0:Int)≠c):(Qg x line c).hit (Hy x line c):=⟨h,rfl⟩
theorem zm {x y:ByteArray}:(x.toList==y.toList)=true↔x=y:=by rw[eu,decide_eq_true_eq]
theorem Sy (x:bg) (b:av) (hs:b.name.size≤9223372036854775807) (dp:Bool) (hm:dp=iQ b.kind):(Xx x b dp (Og x b) (Fq x b)).hit (Hy x b.line (jS x.r b.kind b.name)):=by
 have fv:b.kind=af→b.kind≠aD:=fun h e=>absurd (h.symm.trans e) (by decide);have hc:(b.kind.toList==af.toList)=decide (b.kind=af):=eu;have fK:(b.kind.toList==aD.toList)=decide (b.kind=aD):=eu;have hE:dp=true→(Og x b=true↔((b.kind=af∧(x.cont.any fun c=>decide (c.name=b.name))=true)∨(b.kind=aD∧(x.styl.any fun c=>decide (c.name=b.name))=true))):=fun _=>by
  unfold Og Oh;have eM:(x.styl.any fun c=>decide (c.name=b.name))=x.snm.any fun n=>decide (n=b.name):=by unfold bg.styl;rw[List.any_map];rfl
  rw[eM,hc,fK,Int.toNat_zero,CC (fun s:ByteArray=>s) ⟨#[]⟩ b.name x.snm 0 (abS _),CC (fun s:ah=>s.name) ah.zero b.name x.cont 0 (abS _),acC,acC];simp
 have hN1:b.kind=af→Fq x b=x.cont.length:=fun h=>by
  unfold Fq J3;rw[hc,fK,decide_eq_true h,decide_eq_false (fv h)];rfl
 have hN2:b.kind=aD→Fq x b=x.styl.length:=fun h=>by
  unfold Fq J3 bg.styl;rw[fK,decide_eq_true h,acn];rfl
 unfold Xx jS;refine LS (F:=Hy x b.line) (by rw[List.isEmpty_iff]) (kX (by decide)) ?_;unfold abV;refine px (F:=Hy x b.line) (by rw[hm,zm]) (kX (by decide)) ?_;have h4:(SA x b dp (Og x b) (Fq x b)).hit (Hy x b.line (if iQ b.kind=true∧((b.kind=af∧(x.r.e.cont.any fun c=>decide (c.name=b.name))=true)∨(b.kind=aD∧(x.r.e.styl.any fun c=>decide (c.name=b.name))=true)) then 3 else if(b.kind=af∧4≤x.r.e.cont.length)∨(b.kind=aD∧6≤x.r.e.styl.length) then 7 else if iQ b.kind=false∧b.name≠⟨#[]⟩ then 2 else if iQ b.kind=false∧bF x.r.seen b.kind=true then 3 else 0)):=by
  unfold SA;refine px (F:=Hy x b.line) ⟨fun⟨h1,h2⟩=>⟨hm.trans h1,(hE (hm.trans h1)).2 h2⟩,fun⟨h1,h2⟩=>⟨hm.symm.trans h1,(hE h1).1 h2⟩⟩ (kX (by decide)) ?_;have h6:(Sz x b dp).hit (Hy x b.line (if iQ b.kind=false∧b.name≠⟨#[]⟩ then 2 else if iQ b.kind=false∧bF x.r.seen b.kind=true then 3 else 0)):=by
   unfold Sz;refine px (F:=Hy x b.line) (by rw[hm,eu];simp) (kX (by decide)) ?_;unfold Xu;refine px (F:=Hy x b.line) (by rw[hm];unfold bF;simp;exact fun _=>Iff.rfl) (kX (by decide)) ?_;exact congrArg (Iw _) (uw _).symm
  unfold Xv Of;by_cases h1:b.kind=af
  ·refine bf (by rw[hc];exact decide_eq_true h1) ?_;refine LS (F:=Hy x b.line) ?_ (kX (by decide)) (bw (by rw[fK];exact decide_eq_false (fv h1)) h6);rw[hN1 h1,decide_eq_true_eq];exact⟨fun h=>h.elim (fun h=>Int.ofNat_le.2 h.2) fun h=>absurd h.1 (fv h1),fun h=>.inl ⟨h1,Int.ofNat_le.1 h⟩⟩
  ·refine bw (by rw[hc];exact decide_eq_false h1) ?_;refine px (F:=Hy x b.line) ?_ (kX (by decide)) h6;rw[fK,decide_eq_true_eq,decide_eq_true_eq];exact⟨fun h=>h.elim (fun h=>absurd h.1 h1) fun h=>⟨h.1,by rw[hN2 h.1];exact Int.ofNat_le.2 h.2⟩,fun h=>.inr ⟨h.1,by have:=h.2;rw[hN2 h.1] at this;exact Int.ofNat_le.1 this⟩⟩
 unfold Xw;cases dp with
 | false=>
  refine bw rfl ?_;rw[if_neg (by rw[←hm];simp)];exact h4
 | true=>
  refine bf rfl ⟨hs,Z4 (F:=Hy x b.line) ?_ (kX (by decide)) h4⟩;rw[←hm];simp only[true_and,acD,decide_eq_true_eq];exact or_congr Iff.rfl (by show 24<b.name.size↔(24:Int)<(b.name.size:Int);omega)
theorem Od:fV Tryz.prog 82 [0] [(0,sT),(1,sBk)] [(0,sT)] fun((x:bg),(b:av),_)=>.nd (b.name.size≤9223372036854775807) (.lf (Iw (.tup []) (x.note (jS x.r b.kind b.name) b.line))):=by
 refine kx (C:=C3) (pb:=[0]) (((nL _ _).add 0 _ Oc).add 1 _ Ob) 99 [(0,sT),(1,sBk)] [(0,sT)] (fun((x:bg),(b:av),_)=>.br (b.kind.toList==af.toList) (Xy x b true) (Xy x b (b.kind.toList==aD.toList))) ?_ Tryz.func82;rintro⟨(x:bg),(b:av),_⟩ r rG ⟨hs,hr⟩;obtain rfl:Hy x b.line (jS x.r b.kind b.name)=r:=hr;have h0:∀dp,dp=iQ b.kind→(Xy x b dp).hit (Hy x b.line (jS x.r b.kind b.name)):=fun dp hm=>by
  refine⟨⟨by omega,by omega,fun _=>rfl⟩,⟨by omega,by omega,fun h=>?_⟩,Sy x b hs dp hm⟩;unfold J3;rw[eu,decide_eq_false fun e=>absurd (e.symm.trans (zm.1 h)) (by decide)];rfl
 by_cases h:b.kind=af
 ·exact bf (zm.2 h) (h0 true (by unfold iQ;rw[decide_eq_true h];rfl))
 ·refine bw (by rw[eu];exact decide_eq_false h) (h0 _ ?_);unfold iQ;rw[decide_eq_false h,eu];rfl
abbrev VH:SS:=.box 95 [.d .str,.d (.list .str),.d tI,.d tI,.d tI,.d tI,.d tI,.d tI,.d tI]
abbrev aaw:List Nat:=[0,1,2,3,4,5,6,7,8,9,10,11,12,13,14,15,16,17,18]
abbrev ox:=fc [.d .str,.d (.list .str),.d tI,.d tI,.d tI,.d tI,.d tI,.d tI,.d tI]
def K2 (c:ah):ox:=(c.name,c.cands,c.method,c.seats,c.ranks,c.digits,c.ties,c.over,c.skip,())
def K4 (c:ox):ah:=⟨c.1,c.2.1,c.2.2.1,c.2.2.2.1,c.2.2.2.2.1,c.2.2.2.2.2.1,c.2.2.2.2.2.2.1,c.2.2.2.2.2.2.2.1,c.2.2.2.2.2.2.2.2.1⟩
noncomputable def C4:iZ Tryz.prog:=d9 rO [⟨_,_,_,find_ok⟩,⟨_,_,_,nM⟩,⟨_,_,_,qg⟩,⟨_,_,_,zU⟩,⟨_,_,_,oA⟩,⟨_,_,_,qK⟩] [⟨_,_,_,_,_,kw⟩,⟨_,_,_,_,_,rK⟩,⟨_,_,_,_,_,Nw⟩,⟨_,_,_,_,_,Tx⟩,⟨_,_,_,_,_,Bz⟩,⟨_,_,_,_,_,vM⟩]
def fOk (f:ao):Prop:=Eu f.vals∧f.vals.length≤1099511627776
theorem Bn {l:List ByteArray} (h:Eu l):(bi l).size≤9223372036854775807:=by
 unfold bi;split
 ·exact abS _
 ·match l with
  | []=>exact abS _
  | x::_=>exact h x aaS
theorem jU {α β:Type} {F:α→β} {b:Bool} {X Y:T β} {P:Prop} [Decidable P] {c d:α} (hP:P↔b=true) (hX:X.hit (F c)) (hY:Y.hit (F d)):(T.br b X Y).hit (F (if P then c else d)):=by
 by_cases h:P
 ·rw[if_pos h];exact bf (hP.1 h) hX
 ·rw[if_neg h];exact bw (by cases b with|false=>rfl|true=>exact absurd (hP.2 rfl) h) hY
abbrev CR3:=XV×gK×ox×Unit
def Ih (x:gK) (line:Int) (v:ah×Int):CR3:=(.tup [],x.note v.2 line,K2 v.1,())
def ctI (x:gK) (f:ao) (v:ah×Int):T CR3:=.nd ((bi f.vals).size≤9223372036854775807) (.lf (Ih x f.line v))
def ctW (x:gK) (f:ao) (w:List ByteArray) (v:ah×Int):T CR3:=.nd (w.length≤99) (.lf (Ih x f.line v))
def O0 (x:gK) (c:ah) (f:ao):T CR3:=
 .br (f.key.toList==aM.toList) (ctW x f ew ({ c with method:=iD f.vals ew },jp f.vals ew))
 (.br (f.key.toList==bc.toList) (ctI x f ({ c with seats:=i6 f.vals },jo f.vals 1 5))
 (.br (f.key.toList==bP.toList) (ctI x f ({ c with ranks:=i6 f.vals },jo f.vals 1 7))
 (.br (f.key.toList==az.toList) (ctI x f ({ c with digits:=i6 f.vals },jo f.vals 1 6))
 (.br (f.key.toList==cV.toList) (ctW x f iH ({ c with ties:=iD f.vals iH },jp f.vals iH))
 (.br (f.key.toList==aU.toList) (ctW x f iJ ({ c with over:=iD f.vals iJ },jp f.vals iJ))
 (.br (f.key.toList==cW.toList) (ctW x f iI ({ c with skip:=iD f.vals iI },jp f.vals iI))
 (.nd (Eu f.vals∧(0:Int)≤7∧f.vals.length≤1099511627776) (.lf (Ih x f.line ({ c with cands:=f.vals },eD f.vals 7))))))))))
theorem OZ:fV Tryz.prog 84 aaw [(0,sN),(1,VH),(2,sF)] [(0,sN),(1,VH)] fun((x:gK),(c:ox),(f:ao),_)=>.nd (fOk f) (.lf (Ih x f.line (fp (K4 c) f))):=by
 refine kx (C:=C4) (pb:=aaw) (nL _ _) 99 [(0,sN),(1,VH),(2,sF)] [(0,sN),(1,VH)] (fun((x:gK),(c:ox),(f:ao),_)=>O0 x (K4 c) f) ?_ Tryz.func84;rintro⟨(x:gK),(c:ox),(f:ao),_⟩ r _ ⟨⟨h1,h2⟩,hr⟩;obtain rfl:Ih x f.line (fp (K4 c) f)=r:=hr;have hi:∀v,(ctI x f v).hit (Ih x f.line v):=fun v=>⟨Bn h1,rfl⟩;have hw:∀w v,w.length≤99→(ctW x f w v).hit (Ih x f.line v):=fun w v h=>⟨h,rfl⟩;show(O0 x (K4 c) f).hit _;unfold O0 fp;exact jU (F:=Ih x f.line) zm.symm (hw _ _ (by decide)) (jU (F:=Ih x f.line) zm.symm (hi _) (jU (F:=Ih x f.line) zm.symm (hi _) (jU (F:=Ih x f.line) zm.symm (hi _) (jU (F:=Ih x f.line) zm.symm (hw _ _ (by decide)) (jU (F:=Ih x f.line) zm.symm (hw _ _ (by decide)) (jU (F:=Ih x f.line) zm.symm (hw _ _ (by decide)) ⟨⟨h1,by decide,h2⟩,rfl⟩))))))
end Go.Proofs.YtjlhbfbdcfajfaaGreatDoor
