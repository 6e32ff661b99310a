/- MEff MEfb -/
import Derived.Test.YtdbpbfglhbiadaaGreatDoorL00
import Derived.Test.YtdbpbfglhbiadaaGreatDoorL29
set_option maxHeartbeats 8000000
set_option maxRecDepth 100000
namespace Go.Proofs.YtdbpbfglhbiadaaGreatDoor
open Go Go.RowKit
def gi (P:Program) (f:FuncId) (pb:List Nat) (l0 lr:List (Nat×SS)) (F:cF l0→T (XV×cF lr)):Prop:=
 ∀(cx:Cx) (bs:List Value) (S:Nat→Prop) (vs:List Value) (x:cF l0) (r:XV) (z:cF lr),cx.pb=pb→(∀b,S b→cx.S0 b)→HS cx bs cx.w0 S (dz l0 x).heap→(∀i y,(i,y)∈(dz l0 x).env→∃v,vs[i]?=some v∧XR bs cx.w0 S y v)→vs.length=l0.length→(F x).hit (r,z)→
  Calls P f vs.toArray cx.w0 fun e w'=>∃v bn S',e=.returned v∧HS cx bn w' S' (dz lr z).heap∧XR [] w' S' r v
structure Em (P:Program) where
 f:FuncId
 pb:List Nat
 l0:List (Nat×SS)
 lr:List (Nat×SS)
 F:cF l0→T (XV×cF lr)
 ok:gi P f pb l0 lr F
def xz:List (Option Nat)→List ai→List ai
 | [],H=>H
 | some o::l,H=>xz l (H.set o .dead)
 | none::l,H=>xz l H
def setB:List (Option Nat)→List ai→List ai→List ai
 | some o::ids,.cells ty cs::ys,H=>setB ids ys (H.set o (.cells ty cs))
 | _::ids,_::ys,H=>setB ids ys H
 | _,_,H=>H
def ai.solid:ai→Bool
 | .row _ _ _=>true
 | .zc _ _ _ _ _ _=>true
 | .mp _ _ _ _=>true
 | .mq _=>true
 | .mr _ _ _ _ _ _=>true
 | _=>false
def zz:List ai→List ai
 | []=>[]
 | y::l=>(bif y.solid then y else .dead)::zz l
def QM (ids:List (Option Nat)) (H ys:List ai):List ai:=setB ids ys (xz ids H)++zz ys
section
variable {cx:Cx} {bs bn us:List Value} {w w':World} {S S':Nat→Prop} {H:List ai}
theorem o6:∀{ids:List (Option Nat)} {H:List ai},(xz ids H).length=H.length
 | [],_=>rfl
 | some o::l,H=>by show(xz l _).length=_;rw[o6,abY]
 | none::l,H=>o6 (ids:=l)
theorem tU:∀{ids:List (Option Nat)} {H:List ai} {i:Nat} {x:ai},(xz ids H)[i]?=some x→x=.dead∨(H[i]?=some x∧some i∉ids)
 | [],_,_,_,h=>.inr ⟨h,by simp⟩
 | some o::l,H,i,x,h=>by
  rcases tU (ids:=l) h with h|⟨h,hn⟩
  ·exact .inl h
  ·by_cases e:o=i
   ·subst e;have hl:=(aag.1 h).1;rw[abY] at hl;rw[aaQ hl] at h;exact .inl (aal h).symm
   ·rw[aaK e] at h;exact .inr ⟨h,fun hm=>by rcases aaP.1 hm with q|q;(· injection q with q;exact e q.symm);exact hn q⟩
 | none::l,H,i,x,h=>by
  rcases tU (ids:=l) (H:=H) h with h|⟨h,hn⟩
  ·exact .inl h
  ·exact .inr ⟨h,fun hm=>by rcases aaP.1 hm with q|q;(· cases q);exact hn q⟩
theorem ga:∀{ids:List (Option Nat)} {ys H:List ai},(setB ids ys H).length=H.length
 | some o::ids,.cells ty cs::ys,H=>by show(setB ids ys _).length=_;rw[ga,abY]
 | some o::ids,.row t e rs::ys,H=>ga (ids:=ids) (ys:=ys)
 | some o::ids,.dead::ys,H=>ga (ids:=ids) (ys:=ys)
 | some o::ids,.zc _ _ _ _ _ _::ys,H=>ga (ids:=ids) (ys:=ys)
 | some o::ids,.zip _ _ _ _ _ _ _ _::ys,H=>ga (ids:=ids) (ys:=ys)
 | some o::ids,.mp _ _ _ _::ys,H=>ga (ids:=ids) (ys:=ys)
 | some o::ids,.mq _::ys,H=>ga (ids:=ids) (ys:=ys)
 | some o::ids,.mr _ _ _ _ _ _::ys,H=>ga (ids:=ids) (ys:=ys)
 | some o::ids,.mx _ _ _ _ _ _ _::ys,H=>ga (ids:=ids) (ys:=ys)
 | none::ids,_::ys,H=>ga (ids:=ids) (ys:=ys)
 | [],_,H=>by unfold setB;rfl
 | some _::_,[],H=>by unfold setB;rfl
 | none::_,[],H=>by unfold setB;rfl
theorem gF:∀{ids:List (Option Nat)} {ys H:List ai} {i:Nat} {x:ai},(setB ids ys H)[i]?=some x→H[i]?=some x∨∃(k:Nat) (ty:TypeId) (cs:List AV),x=.cells ty cs∧ids[k]?=some (some i)∧ys[k]?=some (.cells ty cs)
 | some o::ids,.cells ty cs::ys,H,i,x,h=>by
  rcases gF (ids:=ids) (ys:=ys) h with h|⟨k,pZ,iQ,e,h1,h2⟩
  ·by_cases e:o=i
   ·subst e;have hl:=(aag.1 h).1;rw[abY] at hl;rw[aaQ hl] at h;exact .inr ⟨0,ty,cs,(aal h).symm,rfl,rfl⟩
   ·rw[aaK e] at h;exact .inl h
  ·exact .inr ⟨k+1,pZ,iQ,e,h1,h2⟩
 | some o::ids,.row t e rs::ys,H,i,x,h=>by
  rcases gF (ids:=ids) (ys:=ys) (H:=H) h with h|⟨k,pZ,iQ,e,h1,h2⟩
  ·exact .inl h
  ·exact .inr ⟨k+1,pZ,iQ,e,h1,h2⟩
 | some o::ids,.dead::ys,H,i,x,h=>by
  rcases gF (ids:=ids) (ys:=ys) (H:=H) h with h|⟨k,pZ,iQ,e,h1,h2⟩
  ·exact .inl h
  ·exact .inr ⟨k+1,pZ,iQ,e,h1,h2⟩
 | some o::ids,.zc _ _ _ _ _ _::ys,H,i,x,h=>by
  rcases gF (ids:=ids) (ys:=ys) (H:=H) h with h|⟨k,pZ,iQ,e,h1,h2⟩
  ·exact .inl h
  ·exact .inr ⟨k+1,pZ,iQ,e,h1,h2⟩
 | some o::ids,.zip _ _ _ _ _ _ _ _::ys,H,i,x,h=>by
  rcases gF (ids:=ids) (ys:=ys) (H:=H) h with h|⟨k,pZ,iQ,e,h1,h2⟩
  ·exact .inl h
  ·exact .inr ⟨k+1,pZ,iQ,e,h1,h2⟩
 | some o::ids,.mp _ _ _ _::ys,H,i,x,h=>by
  rcases gF (ids:=ids) (ys:=ys) (H:=H) h with h|⟨k,pZ,iQ,e,h1,h2⟩
  ·exact .inl h
  ·exact .inr ⟨k+1,pZ,iQ,e,h1,h2⟩
 | some o::ids,.mq _::ys,H,i,x,h=>by
  rcases gF (ids:=ids) (ys:=ys) (H:=H) h with h|⟨k,pZ,iQ,e,h1,h2⟩
  ·exact .inl h
  ·exact .inr ⟨k+1,pZ,iQ,e,h1,h2⟩
 | some o::ids,.mr _ _ _ _ _ _::ys,H,i,x,h=>by
  rcases gF (ids:=ids) (ys:=ys) (H:=H) h with h|⟨k,pZ,iQ,e,h1,h2⟩
  ·exact .inl h
  ·exact .inr ⟨k+1,pZ,iQ,e,h1,h2⟩
 | some o::ids,.mx _ _ _ _ _ _ _::ys,H,i,x,h=>by
  rcases gF (ids:=ids) (ys:=ys) (H:=H) h with h|⟨k,pZ,iQ,e,h1,h2⟩
  ·exact .inl h
  ·exact .inr ⟨k+1,pZ,iQ,e,h1,h2⟩
 | none::ids,_::ys,H,i,x,h=>by
  rcases gF (ids:=ids) (ys:=ys) (H:=H) (by simpa[setB] using h) with h|⟨k,pZ,iQ,e,h1,h2⟩
  ·exact .inl h
  ·exact .inr ⟨k+1,pZ,iQ,e,h1,h2⟩
 | [],_,H,i,x,h=>by unfold setB at h;exact .inl h
 | some _::_,[],H,i,x,h=>by unfold setB at h;exact .inl h
 | none::_,[],H,i,x,h=>by unfold setB at h;exact .inl h
theorem zx:∀{ys:List ai},(zz ys).length=ys.length
 | []=>rfl
 | _::l=>by show(zz l).length+1=_;rw[zx];rfl
theorem zy:∀{ys:List ai} {i:Nat} {x:ai},(zz ys)[i]?=some x→x=.dead∨(ys[i]?=some x∧x.solid=true)
 | y::l,0,x,h=>by
  have h:(bif y.solid then y else .dead)=x:=aal h;cases e:y.solid with
  | true=>rw[e] at h;have h:y=x:=h;subst h;exact .inr ⟨rfl,e⟩
  | false=>rw[e] at h;exact .inl h.symm
 | _::l,i+1,x,h=>zy (ys:=l) (i:=i) (by simpa[zz] using h)
 | [],_,_,h=>by cases h
theorem vW.same {p n:Nat} {kt:Kt} {t:Ty} {e:TypeId} {f:kt.K→Option (List (El t))} {x:kt.K→Prop} {v:Value} (h:vW bs w S p kt t e n f x v) (hb:∀c,yA kt x v c→w'.heap[c]?=w.heap[c]?) (hk:aA S w w') (hS:∀b,S b→S' b) (hn:∀c,S' c→c<w'.heap.size∧¬yA kt x v c) (GO:jB bs bn):vW bn w' S' p kt t e n f x v:=by
 obtain⟨b,l,g,rfl,h1,h2,h3,h4,h5,h6⟩:=h;have yD:∀k u c,¬x k→g k=some u→u.ownBlock=some c→yA kt x (uk b l) c:=fun k u c hx hu hc=>⟨b,l,rfl,.inr ⟨k,u,hx,(h3 k u).1 hu,hc⟩⟩;refine⟨b,l,g,rfl,GO _ _ h1 rfl,h2.same (hb b ⟨b,l,rfl,.inl rfl⟩),h3,fun k hx=>?_,h5,h6⟩;have:=h4 k hx;cases hf:f k with
 | none=>rw[hf] at this;exact this
 | some xs=>
  rw[hf] at this;obtain⟨u,hu,cs,⟨q1,q2⟩,q3,q4⟩:=this;refine⟨u,hu,cs,⟨q1,?_⟩,q3.keep hS hk,fun c hc=>⟨(hn c hc).1,fun e=>(hn c hc).2 (yD k u c hx hu e.symm)⟩⟩;rcases q2 with q2|⟨g',cap,cur,rfl,r3,r4,r5⟩
  ·exact .inl q2
  ·exact .inr ⟨g',cap,cur,rfl,r3,(hb g' (yD k _ g' hx hu rfl)).trans r4,r5⟩
theorem OR.same {x:ai} {v:Value} (h:OR bs w S x v) (hb:∀b,Bk x v b→w'.heap[b]?=w.heap[b]?) (_:w.heap.size≤w'.heap.size) (hk:aA S w w') (hS:∀b,S b→S' b) (hn:∀b,S' b→b<w'.heap.size∧¬Bk x v b) (GO:jB bs bn):OR bn w' S' x v:=by
 cases x with
 | cells ty cs=>
  obtain⟨g,vs,rfl,h1,h2⟩:=h;exact⟨g,vs,rfl,(hb g rfl).trans h1,h2.mono fun _ _ h=>h.keep hS hk GO⟩
 | row t e rs=>
  obtain⟨cs,⟨q1,q2⟩,h2,h3⟩:=h;refine⟨cs,⟨q1,?_⟩,h2.keep hS hk,fun b nQ=>⟨(hn b nQ).1,fun e=>(hn b nQ).2 e.symm⟩⟩;rcases q2 with q2|⟨g,cap,cur,rfl,q3,q4,q5⟩
  ·exact .inl q2
  ·exact .inr ⟨g,cap,cur,rfl,q3,(hb g rfl).trans q4,q5⟩
 | zc e t tn im done rest=>
  obtain⟨bS,⟨cs,⟨q1,q2⟩,h2,h3⟩,hz⟩:=h;refine⟨bS,⟨cs,⟨q1,?_⟩,h2.keep hS hk,fun b nQ=>⟨(hn b nQ).1,fun e=>(hn b nQ).2 e.symm⟩⟩,hz.keep hS hk⟩;rcases q2 with q2|⟨g,cap,cur,rfl,q3,q4,q5⟩
  ·exact .inl q2
  ·exact .inr ⟨g,cap,cur,rfl,q3,(hb g rfl).trans q4,q5⟩
 | zip o2 e t tn im done cur rest=>
  obtain⟨bS,⟨cs,⟨q1,q2⟩,h2,h3⟩,hz,hl,u,tX,ti,hu3⟩:=h;refine⟨bS,⟨cs,⟨q1,?_⟩,h2.keep hS hk,fun b nQ=>⟨(hn b nQ).1,fun e=>(hn b nQ).2 e.symm⟩⟩,hz.keep hS hk GO,hl,u,GO _ _ tX ti,ti,hu3⟩;rcases q2 with q2|⟨g,cap,cur,rfl,q3,q4,q5⟩
  ·exact .inl q2
  ·exact .inr ⟨g,cap,cur,rfl,q3,(hb g rfl).trans q4,q5⟩
 | dead=>exact trivial
 | mp kt t n f=>obtain⟨b',g,rfl,h1,h2⟩:=h;exact⟨b',g,rfl,h1.same (hb b' rfl),fun k=>(h2 k).keep hS hk⟩
 | mq q=>exact h
 | mr p kt t e n f=>exact vW.same h hb hk hS hn GO
 | mx p kt t e n f k=>exact vW.same h hb hk hS hn GO
end
inductive Sh (n:Nat):ai→ai→Prop where
 | row {t:Ty} {e:TypeId} {rs:List (El t)}:Sh n (.row t e rs) (.row t e rs)
 | cells {ty:TypeId} {cs iQ:List AV}:(∀(bs bn:List Value) (w:World) (S:Nat→Prop) (vs:List Value),bs.length=n→F2 (VR bn w S) cs vs→F2 (VR (bs++bn) w S) iQ vs)→Sh n (.cells ty cs) (.cells ty iQ)
 | dead:Sh n .dead .dead
 | zc {e:TypeId} {t tn:Ty} {im:Nat} {done:List (El t)} {rest:List (El tn)}:Sh n (.zc e t tn im done rest) (.zc e t tn im done rest)
 | zip {o o':Nat} {e:TypeId} {t tn:Ty} {im:Nat} {done:List (El t)} {cur af7:List AV} {rest:List (El tn)}:Sh n (.zip o e t tn im done cur rest) (.zip o' e t tn im done af7 rest)
 | mp {kt:Kt} {t:Ty} {m:Nat} {f:kt.K→Option (El t)}:Sh n (.mp kt t m f) (.mp kt t m f)
 | mq {q q':Nat}:Sh n (.mq q) (.mq q')
 | mr {p:Nat} {kt:Kt} {t:Ty} {e:TypeId} {m:Nat} {f:kt.K→Option (List (El t))}:Sh n (.mr p kt t e m f) (.mr (n+p) kt t e m f)
theorem Sh.solid {n:Nat} {y0 y:ai} (h:Sh n y0 y) (hs:y.solid=true):(∀u b,Bk y u b→Bk y0 u b)∧∀(bs bn:List Value) (w:World) (S:Nat→Prop) (u:Value),bs.length=n→OR bn w S y0 u→OR (bs++bn) w S y u:=by
 cases h with
 | row=>exact⟨fun _ _ h=>h,fun _ _ _ _ _ _ h=>h⟩
 | zc=>exact⟨fun _ _ h=>h,fun _ _ _ _ _ _ h=>h⟩
 | mp=>exact⟨fun _ _ h=>h,fun _ _ _ _ _ _ h=>h⟩
 | mq=>exact⟨fun _ _ h=>h,fun _ _ _ _ _ _ h=>h⟩
 | mr=>
  refine⟨fun _ _ h=>h,fun bs bn w S u hl ⟨b,l,g,e,h1,r⟩=>⟨b,l,g,e,?_,r⟩⟩;rw[←hl,aam (by omega),abK];exact h1
 | _=>cases hs
section
variable {n:Nat}
theorem YU {bs bn:List Value} {w:World} {S:Nat→Prop} {t:Ty} {x:El t} {v:Value} (h:VR bs w S (one t x) v):VR bn w S (one t x) v:=by
 cases t<;>exact h
theorem IT {s:ZS} {x:ZV s} {k j:Nat}:(DL k s x).2.length=(DL j s x).2.length:=by cases s<;>rfl
theorem DK:∀{l:List ZS} {x:Co l} {k j:Nat},(tP k l x).2.length=(tP j l x).2.length
 | [],_,_,_=>rfl
 | s::l,x,k,j=>by
  show((DL k s x.1).2++_).length=((DL j s x.1).2++_).length;rw[aaD,aaD,IT (k:=k) (j:=j),DK (l:=l)]
theorem IS:∀{l:List ZS} {x:Co l} {k:Nat},F2 (Sh n) (tP k l x).2 (tP (n+k) l x).2
 | [],_,_=>.nil
 | s::l,x,k=>by
  have h1:F2 (Sh n) (DL k s x.1).2 (DL (n+k) s x.1).2:=by
   cases s with
   | d t=>exact .nil
   | own t e=>exact .cons .row .nil
   | any=>exact .cons .dead .nil
  have h3:=IS (l:=l) (x:=x.2) (k:=k+(DL k s x.1).2.length);have e:n+(k+(DL k s x.1).2.length)=n+k+(DL (n+k) s x.1).2.length:=by rw[IT (k:=k) (j:=n+k)];omega
  rw[e] at h3;exact h1.append h3
theorem OT {s:CS} {x:CV s} {k:Nat}:F2 (Sh n) (vj k s x).2 (vj (n+k) s x).2∧∀(bs bn:List Value) (w:World) (S:Nat→Prop) (v:Value),bs.length=n→VR bn w S (vj k s x).1 v→VR (bs++bn) w S (vj (n+k) s x).1 v:=by
 cases s with
 | d t=>exact⟨.nil,fun bs bn w S v _ h=>YU h⟩
 | own t e=>
  refine⟨.cons .row .nil,fun bs bn w S v hl h=>⟨?_,h.2⟩⟩;rw[←hl,aam (by omega),abK];exact h.1
 | any=>
  refine⟨.cons .dead .nil,fun bs bn w S v hl h=>⟨?_,h.2⟩⟩;rw[←hl,aam (by omega),abK];exact h.1
 | zc t tn e=>
  refine⟨.cons .zc .nil,fun bs bn w S v hl h=>⟨?_,h.2⟩⟩;rw[←hl,aam (by omega),abK];exact h.1
 | zip t tn e zs=>
  refine⟨.cons .zip (.cons .dead ?_),fun bs bn w S v hl h=>⟨?_,h.2⟩⟩
  ·have:=IS (n:=n) (l:=zs) (x:=x.2.2.1) (k:=k+2)
   rwa [←aci] at this
  ·rw[←hl,aam (by omega),abK];exact h.1
 | mp kt t=>
  refine⟨.cons .mp .nil,fun bs bn w S v hl h=>⟨?_,h.2⟩⟩;rw[←hl,aam (by omega),abK];exact h.1
 | mr kt t e=>
  refine⟨.cons .mq (.cons .mr .nil),fun bs bn w S v hl h=>⟨?_,h.2⟩⟩;rw[←hl,aam (by omega),abK];exact h.1
theorem TR {s:CS} {x:CV s} {k j:Nat}:(vj k s x).2.length=(vj j s x).2.length:=by
 cases s with
 | zip t tn e zs=>
  show(tP (k+2) zs x.2.2.1).2.length+1+1=(tP (j+2) zs x.2.2.1).2.length+1+1;rw[DK]
 | _=>rfl
theorem IV:∀{l:List CS} {x:eT l} {k:Nat},F2 (Sh n) (tR k l x).2 (tR (n+k) l x).2∧∀(bs bn:List Value) (w:World) (S:Nat→Prop) (vs:List Value),bs.length=n→F2 (VR bn w S) (tR k l x).1 vs→F2 (VR (bs++bn) w S) (tR (n+k) l x).1 vs
 | [],_,_=>⟨.nil,fun _ _ _ _ _ _ h=>by cases h;exact .nil⟩
 | s::l,x,k=>by
  obtain⟨h1,h2⟩:=OT (n:=n) (s:=s) (x:=x.1) (k:=k);obtain⟨h3,h4⟩:=IV (l:=l) (x:=x.2) (k:=k+(vj k s x.1).2.length);have e:n+(k+(vj k s x.1).2.length)=n+k+(vj (n+k) s x.1).2.length:=by rw[TR (k:=k) (j:=n+k)];omega
  rw[e] at h3 h4;refine⟨h1.append h3,fun bs bn w S vs hl h=>?_⟩;cases h with
  | cons q1 q2=>exact .cons (h2 bs bn w S _ hl q1) (h4 bs bn w S _ hl q2)
theorem Y7 {s:SS} {x:SW s} {k:Nat}:F2 (Sh n) (yB k s x).2 (yB (n+k) s x).2:=by
 cases s with
 | c s=>exact(OT (n:=n) (s:=s) (x:=x) (k:=k)).1
 | st q=>exact .nil
 | fn k=>exact .nil
 | rf k=>exact .nil
 | cl k t=>exact .nil
 | sb o o2=>exact .nil
 | box ty cs=>
  obtain⟨h3,h4⟩:=IV (n:=n) (l:=cs) (x:=x) (k:=k+1);exact .cons (.cells h4) h3
theorem OS:∀{l:List (Nat×SS)} {x:cF l} {k:Nat},F2 (Sh n) (tQ k l x).2 (tQ (n+k) l x).2
 | [],_,_=>.nil
 | p::l,x,k=>by
  have h1:=Y7 (n:=n) (s:=p.2) (x:=x.1) (k:=k);have h2:=OS (l:=l) (x:=x.2) (k:=k+(yB k p.2 x.1).2.length);have e:n+(k+(yB k p.2 x.1).2.length)=n+k+(yB (n+k) p.2 x.1).2.length:=by rw[h1.length];omega
  rw[e] at h2;exact h1.append h2
end
def JL (ys:List ai):List Nat:=(List.range ys.length).filter fun i=>match ys[i]? with
 | some (.cells _ _)=>true
 | _=>false
def JC (ids:List (Option Nat)):Bool:=Eb [] ids
def abd {P:Program} (E:Em P) (_:Env) (H:List ai) (xs:Option (List XV)):T (XV×List ai):=match xs with
 | some xs=>match Ds H (sa 0 xs) E.l0 with
  | some (x,ids)=>if Qz P E.f&&JC ids&&xs.length==E.l0.length&&JL (dz E.l0 x).heap==E.pb then (E.F x).bind fun q=>if q.1.free&&JL (tQ H.length E.lr q.2).2==E.pb&&(tQ H.length E.lr q.2).2.length==ids.length then .lf (q.1,QM ids H (tQ H.length E.lr q.2).2) else .bad
   else .bad
  | none=>.bad
 | none=>.bad
section
variable {P:Program} {o:Oper} {cx:Cx} {bs:List Value} {w:World} {S:Nat→Prop} {H:List ai} {m:Nat} {env:Env} {a:Act} {K:Act→World→Prop} {Q:Exit→Act→World→Prop}
theorem AH {ys:List ai} {i:Nat}:i∈JL ys↔∃ty cs,ys[i]?=some (.cells ty cs):=by
 unfold JL;rw[acO,abX];constructor
 ·rintro⟨_,h⟩;split at h
  ·rename_i ty cs e;exact⟨ty,cs,e⟩
  ·cases h
 ·rintro⟨ty,cs,e⟩;exact⟨(aag.1 e).1,by rw[e]⟩
theorem EB {ids:List (Option Nat)} (h:JC ids=true) {i j p:Nat} (hi:ids[i]?=some (some p)) (hj:ids[j]?=some (some p)):i=j:=by
 unfold JC Eb at h;rw[aaI] at h;have h:=h.1;have ME:=(aag.1 hi).1;have hjl:=(aag.1 hj).1;rcases Nat.lt_trichotomy i j with hlt|e|hlt
 ·have:=aaR.1 (aaR.1 h j (abX.2 hjl)) i (abX.2 hlt);rw[hi,hj] at this;simp at this
 ·exact e
 ·have:=aaR.1 (aaR.1 h i (abX.2 ME)) j (abX.2 hlt);rw[hi,hj] at this;simp at this
theorem Vj (hs:HS cx bs w S H) (he:ER m bs w S env a) {E:Em P} {args:Array Operand} {ts:Array TypeId} (hop:o.op=.call { callee:=.value (.func E.f),args:=args,argTypes:=ts }) {r:XV×List ai} (h:(abd E env H (ka env args.toList)).hit r) (hK:∀v w' bn S',HS cx bn w' S' r.2→(∀b,S b→S' b)→aA S w w'→jB bs bn→XR bn w' S' r.1 v→K (a.put o.dst v) w'):o.wp P a w K Q:=by
 unfold abd at h;split at h
 ·rename_i xs PC;split at h
  ·rename_i x ids Sp;split at h
   ·rename_i hc;simp only[aaI,beq_iff_eq] at hc;obtain⟨⟨⟨hfn,mz⟩,bG⟩,nT⟩:=hc;obtain⟨q,h1,h2⟩:=T.hit_bind h;split at h2
    ·rename_i hc2;simp only[aaI,beq_iff_eq] at hc2;obtain⟨⟨xI,akf⟩,Ec⟩:=hc2;obtain⟨r0,z⟩:=q;have h2:(r0,_)=r:=h2;subst h2;have ha:=jP he PC;have W8:ER xs.length bs w S (sa 0 xs) ⟨(args.toList.map a.eval).toArray,[]⟩:=by
      refine⟨rfl,by show(args.toList.map a.eval).toArray.size=_;rw[ab6,ha.length],vM ha fun j v hj=>?_⟩;rw[ab7];simpa using hj
     obtain⟨Sp,Sn⟩:=ID Sp;obtain⟨us,re,kk⟩:=Bl hs W8 Sp 0;obtain⟨k1,k2⟩:=kk us (fun j u hj=>by rw[ab7];exact hj) (Sn _ _);have rl:=re.len
     let M:Nat→Prop:=fun b=>∃(k:Nat) (y:ai) (u:Value),(dz E.l0 x).heap[k]?=some y∧us[k]?=some u∧Bk y u b
     have hM:∀b,M b→∃(k p:Nat) (y:ai) (u:Value),ids[k]?=some (some p)∧H[p]?=some y∧bs[p]?=some u∧us[k]?=some u∧Bk y u b:=by
      rintro b ⟨k,y,u,g1,g2,g3⟩;rcases re.get k y u g1 g2 with⟨p,x1,q1,q2,q3,q4⟩|⟨_,q⟩
      ·exact⟨k,p,x1,u,q1,q2,q3,g2,Ck q4 g3⟩
      ·exact absurd g3 (q b)
     have hMS:∀b,M b→¬S b:=fun b hb=>by
      obtain⟨k,p,y,u,_,g2,g3,_,g5⟩:=hM b hb;exact(hs.nw p y u b g2 g3 g5).2
     have hM0:∀b,M b→cx.w0.heap.size≤b∨cx.M b:=fun b hb=>by
      obtain⟨k,p,y,u,_,g2,g3,_,g5⟩:=hM b hb;exact(hs.nw p y u b g2 g3 g5).1
     let cx':Cx:=⟨w,S,M,us,E.pb,fun w2 h1 h2 h3 h4 h5=>cx.wk w2 (aaM hs.size h1) (h2.trans hs.os) (h3.trans hs.tape) (h4.trans hs.output) fun b hb hm=>(h5 b (abc hb hs.size) fun q=>(hM0 b q).elim (fun q=>by omega) hm).trans (hs.old b hb hm)⟩
     have hsc:HS cx' us w S (dz E.l0 x).heap:=by
      refine⟨rl.2,fun i y v hy hv=>k2 i y v hy hv,?_,?_,fun b q=>⟨(hs.s b q).1,.inl q⟩,fun _ h=>h,rfl,rfl,rfl,aaJ _,fun _ _ _=>rfl,fun _ _ _ h _=>h⟩
      ·intro i j y y2 u v b yC hy hu hz hv cK cm;rcases re.get i y u hy hu with⟨p,x1,q1,q2,q3,q4⟩|⟨_,q⟩
       ·rcases re.get j y2 v hz hv with⟨p',x2,q5,q6,q7,q8⟩|⟨_,q⟩
        ·exact hs.ap p p' x1 x2 u v b (fun ep=>yC (EB mz q1 (ep▸q5))) q2 q3 q6 q7 (Ck q4 cK) (Ck q8 cm)
        ·exact absurd cm (q b)
       ·exact absurd cK (q b)
      ·intro i y u b hy hu hb;exact⟨.inr ⟨i,y,u,hy,hu,hb⟩,hMS b ⟨i,y,u,hy,hu,hb⟩⟩
     have P8:∀i y,(i,y)∈(dz E.l0 x).env→∃v,(args.toList.map a.eval)[i]?=some v∧XR us w S y v:=fun i y hy=>by
      obtain⟨v,q1,q2⟩:=k1 i y hy;exact⟨v,by simpa using q1,q2⟩
     have bT:=E.ok cx' us S _ x r0 z rfl (fun _ h=>h) hsc P8 (by rw[←ha.length];exact bG) h1;unfold Oper.wp execOp;have hev:a.eval (.func E.f)=.func (.func E.f) #[] #[]:=rfl;have si:(args.toList.map a.eval).toArray=args.map a.eval:=by rw[←acZ]
     simp only[hop,resolve,hev,Deferred.ofValue,Sem.run_bind,Sem.run_pure,Result.andThen_ok,invoke,Array.empty_append,Array.append_empty,mV hfn,Oper.upon_enter];rw[←si];refine bT.mono fun e w' Ai=>?_;obtain⟨v,bn,S',rfl,fV,hr⟩:=Ai;have Xg:∀b,S b→S' b:=fV.s0;have hold:∀b,b<w.heap.size→¬M b→w'.heap[b]?=w.heap[b]?:=fV.old;have bX:aA S w w':=fun p hp=>hold p (hs.s _ hp).1 fun hm=>hMS _ hm hp;have Sl:F2 (Sh H.length) (tQ 0 E.lr z).2 (tQ H.length E.lr z).2:=by
      have:=OS (n:=H.length) (l:=E.lr) (x:=z) (k:=0)
      rwa [ac7] at this
     have yD:bn.length=(tQ H.length E.lr z).2.length:=by rw[←Sl.length];exact fV.len
     have xM:jB bs (bs++bn):=fun i u hu _=>by rw[aaz (aag.1 hu).1];exact hu
     have Qn:∀{k:Nat} {ty:TypeId} {cs:List AV} {i:Nat},ids[k]?=some (some i)→(tQ H.length E.lr z).2[k]?=some (.cells ty cs)→∃ya g,(dz E.lr z).heap[k]?=some (.cells ty ya)∧bn[k]?=some (.pointer (some ⟨g,0,none⟩))∧bs[i]?=some (.pointer (some ⟨g,0,none⟩))∧(∃R3 c0,H[i]?=some (.cells R3 c0))∧OR (bs++bn) w' S' (.cells ty cs) (.pointer (some ⟨g,0,none⟩)):=by
      intro k ty cs i hk hy;have WZ:k∈E.pb:=by rw[←akf];exact AH.2 ⟨ty,cs,hy⟩
      have xE:=WZ;rw[←nT] at xE;obtain⟨ty1,cs1,cK⟩:=AH.1 xE;have PW:k<us.length:=by rw[rl.2];exact(aag.1 cK).1
      obtain⟨g,vs1,hu,_⟩:=k2 k _ _ cK (aae PW);have huk:us[k]?=some (.pointer (some ⟨g,0,none⟩)):=by rw[aae PW,hu]
      have cm:=fV.an k _ WZ huk rfl;obtain⟨ya,afF,aj0⟩:∃ya,(tQ 0 E.lr z).2[k]?=some (.cells ty ya)∧Sh H.length (.cells ty ya) (.cells ty cs):=by
       have PV:k<(tQ 0 E.lr z).2.length:=by rw[Sl.length];exact(aag.1 hy).1
       obtain⟨y',MA,hq⟩:=Sl.get (aae PV);rw[hy] at MA;obtain rfl:=aal MA;cases Sg:(tQ 0 E.lr z).2[k] with
       | cells pZ iQ=>rw[Sg] at hq;cases hq with|cells hq=>exact⟨iQ,by rw[aae PV,Sg],.cells hq⟩
       | row t e rs=>rw[Sg] at hq;cases hq
       | zc e t tn im done rest=>rw[Sg] at hq;cases hq
       | zip o2 e t tn im done cur rest=>rw[Sg] at hq;cases hq
       | _=>rw[Sg] at hq;cases hq
      obtain⟨g',vs,e2,hZ,hf⟩:=fV.o k _ _ afF cm;rcases re.get k _ _ cK huk with⟨p,x1,q1,q2,q3,q4⟩|⟨q1,_⟩
      ·rw[hk] at q1;obtain rfl:=aal (aal q1);refine⟨ya,g,afF,cm,q3,?_,g',vs,e2,hZ,?_⟩
       ·cases x1 with
        | cells R3 c0=>exact⟨R3,c0,q2⟩
        | row t e rs=>have:=hs.o i _ _ q2 q3;obtain⟨A,n,c,e,_⟩:=Own.slice (α:=El t) this;cases e
        | zc e t tn im done rest=>obtain⟨bS,this,_⟩:=hs.o i _ _ q2 q3;obtain⟨A,n,c,e,_⟩:=Own.slice this;cases e
        | zip o2 e t tn im done cur rest=>obtain⟨bS,this,_⟩:=hs.o i _ _ q2 q3;obtain⟨A,n,c,e,_⟩:=Own.slice this;cases e
        | dead=>exact absurd (q4 _ rfl) (fun h=>by cases h)
        | mp kt t n f=>obtain⟨_,_,e,_⟩:=hs.o i _ _ q2 q3;cases e
        | mq q=>obtain⟨_,e⟩:=hs.o i _ _ q2 q3;cases e
        | mr p kt t e n f=>obtain⟨_,_,_,e,_⟩:=hs.o i _ _ q2 q3;cases e
        | mx p kt t e n f k=>obtain⟨_,_,_,e,_⟩:=hs.o i _ _ q2 q3;cases e
       ·cases aj0 with|cells hq=>exact hq bs bn w' S' vs hs.len hf
      ·rw[hk] at q1;cases q1
     have pD:∀{i:Nat} {y:ai} {u:Value},(QM ids H (tQ H.length E.lr z).2)[i]?=some y→(bs++bn)[i]?=some u→ y=.dead∨(H[i]?=some y∧bs[i]?=some u∧some i∉ids)∨(∃(k g:Nat) (ty:TypeId) (cs:List AV) (ya:List AV) (R3:TypeId) (c0:List AV),y=.cells ty cs∧ids[k]?=some (some i)∧u=.pointer (some ⟨g,0,none⟩)∧bs[i]?=some u∧H[i]?=some (.cells R3 c0)∧bn[k]?=some u∧(dz E.lr z).heap[k]?=some (.cells ty ya)∧OR (bs++bn) w' S' y u)∨ (∃(k:Nat) (y0:ai),y.solid=true∧i=H.length+k∧bn[k]?=some u∧(dz E.lr z).heap[k]?=some y0∧Sh H.length y0 y):=by
      intro i y u hy hu;have fU:(setB ids (tQ H.length E.lr z).2 (xz ids H)).length=H.length:=by rw[ga,o6]
      unfold QM at hy;by_cases hi:i<H.length
      ·rw[aaz (by rw[fU];exact hi)] at hy;rw[aaz (by rw[hs.len];exact hi)] at hu;rcases gF hy with hy|⟨k,ty,cs,rfl,g1,g2⟩
       ·rcases tU hy with hy|⟨hy,hn⟩
        ·exact .inl hy
        ·exact .inr (.inl ⟨hy,hu,hn⟩)
       ·obtain⟨ya,g,q1,q2,q3,⟨R3,c0,q4⟩,q5⟩:=Qn g1 g2;rw[hu] at q3;obtain rfl:=aal q3;exact .inr (.inr (.inl ⟨k,g,ty,cs,ya,R3,c0,rfl,g1,rfl,hu,q4,q2,q1,q5⟩))
      ·rw[aam (by rw[fU];omega),fU] at hy;rw[aam (by rw[hs.len];omega),hs.len] at hu;rcases zy hy with hy|⟨hy,UK⟩
       ·exact .inl hy
       ·have PV:i-H.length<(tQ 0 E.lr z).2.length:=by rw[Sl.length];exact(aag.1 hy).1
        obtain⟨y',MA,hq⟩:=Sl.get (aae PV);rw[hy] at MA;obtain rfl:=aal MA;exact .inr (.inr (.inr ⟨i-H.length,_,UK,by omega,hu,aae PV,hq⟩))
     have qK:∀{i:Nat} {y:ai} {u:Value} {b:Nat},H[i]?=some y→bs[i]?=some u→some i∉ids→Bk y u b→b<w.heap.size∧¬M b:=by
      intro i y u b g1 g2 g3 g4;refine⟨(hs.o i y u g1 g2).lt g4,fun hm=>?_⟩;obtain⟨k,p,y',u',q1,q2,q3,_,q5⟩:=hM b hm;refine hs.ap i p y y' u u' b (fun e=>?_) g1 g2 q2 q3 g4 q5;subst e;exact g3 (ack q1)
     have eD:HS cx (bs++bn) w' S' (QM ids H (tQ H.length E.lr z).2):=by
      refine⟨?_,?_,?_,?_,fun b q=>?_,fun b q=>Xg b (hs.s0 b q),fV.os.trans hs.os,fV.tape.trans hs.tape,fV.output.trans hs.output,aaM hs.size fV.size,fun b q1 q2=>?_,fun i v p q r=>xM i _ (hs.an i v p q r) r⟩
      ·unfold QM;rw[aaD,aaD,ga,o6,zx,hs.len,yD]
      ·intro i y u hy hu;rcases pD hy hu with rfl|⟨g1,g2,g3⟩|⟨k,g,ty,cs,ya,R3,c0,_,_,_,_,_,_,_,g9⟩|⟨k,g0,gs,_,g3,g4,gq⟩
       ·exact trivial
       ·exact(hs.o i y u g1 g2).same (fun b hb=>hold b (qK g1 g2 g3 hb).1 (qK g1 g2 g3 hb).2) fV.size bX Xg (fun b q=>⟨(fV.s b q).1,fun e=>by
         obtain⟨p1,_⟩:=qK g1 g2 g3 e;rcases(fV.s b q).2 with q|q|q
         ·exact(hs.nw i y u b g1 g2 e).2 q
         ·have:w.heap.size≤b:=q;omega
         ·exact(qK g1 g2 g3 e).2 q⟩) xM
       ·exact g9
       ·exact(gq.solid gs).2 bs bn w' S' u hs.len (fV.o k _ _ g4 g3)
      ·intro i j y y2 u v b yC hy hu hz hv cK cm;have adG:∀{k:Nat} {y:ai} {u:Value},bn[k]?=some u→(dz E.lr z).heap[k]?=some y→Bk y u b→(w.heap.size≤b∨M b):=fun g1 g2 g3=>(fV.nw _ _ _ b g2 g1 g3).1;rcases pD hy hu with rfl|⟨g1,g2,g3⟩|⟨k,g,ty,cs,ya,R3,c0,rfl,g2,rfl,g4,g5,g6,g7,_⟩|⟨k,g0,gs,g2,g3,g4,gq⟩
       ·cases cK
       ·rcases pD hz hv with rfl|⟨p1,p2,p3⟩|⟨k',g',pZ,iQ,af9,adg,c0',rfl,p2,rfl,p4,p5,p6,p7,_⟩|⟨k',p0,ps,p2,p3,p4,pq⟩
        ·cases cm
        ·exact hs.ap i j y y2 u v b yC g1 g2 p1 p2 cK cm
        ·exact hs.ap i j y _ u _ b yC g1 g2 p5 p4 cK cm
        ·obtain⟨q1,q2⟩:=qK g1 g2 g3 cK;rcases adG p3 p4 ((pq.solid ps).1 _ _ cm) with q|q
         ·omega
         ·exact q2 q
       ·rcases pD hz hv with rfl|⟨p1,p2,p3⟩|⟨k',g',pZ,iQ,af9,adg,c0',rfl,p2,rfl,p4,p5,p6,p7,_⟩|⟨k',p0,ps,p2,p3,p4,pq⟩
        ·cases cm
        ·exact hs.ap i j _ y2 _ v b yC g5 g4 p1 p2 cK cm
        ·exact hs.ap i j _ _ _ _ b yC g5 g4 p5 p4 cK cm
        ·have xF:k≠k':=fun e=>by subst e;rw[g7] at p4;obtain rfl:=aal p4;cases pq;cases ps
         exact fV.ap k k' _ _ _ _ b xF g7 g6 p4 p3 cK ((pq.solid ps).1 _ _ cm)
       ·rcases pD hz hv with rfl|⟨p1,p2,p3⟩|⟨k',g',pZ,iQ,af9,adg,c0',rfl,p2,rfl,p4,p5,p6,p7,_⟩|⟨k',p0,ps,p2,p3,p4,pq⟩
        ·cases cm
        ·obtain⟨q1,q2⟩:=qK p1 p2 p3 cm;rcases adG g3 g4 ((gq.solid gs).1 _ _ cK) with q|q
         ·omega
         ·exact q2 q
        ·have xF:k≠k':=fun e=>by subst e;rw[p7] at g4;obtain rfl:=aal g4;cases gq;cases gs
         exact fV.ap k k' _ _ _ _ b xF g4 g3 p7 p6 ((gq.solid gs).1 _ _ cK) cm
        ·exact fV.ap k k' _ _ _ _ b (fun e=>yC (by omega)) g4 g3 p4 p3 ((gq.solid gs).1 _ _ cK) ((pq.solid ps).1 _ _ cm)
      ·intro i y u b hy hu hb;have afX:M b→cx.w0.heap.size≤b∨cx.M b:=fun hm=>by
        obtain⟨k,p,y',u',_,q2,q3,_,q5⟩:=hM b hm;exact(hs.nw p y' u' b q2 q3 q5).1
       rcases pD hy hu with rfl|⟨g1,g2,g3⟩|⟨k,g,ty,cs,ya,R3,c0,rfl,g2,rfl,g4,g5,g6,g7,_⟩|⟨k,g0,gs,g2,g3,g4,gq⟩
       ·cases hb
       ·refine⟨(hs.nw i y u b g1 g2 hb).1,fun q=>?_⟩;obtain⟨p1,_⟩:=qK g1 g2 g3 hb;rcases(fV.s b q).2 with q|q|q
        ·exact(hs.nw i y u b g1 g2 hb).2 q
        ·have:w.heap.size≤b:=q;omega
        ·exact(qK g1 g2 g3 hb).2 q
       ·exact⟨(hs.nw i _ _ b g5 g4 hb).1,(fV.nw k _ _ b g7 g6 hb).2⟩
       ·obtain⟨q1,q2⟩:=fV.nw k _ _ b g4 g3 ((gq.solid gs).1 _ _ hb);refine⟨?_,q2⟩;rcases q1 with q1|q1
        ·exact .inl (aaM hs.size q1)
        ·exact afX q1
      ·obtain⟨q1,q2⟩:=fV.s b q;refine⟨q1,?_⟩;rcases q2 with q2|q2|⟨k,y,u,p1,p2,p3⟩
       ·exact(hs.s b q2).2
       ·exact .inr (.inl (aaM hs.size q2))
       ·obtain⟨_,p,y',u',_,p4,p5,_,p6⟩:=hM b ⟨k,y,u,p1,p2,p3⟩;exact .inr (hs.nw p y' u' b p4 p5 p6).1
      ·refine(hold b (abc q1 hs.size) fun hm=>?_).trans (hs.old b q1 q2);obtain⟨k,p,y',u',_,g2,g3,_,g5⟩:=hM b hm;rcases(hs.nw p y' u' b g2 g3 g5).1 with g|g
       ·omega
       ·exact q2 g
     exact hK v w' (bs++bn) S' eD Xg bX xM (XR.free xI hr)
    ·exact h2.elim
   ·exact h.elim
  ·exact h.elim
 ·exact h.elim
end
def WA (ys:List ai):Bool:=ys.all fun
 | .cells _ _=>true
 | .dead=>true
 | _=>false
def YN (ys:List ai):List Nat:=(List.range ys.length).filter fun i=>match ys[i]? with
 | some (.row _ _ _)=>false
 | some _=>true
 | _=>false
def Jg:AV→Option Nat
 | .any j=>some j
 | _=>none
def E9 (pb:List Nat):List AV→List AV→Bool
 | [],[]=>true
 | a::l,b::m=>(match Jg b with
  | some j=>Jg a==some j&&pb.contains j
  | none=>b.free)&&E9 pb l m
 | _,_=>false
def mrg:List AV→List AV→List AV
 | a::l,b::m=>(match Jg b with
  | some _=>a
  | none=>b)::mrg l m
 | _,_=>[]
def setL (pb:List Nat) (H:List ai):List (Option Nat)→List ai→List ai→Option (List (Nat×ai))
 | [],[],[]=>some []
 | i::ids,x::xs,y::ys=>match x,y with
  | .dead,.dead=>setL pb H ids xs ys
  | .cells ty cs,.cells pZ iQ=>match i.bind (H[·]?),i with
   | some (.cells _ c0),some o=>if pZ=ty∧E9 pb cs iQ=true then(setL pb H ids xs ys).map fun l=>(o,.cells ty (mrg c0 iQ))::l else none
   | _,_=>none
  | _,_=>none
 | _,_,_=>none
def OB:CS→Bool
 | .d _=>true
 | .any=>true
 | _=>false
def aea (l:List (Nat×SS)):Bool:=l.all fun p=>match p.2 with
 | .c s=>OB s
 | .box _ cs=>cs.all OB
 | .st _=>true
 | .fn _=>true
 | .rf _=>true
 | .cl _ _=>true
 | .sb _ _=>false
def GZ {P:Program} (E:Em P) (_:Env) (H:List ai) (xs:Option (List XV)):T (XV×List (Nat×ai)):=match xs with
 | some xs=>match Ds H (sa 0 xs) E.l0 with
  | some (x,ids)=>if Qz P E.f&&JC ids&&xs.length==E.l0.length&&YN (dz E.l0 x).heap==E.pb&&WA (dz E.l0 x).heap then (E.F x).bind fun q=>if q.1.free then T.op ((setL E.pb H ids (dz E.l0 x).heap (dz E.lr q.2).heap).map fun l=>(q.1,l)) else .bad
   else .bad
  | none=>.bad
 | none=>.bad
section
variable {P:Program} {o:Oper} {cx:Cx} {bs:List Value} {w:World} {S:Nat→Prop} {H Hv:List ai} {m:Nat} {env:Env} {a:Act} {K:Act→World→Prop} {Q:Exit→Act→World→Prop}
theorem IC (hv:yr Hv H) {t:Ty} {e:TypeId} {b:AV} {r:List (El t)×List (Option Nat)} (h:YI Hv t e b=some r):YI H t e b=some r:=by
 unfold YI at h ⊢;split at h
 ·split at h
  ·rename_i hH;rcases hv.2 _ _ hH with q|q
   ·cases q
   ·simp only[q];exact h
  ·cases h
 ·exact h
 ·cases h
theorem Dq (hv:yr Hv H):∀{l:List ZS} {qs:List AV} {r:Co l×List (Option Nat)},Dr Hv l qs=some r→Dr H l qs=some r
 | [],[],_,h=>h
 | s::l,b::qs,r,h=>by
  have one:∀{x:ZV s×List (Option Nat)},rdZ Hv s b=some x→rdZ H s b=some x:=fun {x} h=>by
   cases s with
   | d t=>exact h
   | own t e=>exact IC hv h
   | any=>exact h
  unfold Dr at h ⊢;cases e1:rdZ Hv s b with
  | none=>rw[e1] at h;cases h
  | some x=>
   cases e2:Dr Hv l qs with
   | none=>rw[e1,e2] at h;cases h
   | some y=>
    rw[e1,e2] at h;rw[one e1,Dq hv e2];exact h
 | [],_::_,_,h=>by cases h
 | _::_,[],_,h=>by cases h
theorem IH (hv:yr Hv H) {s:CS} {b:AV} {r:CV s×List (Option Nat)} (h:rdC Hv s b=some r):rdC H s b=some r:=by
 cases s with
 | d t=>exact h
 | own t e=>exact IC hv h
 | any=>exact h
 | zc t tn e=>
  have h:KO Hv t tn e b=some r:=h;show KO H t tn e b=some r;unfold KO at h ⊢;split at h
  ·split at h
   ·rename_i hH;rcases hv.2 _ _ hH with q|q
    ·cases q
    ·simp only[q];exact h
   ·cases h
  ·cases h
 | zip t tn e zs=>
  have h:zo Hv t tn e zs b=some r:=h;show zo H t tn e zs b=some r;unfold zo at h ⊢;split at h
  ·split at h
   ·rename_i hH;rcases hv.2 _ _ hH with q|q
    ·cases q
    ·simp only[q];split at h
     ·rename_i hp;simp only[*,Dq hv hp];rfl
     ·cases h
   ·cases h
  ·cases h
 | mp kt t=>
  have h:KQ Hv kt t b=some r:=h;show KQ H kt t b=some r;unfold KQ at h ⊢;split at h
  ·split at h
   ·rename_i hH;simp only[mQ hv hH (fun e=>by cases e)];exact h
   ·cases h
  ·cases h
 | mr kt t e=>
  have h:KP Hv kt t e b=some r:=h;show KP H kt t e b=some r;unfold KP at h ⊢;split at h
  ·split at h
   ·rename_i hH;simp only[mQ hv hH (fun e=>by cases e)];split at h
    ·rename_i hQ;simp only[mQ hv hQ (fun e=>by cases e)];exact h
    ·cases h
   ·cases h
  ·cases h
theorem Dt (hv:yr Hv H):∀{l:List CS} {qs:List AV} {r:eT l×List (Option Nat)},yL Hv l qs=some r→yL H l qs=some r
 | [],[],_,h=>h
 | s::l,b::qs,r,h=>by
  unfold yL at h ⊢;cases e1:rdC Hv s b with
  | none=>rw[e1] at h;cases h
  | some x=>
   cases e2:yL Hv l qs with
   | none=>rw[e1,e2] at h;cases h
   | some y=>
    rw[e1,e2] at h;rw[IH hv e1,Dt hv e2];exact h
 | [],_::_,_,h=>by cases h
 | _::_,[],_,h=>by cases h
theorem Ts (hv:yr Hv H) {s:SS} {b:XV} {r:SW s×List (Option Nat)} (h:Tu Hv s b=some r):Tu H s b=some r:=by
 cases s with
 | c s=>
  cases b with
  | one c=>exact IH hv (s:=s) (r:=r) h
  | _=>cases h
 | st k=>exact h
 | fn k=>exact h
 | rf k=>exact h
 | cl k t=>exact h
 | sb o o2=>exact h
 | box ty cs=>
  have h:rdB Hv ty cs b=some r:=h;show rdB H ty cs b=some r;unfold rdB at h ⊢;split at h
  ·split at h
   ·rename_i hH;rcases hv.2 _ _ hH with q|q
    ·cases q
    ·simp only[q];split at h
     ·rename_i e;rw[if_pos e];cases e2:yL Hv cs _ with
      | none=>rw[e2] at h;cases h
      | some y=>rw[e2] at h;rw[Dt hv e2];exact h
     ·cases h
   ·cases h
  ·cases h
theorem IE (hv:yr Hv H):∀{l:List (Nat×SS)} {r:cF l×List (Option Nat)},IF Hv env l=some r→IF H env l=some r
 | [],_,h=>h
 | p::l,r,h=>by
  unfold IF at h ⊢;cases e1:env.lookup p.1 with
  | none=>rw[e1] at h;cases h
  | some b=>
   rw[e1] at h;cases e2:Tu Hv p.2 b with
   | none=>
    have h:(match Tu Hv p.2 b,IF Hv env l with|some x,some y=>some (((x.1,y.1),x.2++y.2):cF (p::l)×List (Option Nat))|_,_=>none)=some r:=h;rw[e2] at h;cases h
   | some x=>
    have h:(match Tu Hv p.2 b,IF Hv env l with|some x,some y=>some (((x.1,y.1),x.2++y.2):cF (p::l)×List (Option Nat))|_,_=>none)=some r:=h;show(match Tu H p.2 b,IF H env l with|some x,some y=>some (((x.1,y.1),x.2++y.2):cF (p::l)×List (Option Nat))|_,_=>none)=some r;cases e3:IF Hv env l with
    | none=>rw[e2,e3] at h;cases h
    | some y=>
     rw[e2,e3] at h;rw[Ts hv e2,IE hv e3];exact h
theorem wE (hv:yr Hv H) {pb:List Nat}:∀{ids:List (Option Nat)} {xs ys:List ai} {l:List (Nat×ai)},setL pb Hv ids xs ys=some l→setL pb H ids xs ys=some l
 | [],[],[],_,h=>h
 | i::ids,x::xs,y::ys,l,h=>by
  unfold setL at h ⊢;split at h
  ·exact wE hv h
  ·rename_i ty cs pZ iQ;split at h
   ·rename_i t0 c0 o hi;have Jo:H[o]?=some (.cells t0 c0):=by
     rcases hv.2 o _ hi with q|q
     ·cases q
     ·exact q
    have:((some o:Option Nat).bind fun x=>H[x]?)=some (.cells t0 c0):=Jo;simp only[this];split at h
    ·rename_i hc;rw[if_pos hc];cases e:setL pb Hv ids xs ys with
     | none=>rw[e] at h;cases h
     | some q=>rw[e] at h;rw[wE hv e];exact h
    ·cases h
   ·cases h
  ·cases h
 | [],[],_::_,_,h=>by cases h
 | [],_::_,_,_,h=>by cases h
 | _::_,[],_,_,h=>by cases h
 | _::_,_::_,[],_,h=>by cases h
theorem Of (hv:yr Hv H) {l:List (Nat×SS)} {r:cF l×List (Option Nat)} (h:Ds Hv env l=some r):Ds H env l=some r:=by
 unfold Ds at h ⊢;split at h
 ·rename_i hl;rw[if_pos hl];exact IE hv h
 ·cases h
theorem QN (hv:yr Hv H) {E:Em P} {xs:Option (List XV)} {r:XV×List (Nat×ai)} (h:(GZ E env Hv xs).hit r):(GZ E env H xs).hit r:=by
 unfold GZ at h ⊢;cases xs with
 | none=>exact h.elim
 | some xs=>
  simp only at h ⊢;cases e:Ds Hv (sa 0 xs) E.l0 with
  | none=>rw[e] at h;exact h.elim
  | some p=>
   rw[e] at h;rw[Of hv e];obtain⟨x,ids⟩:=p;simp only at h ⊢;split at h
   ·rename_i hc;rw[if_pos hc];have key:∀{t:T (XV×cF E.lr)},(t.bind fun q=>if q.1.free then T.op ((setL E.pb Hv ids (dz E.l0 x).heap (dz E.lr q.2).heap).map fun l=>(q.1,l)) else .bad).hit r→(t.bind fun q=>if q.1.free then T.op ((setL E.pb H ids (dz E.l0 x).heap (dz E.lr q.2).heap).map fun l=>(q.1,l)) else .bad).hit r:=by
     intro t;induction t with
     | lf q=>
      intro h;have h:(if q.1.free then T.op ((setL E.pb Hv ids (dz E.l0 x).heap (dz E.lr q.2).heap).map fun l=>(q.1,l)) else .bad).hit r:=h;show(if q.1.free then T.op ((setL E.pb H ids (dz E.l0 x).heap (dz E.lr q.2).heap).map fun l=>(q.1,l)) else .bad).hit r;split at h
      ·rename_i hf;rw[if_pos hf];cases e2:setL E.pb Hv ids (dz E.l0 x).heap (dz E.lr q.2).heap with
       | none=>rw[e2] at h;exact h.elim
       | some l=>rw[e2] at h;rw[wE hv e2];exact h
      ·exact h.elim
     | br b x y hx hy=>exact fun h=>⟨fun q=>hx (h.1 q),fun q=>hy (h.2 q)⟩
     | nd p t ht=>exact fun h=>⟨h.1,ht h.2⟩
     | bad=>exact fun h=>h
    exact key h
   ·exact h.elim
theorem wF {pb:List Nat}:∀{ids:List (Option Nat)} {xs ys:List ai} {l:List (Nat×ai)},setL pb H ids xs ys=some l→ids.length=xs.length∧ids.length=ys.length∧(∀p∈l,∃(k:Nat) (ty t0:TypeId) (cs iQ c0:List AV),ids[k]?=some (some p.1)∧xs[k]?=some (.cells ty cs)∧ys[k]?=some (.cells ty iQ)∧H[p.1]?=some (.cells t0 c0)∧E9 pb cs iQ=true∧p.2=.cells ty (mrg c0 iQ))∧ ∀(k:Nat) (ty:TypeId) (cs:List AV),xs[k]?=some (.cells ty cs)→∃p∈l,ids[k]?=some (some p.1)
 | [],[],[],l,h=>by
  injection h with h
  subst h;exact⟨rfl,rfl,(fun p hp=>by cases hp),fun k ty cs hk=>by cases hk⟩
 | i::ids,x::xs,y::ys,l,h=>by
  unfold setL at h;split at h
  ·obtain⟨h1,h2,h3,h4⟩:=wF h;refine⟨by simp[h1],by simp[h2],fun p hp=>?_,fun k ty cs hk=>?_⟩
   ·obtain⟨k,ty,t0,cs,iQ,c0,q1,q2,q3,q⟩:=h3 p hp;exact⟨k+1,ty,t0,cs,iQ,c0,by simpa using q1,by simpa using q2,by simpa using q3,q⟩
   ·cases k with
    | zero=>cases hk
    | succ k=>
     obtain⟨p,hp,hq⟩:=h4 k ty cs (by simpa using hk);exact⟨p,hp,by simpa using hq⟩
  ·rename_i ty cs pZ iQ;split at h
   ·rename_i t0 c0 o hi;split at h
    ·rename_i hc;obtain⟨rfl,hc⟩:=hc;cases e:setL pb H ids xs ys with
     | none=>rw[e] at h;cases h
     | some q=>
      rw[e] at h;injection h with h
      subst h;obtain⟨h1,h2,h3,h4⟩:=wF e;have hi:H[o]?=some (.cells t0 c0):=hi;refine⟨by simp[h1],by simp[h2],fun p hp=>?_,fun k ty cs hk=>?_⟩
      ·rcases aaP.1 hp with rfl|hp
       ·exact⟨0,pZ,t0,cs,iQ,c0,rfl,rfl,rfl,hi,hc,rfl⟩
       ·obtain⟨k,ty,t0,cs,iQ,c0,q1,q2,q3,q⟩:=h3 p hp;exact⟨k+1,ty,t0,cs,iQ,c0,by simpa using q1,by simpa using q2,by simpa using q3,q⟩
      ·cases k with
       | zero=>exact⟨_,aaw,rfl⟩
       | succ k=>
        obtain⟨p,hp,hq⟩:=h4 k ty cs (by simpa using hk);exact⟨p,aaN _ hp,by simpa using hq⟩
    ·cases h
   ·cases h
  ·cases h
 | [],[],_::_,_,h=>by cases h
 | [],_::_,_,_,h=>by cases h
 | _::_,[],_,_,h=>by cases h
 | _::_,_::_,[],_,h=>by cases h
theorem ON {bs bn us:List Value} {w w':World} {S S':Nat→Prop} {pb:List Nat} (hS:∀b,S b→S' b) (hk:aA S w w') (han:∀(i:Nat) (v:Value),i∈pb→us[i]?=some v→xB v=true→bn[i]?=some v) : ∀{c0 cs iQ:List AV} {vs SN:List Value},E9 pb cs iQ=true→F2 (VR bs w S) c0 vs→F2 (VR us w S) cs vs→F2 (VR bn w' S') iQ SN→F2 (VR bs w' S') (mrg c0 iQ) SN
 | c0,[],[],vs,SN,_,h1,h2,h3=>by
  cases h2;cases h1;cases h3;exact .nil
 | c0,x::cs,y::iQ,vs,SN,h,h1,h2,h3=>by
  cases h2 with
  | @cons _ v _ vs g1 g2=>
   cases h1 with
   | @cons z _ c0 _ f1 f2=>
    cases h3 with
    | @cons _ v' _ SN k1 k2=>
     unfold E9 at h;rw[aaI] at h;refine .cons ?_ (ON hS hk han h.2 f2 g2 k2);have h:=h.1;cases e:Jg y with
     | some j=>
      rw[e] at h;simp only[aaI,beq_iff_eq] at h;obtain⟨h0,hp⟩:=h;obtain rfl:y=.any j:=by cases y<;>first|(injection e with e;subst e;rfl)|cases e
      obtain rfl:x=.any j:=by cases x<;>first|(injection h0 with h0;subst h0;rfl)|cases h0
      have e1:=han j v (by simpa using hp) g1.1 (JS g1.2);rw[k1.1] at e1;obtain rfl:=aal e1;exact f1.keep hS hk (jB.refl _)
     | none=>
      rw[e] at h;exact VR.free h k1
 | _,[],_::_,_,_,h,_,_,_=>by cases h
 | _,_::_,[],_,_,h,_,_,_=>by cases h
theorem Ol {ys:List ai} (hn:WA ys=true) {i:Nat} (hi:i<ys.length):i∈YN ys:=by
 unfold YN;rw[acO,abX];refine⟨hi,?_⟩;rw[aae hi];have:=aaR.1 hn _ (abF hi);split
 ·rename_i e;injection e with e;rw[e] at this;cases this
 ·rfl
 ·rename_i h1 h2;exact(h2 _ rfl).elim
theorem D4 {i:Nat} {y:ai}:∀{l:List (Nat×ai)},fq l i=some y→(i,y)∈l
 | p::l,h=>by
  have h:(match fq l i with|some y=>some y|none=>if p.1=i then some p.2 else none)=some y:=h;cases e:fq l i with
  | some u=>rw[e] at h;obtain rfl:=aal h;exact aaN _ (D4 e)
  | none=>
   rw[e] at h;simp only at h;split at h
   ·rename_i e2;have h:=aal h;rw[←e2,←h];exact aaw
   ·cases h
theorem D3 {i:Nat}:∀{l:List (Nat×ai)},fq l i=none→∀p∈l,p.1≠i
 | q::l,h,p,hp=>by
  have h:(match fq l i with|some y=>some y|none=>if q.1=i then some q.2 else none)=none:=h;cases e:fq l i with
  | some u=>rw[e] at h;cases h
  | none=>
   rw[e] at h;simp only at h;split at h
   ·cases h
   ·rename_i fG;rcases aaP.1 hp with rfl|hp
    ·exact fG
    ·exact D3 e p hp
theorem JA (hs:HS cx bs w S H) (he:ER m bs w S env a) {E:Em P} {args:Array Operand} {ts:Array TypeId} (hop:o.op=.call { callee:=.value (.func E.f),args:=args,argTypes:=ts }) {r:XV×List (Nat×ai)} (h:(GZ E env H (ka env args.toList)).hit r) (hK:∀v w' S',HS cx bs w' S' (jl r.2 H)→(∀b,S b→S' b)→aA S w w'→XR bs w' S' r.1 v→K (a.put o.dst v) w'):o.wp P a w K Q:=by
 unfold GZ at h;split at h
 ·rename_i xs PC;split at h
  ·rename_i x ids Sp;split at h
   ·rename_i hc;simp only[aaI,beq_iff_eq] at hc;obtain⟨⟨⟨⟨hfn,mz⟩,bG⟩,nT⟩,hnr⟩:=hc;obtain⟨q,h1,h2⟩:=T.hit_bind h;split at h2
    ·rename_i xI;obtain⟨r0,z⟩:=q;have h2:=T.hit_op h2;cases sg:setL E.pb H ids (dz E.l0 x).heap (dz E.lr z).heap with
     | none=>
      have h2:Option.map _ (setL E.pb H ids (dz E.l0 x).heap (dz E.lr z).heap)=some r:=h2;rw[sg] at h2;cases h2
     | some l=>
     have h2:Option.map _ (setL E.pb H ids (dz E.l0 x).heap (dz E.lr z).heap)=some r:=h2;rw[sg] at h2;have h2:(r0,l)=r:=aal h2;subst h2;have xI:r0.free=true:=xI;obtain⟨sl1,sl2,sl3,sl4⟩:=wF sg;have ha:=jP he PC;have W8:ER xs.length bs w S (sa 0 xs) ⟨(args.toList.map a.eval).toArray,[]⟩:=by
      refine⟨rfl,by show(args.toList.map a.eval).toArray.size=_;rw[ab6,ha.length],vM ha fun j v hj=>?_⟩;rw[ab7];simpa using hj
     obtain⟨Sp,Sn⟩:=ID Sp;obtain⟨us,re,kk⟩:=Bl hs W8 Sp 0;obtain⟨k1,k2⟩:=kk us (fun j u hj=>by rw[ab7];exact hj) (Sn _ _);have rl:=re.len
     let M:Nat→Prop:=fun b=>∃(k:Nat) (y:ai) (u:Value),(dz E.l0 x).heap[k]?=some y∧us[k]?=some u∧Bk y u b
     have hM:∀b,M b→∃(k p:Nat) (y:ai) (u:Value),ids[k]?=some (some p)∧(∃ty cs,(dz E.l0 x).heap[k]?=some (.cells ty cs))∧H[p]?=some y∧bs[p]?=some u∧us[k]?=some u∧Bk y u b:=by
      rintro b ⟨k,y,u,g1,g2,g3⟩;have vn:∃ty cs,(dz E.l0 x).heap[k]?=some (.cells ty cs):=by
       have:=aaR.1 hnr y (ack g1);cases y with
       | cells ty cs=>exact⟨ty,cs,g1⟩
       | dead=>cases g3
       | _=>cases this
      rcases re.get k y u g1 g2 with⟨p,x1,q1,q2,q3,q4⟩|⟨_,q⟩
      ·exact⟨k,p,x1,u,q1,vn,q2,q3,g2,Ck q4 g3⟩
      ·exact absurd g3 (q b)
     have hMS:∀b,M b→¬S b:=fun b hb=>by
      obtain⟨k,p,y,u,_,_,g2,g3,_,g5⟩:=hM b hb;exact(hs.nw p y u b g2 g3 g5).2
     have hM0:∀b,M b→cx.w0.heap.size≤b∨cx.M b:=fun b hb=>by
      obtain⟨k,p,y,u,_,_,g2,g3,_,g5⟩:=hM b hb;exact(hs.nw p y u b g2 g3 g5).1
     let cx':Cx:=⟨w,S,M,us,E.pb,fun w2 h1 h2 h3 h4 h5=>cx.wk w2 (aaM hs.size h1) (h2.trans hs.os) (h3.trans hs.tape) (h4.trans hs.output) fun b hb hm=>(h5 b (abc hb hs.size) fun q=>(hM0 b q).elim (fun q=>by omega) hm).trans (hs.old b hb hm)⟩
     have hsc:HS cx' us w S (dz E.l0 x).heap:=by
      refine⟨rl.2,fun i y v hy hv=>k2 i y v hy hv,?_,?_,fun b q=>⟨(hs.s b q).1,.inl q⟩,fun _ h=>h,rfl,rfl,rfl,aaJ _,fun _ _ _=>rfl,fun _ _ _ h _=>h⟩
      ·intro i j y y2 u v b yC hy hu hz hv cK cm;rcases re.get i y u hy hu with⟨p,x1,q1,q2,q3,q4⟩|⟨_,q⟩
       ·rcases re.get j y2 v hz hv with⟨p',x2,q5,q6,q7,q8⟩|⟨_,q⟩
        ·exact hs.ap p p' x1 x2 u v b (fun ep=>yC (EB mz q1 (ep▸q5))) q2 q3 q6 q7 (Ck q4 cK) (Ck q8 cm)
        ·exact absurd cm (q b)
       ·exact absurd cK (q b)
      ·intro i y u b hy hu hb;exact⟨.inr ⟨i,y,u,hy,hu,hb⟩,hMS b ⟨i,y,u,hy,hu,hb⟩⟩
     have P8:∀i y,(i,y)∈(dz E.l0 x).env→∃v,(args.toList.map a.eval)[i]?=some v∧XR us w S y v:=fun i y hy=>by
      obtain⟨v,q1,q2⟩:=k1 i y hy;exact⟨v,by simpa using q1,q2⟩
     have bT:=E.ok cx' us S _ x r0 z rfl (fun _ h=>h) hsc P8 (by rw[←ha.length];exact bG) h1;unfold Oper.wp execOp;have hev:a.eval (.func E.f)=.func (.func E.f) #[] #[]:=rfl;have si:(args.toList.map a.eval).toArray=args.map a.eval:=by rw[←acZ]
     simp only[hop,resolve,hev,Deferred.ofValue,Sem.run_bind,Sem.run_pure,Result.andThen_ok,invoke,Array.empty_append,Array.append_empty,mV hfn,Oper.upon_enter];rw[←si];refine bT.mono fun e w' Ai=>?_;obtain⟨v,bn,S',rfl,fV,hr⟩:=Ai;have Xg:∀b,S b→S' b:=fV.s0;have hold:∀b,b<w.heap.size→¬M b→w'.heap[b]?=w.heap[b]?:=fV.old;have bX:aA S w w':=fun p hp=>hold p (hs.s _ hp).1 fun hm=>hMS _ hm hp;have han:∀(i:Nat) (v:Value),i∈E.pb→us[i]?=some v→xB v=true→bn[i]?=some v:=fV.an;have Qn:∀{p:Nat×ai},p∈l→∃(k g:Nat) (ty t0:TypeId) (cs iQ c0:List AV),ids[k]?=some (some p.1)∧p.2=.cells ty (mrg c0 iQ)∧bs[p.1]?=some (.pointer (some ⟨g,0,none⟩))∧bn[k]?=some (.pointer (some ⟨g,0,none⟩))∧H[p.1]?=some (.cells t0 c0)∧(dz E.l0 x).heap[k]?=some (.cells ty cs)∧us[k]?=some (.pointer (some ⟨g,0,none⟩))∧(dz E.lr z).heap[k]?=some (.cells ty iQ)∧OR bs w' S' p.2 (.pointer (some ⟨g,0,none⟩)):=by
      intro p hp;obtain⟨k,ty,t0,cs,iQ,c0,g1,g2,g3,g4,g5,g6⟩:=sl3 p hp;have PW:k<us.length:=by rw[rl.2];exact(aag.1 g2).1
      obtain⟨g,vs,hu,cK,Ly⟩:=k2 k _ _ g2 (aae PW);have huk:us[k]?=some (.pointer (some ⟨g,0,none⟩)):=by rw[aae PW,hu]
      have xE:k∈E.pb:=by rw[←nT];exact Ol hnr (aag.1 g2).1
      have cm:=han k _ xE huk rfl;obtain⟨g',SN,e2,kR,hf2⟩:=fV.o k _ _ g3 cm;injection e2 with e2
      injection e2 with e2
      injection e2 with e2
      subst e2;rcases re.get k _ _ g2 huk with⟨p',x1,q1,q2,q3,q4⟩|⟨q1,_⟩
      ·rw[g1] at q1;obtain rfl:=aal (aal q1);obtain⟨g',vs0,e2,hb0,hf0⟩:=hs.o _ _ _ g4 q3;injection e2 with e2
       injection e2 with e2
       injection e2 with e2
       subst e2;have:vs0=vs:=by
        have h1:dI w g t0 vs0.toArray:=hb0;have h2:dI w g ty vs.toArray:=cK;have h1:w.heap[g]?=_:=h1;have h2:w.heap[g]?=_:=h2;rw[h1] at h2;injection h2 with h2
        injection h2 with h2
        injection h2 with h2
       subst this;exact⟨k,g,ty,t0,cs,iQ,c0,g1,g6,q3,cm,g4,g2,huk,g3,by rw[g6];exact⟨g,SN,rfl,kR,ON Xg bX han g5 hf0 Ly hf2⟩⟩
      ·rw[g1] at q1;cases q1
     have pD:∀{i:Nat} {y:ai},(jl l H)[i]?=some y→(H[i]?=some y∧∀p∈l,p.1≠i)∨(i,y)∈l:=by
      intro i y hy;have ME:i<H.length:=by have:=(aag.1 hy).1;rwa [gE] at this
      rw[lY (aae ME)] at hy;cases e:fq l i with
      | none=>rw[e] at hy;left;exact⟨by rw[aae ME];exact hy,D3 e⟩
      | some u=>
       rw[e] at hy;right;have:u=y:=by simpa using hy
       subst this;exact D4 e
     have qK:∀{i:Nat} {y:ai} {u:Value} {b:Nat},H[i]?=some y→bs[i]?=some u→(∀p∈l,p.1≠i)→Bk y u b→b<w.heap.size∧¬M b:=by
      intro i y u b g1 g2 g3 g4;refine⟨(hs.o i y u g1 g2).lt g4,fun hm=>?_⟩;obtain⟨k,p,y',u',q1,⟨ty,cs,qc⟩,q2,q3,_,q5⟩:=hM b hm;refine hs.ap i p y y' u u' b (fun e=>?_) g1 g2 q2 q3 g4 q5;subst e;obtain⟨p',hp',MB⟩:=sl4 k ty cs qc;rw[q1] at MB;exact g3 p' hp' (aal (aal MB)).symm
     have eD:HS cx bs w' S' (jl l H):=by
      refine⟨by rw[gE];exact hs.len,?_,?_,?_,fun b q=>?_,fun b q=>Xg b (hs.s0 b q),fV.os.trans hs.os,fV.tape.trans hs.tape,fV.output.trans hs.output,aaM hs.size fV.size,fun b q1 q2=>?_,hs.an⟩
      ·intro i y u hy hu;rcases pD hy with⟨g1,g3⟩|g
       ·exact(hs.o i y u g1 hu).same (fun b hb=>hold b (qK g1 hu g3 hb).1 (qK g1 hu g3 hb).2) fV.size bX Xg (fun b q=>⟨(fV.s b q).1,fun e=>by
         obtain⟨p1,_⟩:=qK g1 hu g3 e;rcases(fV.s b q).2 with q|q|q
         ·exact(hs.nw i y u b g1 hu e).2 q
         ·have:w.heap.size≤b:=q;omega
         ·exact(qK g1 hu g3 e).2 q⟩) (jB.refl _)
       ·obtain⟨k,g,ty,t0,cs,iQ,c0,_,_,q3,_,_,_,_,_,q8⟩:=Qn g;have q3:bs[i]?=_:=q3;rw[hu] at q3;obtain rfl:=aal q3;exact q8
      ·intro i j y y2 u v b yC hy hu hz hv cK cm;have old:∀{i:Nat} {y:ai} {u:Value},(jl l H)[i]?=some y→bs[i]?=some u→Bk y u b→∃y',H[i]?=some y'∧Bk y' u b:=by
        intro i y u hy hu hb;rcases pD hy with⟨g1,_⟩|g
        ·exact⟨y,g1,hb⟩
        ·obtain⟨k,g,ty,t0,cs,iQ,c0,_,q2,q3,_,q5,_⟩:=Qn g;have q2:y=_:=q2;have q3:bs[i]?=_:=q3;rw[hu] at q3;obtain rfl:=aal q3;subst q2;exact⟨_,q5,hb⟩
       obtain⟨y',g1,g2⟩:=old hy hu cK;obtain⟨y2',g3,g4⟩:=old hz hv cm;exact hs.ap i j y' y2' u v b yC g1 hu g3 hv g2 g4
      ·intro i y u b hy hu hb;rcases pD hy with⟨g1,g3⟩|g
       ·refine⟨(hs.nw i y u b g1 hu hb).1,fun q=>?_⟩;obtain⟨p1,_⟩:=qK g1 hu g3 hb;rcases(fV.s b q).2 with q|q|q
        ·exact(hs.nw i y u b g1 hu hb).2 q
        ·have:w.heap.size≤b:=q;omega
        ·exact(qK g1 hu g3 hb).2 q
       ·obtain⟨k,g,ty,t0,cs,iQ,c0,_,q2,q3,q4,q5,_,_,q7,_⟩:=Qn g;have q2:y=_:=q2;have q3:bs[i]?=_:=q3;rw[hu] at q3;obtain rfl:=aal q3;subst q2;exact⟨(hs.nw i _ _ b q5 hu hb).1,(fV.nw k _ _ b q7 q4 hb).2⟩
      ·obtain⟨q1,q2⟩:=fV.s b q;refine⟨q1,?_⟩;rcases q2 with q2|q2|⟨k,y,u,p1,p2,p3⟩
       ·exact(hs.s b q2).2
       ·exact .inr (.inl (aaM hs.size q2))
       ·obtain⟨_,p,y',u',_,_,p4,p5,_,p6⟩:=hM b ⟨k,y,u,p1,p2,p3⟩;exact .inr (hs.nw p y' u' b p4 p5 p6).1
      ·refine(hold b (abc q1 hs.size) fun hm=>?_).trans (hs.old b q1 q2);obtain⟨k,p,y',u',_,_,g2,g3,_,g5⟩:=hM b hm;rcases(hs.nw p y' u' b g2 g3 g5).1 with g|g
       ·omega
       ·exact q2 g
     exact hK v w' S' eD Xg bX (XR.free xI hr)
    ·exact h2.elim
   ·exact h.elim
  ·exact h.elim
 ·exact h.elim
end
def fOf (o:Oper):Option FuncId:=match o.op with
 | .call { callee:=.value (.func f), .. }=>some f
 | _=>none
def aa9 {P:Program} (Es:List (Em P)) (f:FuncId):Option (Em P):=Es.find? fun E=>E.f==f
def wP:List (Nat×SS)→List Operand→List Nat
 | (_,.c (.d _))::l,.tmp t::r=>t::wP l r
 | (_,.st _)::l,.tmp t::r=>t::wP l r
 | _::l,_::r=>wP l r
 | _,_=>[]
def dE {P:Program} [hP:IsP P] (ty:TypeId→Option Ty) (D:List (Sm P)) (Es:List (Em P)):ik P where
 ty:=ty
 D:=D
 isP:=hP
 eff o:=((fOf o).bind (aa9 Es)).isSome
 x m o st:=match o.op with
  | .call { callee:=.value (.func f),args:=args, .. }=>match aa9 Es f with
   | some E=>(fun st=>if aea E.l0 then(GZ E st.env st.heap (ka st.env args.toList)).bind fun r=>.lf ⟨rF st.env o.dst (some r.1),jl r.2 st.heap⟩ else(abd E st.env st.heap (ka st.env args.toList)).bind fun r=>.lf ⟨rF st.env o.dst (some r.1),r.2⟩) ((wP E.l0 args.toList).foldl B7 st)
   | none=>.bad
  | _=>.bad
 xok m o cx st dK a w K Q _ hd h cA hK:=by
  split at h
  ·rename_i f args ts hop;split at h
   ·rename_i E hE;have hf:E.f=f:=by have:=List.find?_some hE;simpa using this
    subst hf;obtain⟨bs,S,hs,he⟩:=B8 (l:=wP E.l0 args.toList) cA;simp only at h;split at h
    ·obtain⟨r,h1,h2⟩:=T.hit_bind h;have h2:(⟨rF ((wP E.l0 args.toList).foldl B7 st).env o.dst (some r.1),jl r.2 ((wP E.l0 args.toList).foldl B7 st).heap⟩:eu)=dK:=h2;subst h2;exact JA hs he hop h1 fun v w' S' q1 qS qk q3=>hK _ _ ⟨bs,S',q1,(he.keep qS qk (jB.refl _)).put o.dst (some r.1) v hd fun y hy=>by obtain rfl:=aal hy;exact q3⟩
    ·obtain⟨r,h1,h2⟩:=T.hit_bind h;have h2:(⟨rF ((wP E.l0 args.toList).foldl B7 st).env o.dst (some r.1),r.2⟩:eu)=dK:=h2;subst h2;exact Vj hs he hop h1 fun v w' bn S' q1 qS qk qa q3=>hK _ _ ⟨bn,S',q1,(he.keep qS qk qa).put o.dst (some r.1) v hd fun y hy=>by obtain rfl:=aal hy;exact q3⟩
   ·exact h.elim
  ·exact h.elim
 d o env H:=match o.op with
  | .call { callee:=.value (.func f),args:=args, .. }=>match aa9 Es f with
   | some E=>GZ E env H (ka env args.toList)
   | none=>.bad
  | _=>.bad
 dok m o cx bs S env Hv Hf a w r K Q _ hv hs he h hK:=by
  split at h
  ·rename_i f args ts hop;split at h
   ·rename_i E hE;have hf:E.f=f:=by have:=List.find?_some hE;simpa using this
    subst hf;exact JA hs he hop (QN hv h) hK
   ·exact h.elim
  ·exact h.elim
section
variable {P:Program} {m:Nat} {loops:List Code} (R:Rg P m) (L:Cq P R.fn m R.pb loops)
def fnE (n:Nat) (body:Code) (l0 lr:List (Nat×SS)) (x:cF l0):T (XV×cF lr):=(run R L n [.code 0 body] (dz l0 x)).bind fun q=>match q with
 | .ret r st=>T.op ((pw R.pb lr st).map fun z=>(SX r,z))
 | .nrm st=>if R.fn.results.toList.isEmpty then T.op ((pw R.pb lr st).map fun z=>(.tup [],z)) else .bad
 | _=>.bad
end
theorem GY {P:Program} {fn:Func} {f:FuncId} {body:Code} {loops:List Code} (R:Rg P fn.ntmps) (L:Cq P R.fn fn.ntmps R.pb loops) (U2:R.fn=fn) (akg:R.pb≠[]) (hf:P.funcs[f]?=some fn) (hb:fn.body=some body) (hl:loops=kQ body) (n:Nat) (l0 lr:List (Nat×SS)) (F:cF l0→T (XV×cF lr)) (BR:l0.length≤fn.ntmps) (h:∀x r,MM l0 x→(F x).hit r→(fnE R L n body l0 lr x).hit r):gi P f R.pb l0 lr F:=by
 intro cx bs S vs x r z nT hS hs P8 Cy hr;have he:ER fn.ntmps bs cx.w0 S (dz l0 x).env { tmps:=vs.toArray++Array.replicate (fn.ntmps-vs.toArray.size) undef,defers:=[] }:=by
  refine⟨rfl,?_,fun t y hy=>?_⟩
  ·show(vs.toArray++Array.replicate (fn.ntmps-vs.toArray.size) undef).size=_;rw[Array.size_append,Array.size_replicate,ab6];omega
  ·obtain⟨v,hv,hx⟩:=P8 t y hy;refine⟨v,?_,hx⟩;show(vs.toArray++Array.replicate (fn.ntmps-vs.toArray.size) undef)[t]?=_;rw[Array.getElem?_append,if_pos (by rw[ab6];exact(aag.1 hv).1)];simpa using hv
 obtain⟨q,h3,h4⟩:=T.hit_bind (h x (r,z) (Rp ⟨bs,S,hs,he⟩) hr);refine calls_of_wp hf hb (wp_mono (AS (cx:=cx) nT h3 ⟨bs,S,hs,he⟩ fun j z hz=>by rw[hl,ab7];exact hz) fun e a' w' hq=>?_);cases e with
 | ret=>
  obtain⟨r',dK,rfl,bn,S1,S',fV,Ai,k1,k4,v,k2,k3⟩:=hq;have h4:=T.hit_op h4;cases e2:pw R.pb lr dK with
  | none=>rw[e2] at h4;cases h4
  | some z'=>
   rw[e2] at h4;injection h4 with h4
   injection h4 with e3 e4
   subst e3 e4;rw[U2] at k2;rw[←nT] at e2;obtain⟨us,q1,_⟩:=oi e2 fV Ai;refine⟨Ai.d,v,k2,v,us,S1,rfl,q1,(Im k3).keep (fun b hb=>?_) (aA.refl _ _) (jB.refl _)⟩;rcases k4 with k4|k4
   ·exact absurd (nT▸k4) akg
   ·exact k4 b hb
 | normal=>
  obtain⟨dK,rfl,bn,S1,fV,Ai⟩:=hq;simp only at h4;split at h4
  ·rename_i si;have h4:=T.hit_op h4;cases e2:pw R.pb lr dK with
   | none=>rw[e2] at h4;cases h4
   | some z'=>
    rw[e2] at h4;injection h4 with h4
    injection h4 with e3 e4
    subst e3 e4;rw[U2] at si;rw[←nT] at e2;obtain⟨us,q1,_⟩:=oi e2 fV Ai;have PI:fn.results=#[]:=by
     have:fn.results.toList=[]:=List.isEmpty_iff.1 si;rw[←acd (xs:=fn.results),this]
    exact⟨Ai.d,_,results_none PI _ _ _,_,us,S1,rfl,q1,[],rfl,.nil⟩
  ·exact h4.elim
 | exit id=>
  obtain⟨dK,rfl,_⟩:=hq;exact h4.elim
 | _=>exact hq.elim
end Go.Proofs.YtdbpbfglhbiadaaGreatDoor
