/- MEff MEfb -/
import Derived.Test.YtdbpbfglhbiadaaGreatDoorH00
import Derived.Test.YtdbpbfglhbiadaaGreatDoorH29
set_option maxHeartbeats 4000000
set_option maxRecDepth 100000
namespace Go.Proofs.YtdbpbfglhbiadaaGreatDoor
open Go Go.RowKit
def ew (P:Program) (f:FuncId) (pb:List Nat) (l0 lr:List (Nat×SS)) (F:aV l0->T (XV×aV lr)):Prop:=
 ∀(cx:Cx) (bs:List Value) (S:Nat->Prop) (vs:List Value) (x:aV l0) (r:XV) (z:aV lr),cx.pb=pb->(∀b,S b->cx.S0 b)->HS cx bs cx.w0 S (cN l0 x).heap->(∀i y,(i,y)∈(cN l0 x).env->∃v,vs[i]?=some v/\XR bs cx.w0 S y v)->vs.length=l0.length->(F x).hit (r,z)->
  Calls P f vs.toArray cx.w0 λe w'=>∃v aZ S',e=.returned v/\HS cx aZ w' S' (cN lr z).heap/\XR [] w' S' r v
structure Em (P:Program) where
 f:FuncId
 pb:List Nat
 l0:List (Nat×SS)
 lr:List (Nat×SS)
 F:aV l0->T (XV×aV lr)
 ok:ew P f pb l0 lr F
def vW:List (Option Nat)->List ah->List ah
 | [],H=>H
 | some o::l,H=>vW l (H.set o .dead)
 | none::l,H=>vW l H
def setB:List (Option Nat)->List ah->List ah->List ah
 | some o::ids,.cells ty cs::ys,H=>setB ids ys (H.set o (.cells ty cs))
 | _::ids,_::ys,H=>setB ids ys H
 | _,_,H=>H
def ah.solid:ah->Bool
 | .row _ _ _=>true
 | .zc _ _ _ _ _ _=>true
 | .mp _ _ _ _=>true
 | .mq _=>true
 | .mr _ _ _ _ _ _=>true
 | _=>false
def yg:List ah->List ah
 | []=>[]
 | y::l=>(bif y.solid then y else .dead)::yg l
def QK (ids:List (Option Nat)) (H ys:List ah):List ah:=setB ids ys (vW ids H)++yg ys
section
variable {cx:Cx} {bs aZ us:List Value} {w w':World} {S S':Nat->Prop} {H:List ah}
theorem nP:∀{ids:List (Option Nat)} {H:List ah},(vW ids H).length=H.length
 | [],_=>rfl
 | some o::l,H=>by show(vW l _).length=_;rw[nP,ab1]
 | none::l,H=>nP (ids:=l)
theorem rQ:∀{ids:List (Option Nat)} {H:List ah} {i:Nat} {x:ah},(vW ids H)[i]?=some x->x=.dead\/(H[i]?=some x/\some i∉ids)
 | [],_,_,_,h=>.inr ⟨h,by simp⟩
 | some o::l,H,i,x,h=>by
  rcases rQ (ids:=l) h with h|⟨h,hn⟩
  ·exact .inl h
  ·by_cases e:o=i
   ·subst e;have hl:=(aad.1 h).1;rw[ab1] at hl;rw[abv hl] at h;exact .inl (aaj h).symm
   ·rw[aaS e] at h;exact .inr ⟨h,λhm=>by rcases abs.1 hm with q|q;(· injection q with q;exact e q.symm);exact hn q⟩
 | none::l,H,i,x,h=>by
  rcases rQ (ids:=l) (H:=H) h with h|⟨h,hn⟩
  ·exact .inl h
  ·exact .inr ⟨h,λhm=>by rcases abs.1 hm with q|q;(· cases q);exact hn q⟩
theorem fv:∀{ids:List (Option Nat)} {ys H:List ah},(setB ids ys H).length=H.length
 | some o::ids,.cells ty cs::ys,H=>by show(setB ids ys _).length=_;rw[fv,ab1]
 | some o::ids,.row t e rs::ys,H=>fv (ids:=ids) (ys:=ys)
 | some o::ids,.dead::ys,H=>fv (ids:=ids) (ys:=ys)
 | some o::ids,.zc _ _ _ _ _ _::ys,H=>fv (ids:=ids) (ys:=ys)
 | some o::ids,.zip _ _ _ _ _ _ _ _::ys,H=>fv (ids:=ids) (ys:=ys)
 | some o::ids,.mp _ _ _ _::ys,H=>fv (ids:=ids) (ys:=ys)
 | some o::ids,.mq _::ys,H=>fv (ids:=ids) (ys:=ys)
 | some o::ids,.mr _ _ _ _ _ _::ys,H=>fv (ids:=ids) (ys:=ys)
 | some o::ids,.mx _ _ _ _ _ _ _::ys,H=>fv (ids:=ids) (ys:=ys)
 | none::ids,_::ys,H=>fv (ids:=ids) (ys:=ys)
 | [],_,H=>by unfold setB;rfl
 | some _::_,[],H=>by unfold setB;rfl
 | none::_,[],H=>by unfold setB;rfl
theorem fV:∀{ids:List (Option Nat)} {ys H:List ah} {i:Nat} {x:ah},(setB ids ys H)[i]?=some x->H[i]?=some x\/∃(k:Nat) (ty:TypeId) (cs:List AV),x=.cells ty cs/\ids[k]?=some (some i)/\ys[k]?=some (.cells ty cs)
 | some o::ids,.cells ty cs::ys,H,i,x,h=>by
  rcases fV (ids:=ids) (ys:=ys) h with h|⟨k,oN,hZ,e,h1,h2⟩
  ·by_cases e:o=i
   ·subst e;have hl:=(aad.1 h).1;rw[ab1] at hl;rw[abv hl] at h;exact .inr ⟨0,ty,cs,(aaj h).symm,rfl,rfl⟩
   ·rw[aaS e] at h;exact .inl h
  ·exact .inr ⟨k+1,oN,hZ,e,h1,h2⟩
 | some o::ids,.row t e rs::ys,H,i,x,h=>by
  rcases fV (ids:=ids) (ys:=ys) (H:=H) h with h|⟨k,oN,hZ,e,h1,h2⟩
  ·exact .inl h
  ·exact .inr ⟨k+1,oN,hZ,e,h1,h2⟩
 | some o::ids,.dead::ys,H,i,x,h=>by
  rcases fV (ids:=ids) (ys:=ys) (H:=H) h with h|⟨k,oN,hZ,e,h1,h2⟩
  ·exact .inl h
  ·exact .inr ⟨k+1,oN,hZ,e,h1,h2⟩
 | some o::ids,.zc _ _ _ _ _ _::ys,H,i,x,h=>by
  rcases fV (ids:=ids) (ys:=ys) (H:=H) h with h|⟨k,oN,hZ,e,h1,h2⟩
  ·exact .inl h
  ·exact .inr ⟨k+1,oN,hZ,e,h1,h2⟩
 | some o::ids,.zip _ _ _ _ _ _ _ _::ys,H,i,x,h=>by
  rcases fV (ids:=ids) (ys:=ys) (H:=H) h with h|⟨k,oN,hZ,e,h1,h2⟩
  ·exact .inl h
  ·exact .inr ⟨k+1,oN,hZ,e,h1,h2⟩
 | some o::ids,.mp _ _ _ _::ys,H,i,x,h=>by
  rcases fV (ids:=ids) (ys:=ys) (H:=H) h with h|⟨k,oN,hZ,e,h1,h2⟩
  ·exact .inl h
  ·exact .inr ⟨k+1,oN,hZ,e,h1,h2⟩
 | some o::ids,.mq _::ys,H,i,x,h=>by
  rcases fV (ids:=ids) (ys:=ys) (H:=H) h with h|⟨k,oN,hZ,e,h1,h2⟩
  ·exact .inl h
  ·exact .inr ⟨k+1,oN,hZ,e,h1,h2⟩
 | some o::ids,.mr _ _ _ _ _ _::ys,H,i,x,h=>by
  rcases fV (ids:=ids) (ys:=ys) (H:=H) h with h|⟨k,oN,hZ,e,h1,h2⟩
  ·exact .inl h
  ·exact .inr ⟨k+1,oN,hZ,e,h1,h2⟩
 | some o::ids,.mx _ _ _ _ _ _ _::ys,H,i,x,h=>by
  rcases fV (ids:=ids) (ys:=ys) (H:=H) h with h|⟨k,oN,hZ,e,h1,h2⟩
  ·exact .inl h
  ·exact .inr ⟨k+1,oN,hZ,e,h1,h2⟩
 | none::ids,_::ys,H,i,x,h=>by
  rcases fV (ids:=ids) (ys:=ys) (H:=H) (by simpa[setB] using h) with h|⟨k,oN,hZ,e,h1,h2⟩
  ·exact .inl h
  ·exact .inr ⟨k+1,oN,hZ,e,h1,h2⟩
 | [],_,H,i,x,h=>by unfold setB at h;exact .inl h
 | some _::_,[],H,i,x,h=>by unfold setB at h;exact .inl h
 | none::_,[],H,i,x,h=>by unfold setB at h;exact .inl h
theorem ye:∀{ys:List ah},(yg ys).length=ys.length
 | []=>rfl
 | _::l=>by show(yg l).length+1=_;rw[ye];rfl
theorem yf:∀{ys:List ah} {i:Nat} {x:ah},(yg ys)[i]?=some x->x=.dead\/(ys[i]?=some x/\x.solid=true)
 | y::l,0,x,h=>by
  have h:(bif y.solid then y else .dead)=x:=aaj h;cases e:y.solid with
  | true=>rw[e] at h;have h:y=x:=h;subst h;exact .inr ⟨rfl,e⟩
  | false=>rw[e] at h;exact .inl h.symm
 | _::l,i+1,x,h=>yf (ys:=l) (i:=i) (by simpa[yg] using h)
 | [],_,_,h=>by cases h
theorem uw.same {p n:Nat} {kt:Kt} {t:Ty} {e:TypeId} {f:kt.K->Option (List (El t))} {x:kt.K->Prop} {v:Value} (h:uw bs w S p kt t e n f x v) (hb:∀c,xh kt x v c->w'.heap[c]?=w.heap[c]?) (hk:aw S w w') (hS:∀b,S b->S' b) (hn:∀c,S' c->c<w'.heap.size/\¬xh kt x v c) (Ga:iV bs aZ):uw aZ w' S' p kt t e n f x v:=by
 obtain⟨b,l,g,rfl,h1,h2,h3,h4,h5,h6⟩:=h;have AP:∀k u c,¬x k->g k=some u->u.ownBlock=some c->xh kt x (sx b l) c:=λk u c hx hu hc=>⟨b,l,rfl,.inr ⟨k,u,hx,(h3 k u).1 hu,hc⟩⟩;refine⟨b,l,g,rfl,Ga _ _ h1 rfl,h2.same (hb b ⟨b,l,rfl,.inl rfl⟩),h3,λk hx=>?_,h5,h6⟩;have:=h4 k hx;cases hf:f k with
 | none=>rw[hf] at this;exact this
 | some xs=>
  rw[hf] at this;obtain⟨u,hu,cs,⟨q1,q2⟩,q3,q4⟩:=this;refine⟨u,hu,cs,⟨q1,?_⟩,q3.keep hS hk,λc hc=>⟨(hn c hc).1,λe=>(hn c hc).2 (AP k u c hx hu e.symm)⟩⟩;rcases q2 with q2|⟨g',cap,cur,rfl,r3,r4,r5⟩
  ·exact .inl q2
  ·exact .inr ⟨g',cap,cur,rfl,r3,(hb g' (AP k _ g' hx hu rfl)).trans r4,r5⟩
theorem OR.same {x:ah} {v:Value} (h:OR bs w S x v) (hb:∀b,Bk x v b->w'.heap[b]?=w.heap[b]?) (_:w.heap.size<=w'.heap.size) (hk:aw S w w') (hS:∀b,S b->S' b) (hn:∀b,S' b->b<w'.heap.size/\¬Bk x v b) (Ga:iV bs aZ):OR aZ w' S' x v:=by
 cases x with
 | cells ty cs=>
  obtain⟨g,vs,rfl,h1,h2⟩:=h;exact⟨g,vs,rfl,(hb g rfl).trans h1,h2.mono λ_ _ h=>h.keep hS hk Ga⟩
 | row t e rs=>
  obtain⟨cs,⟨q1,q2⟩,h2,h3⟩:=h;refine⟨cs,⟨q1,?_⟩,h2.keep hS hk,λb mz=>⟨(hn b mz).1,λe=>(hn b mz).2 e.symm⟩⟩;rcases q2 with q2|⟨g,cap,cur,rfl,q3,q4,q5⟩
  ·exact .inl q2
  ·exact .inr ⟨g,cap,cur,rfl,q3,(hb g rfl).trans q4,q5⟩
 | zc e t tn gO done rest=>
  obtain⟨bE,⟨cs,⟨q1,q2⟩,h2,h3⟩,hz⟩:=h;refine⟨bE,⟨cs,⟨q1,?_⟩,h2.keep hS hk,λb mz=>⟨(hn b mz).1,λe=>(hn b mz).2 e.symm⟩⟩,hz.keep hS hk⟩;rcases q2 with q2|⟨g,cap,cur,rfl,q3,q4,q5⟩
  ·exact .inl q2
  ·exact .inr ⟨g,cap,cur,rfl,q3,(hb g rfl).trans q4,q5⟩
 | zip o2 e t tn gO done cur rest=>
  obtain⟨bE,⟨cs,⟨q1,q2⟩,h2,h3⟩,hz,hl,u,rW,qZ,hu3⟩:=h;refine⟨bE,⟨cs,⟨q1,?_⟩,h2.keep hS hk,λb mz=>⟨(hn b mz).1,λe=>(hn b mz).2 e.symm⟩⟩,hz.keep hS hk Ga,hl,u,Ga _ _ rW qZ,qZ,hu3⟩;rcases q2 with q2|⟨g,cap,cur,rfl,q3,q4,q5⟩
  ·exact .inl q2
  ·exact .inr ⟨g,cap,cur,rfl,q3,(hb g rfl).trans q4,q5⟩
 | dead=>exact trivial
 | mp kt t n f=>obtain⟨b',g,rfl,h1,h2⟩:=h;exact⟨b',g,rfl,h1.same (hb b' rfl),λk=>(h2 k).keep hS hk⟩
 | mq q=>exact h
 | mr p kt t e n f=>exact uw.same h hb hk hS hn Ga
 | mx p kt t e n f k=>exact uw.same h hb hk hS hn Ga
end
inductive Sh (n:Nat):ah->ah->Prop where
 | row {t:Ty} {e:TypeId} {rs:List (El t)}:Sh n (.row t e rs) (.row t e rs)
 | cells {ty:TypeId} {cs hZ:List AV}:(∀(bs aZ:List Value) (w:World) (S:Nat->Prop) (vs:List Value),bs.length=n->F2 (VR aZ w S) cs vs->F2 (VR (bs++aZ) w S) hZ vs)->Sh n (.cells ty cs) (.cells ty hZ)
 | dead:Sh n .dead .dead
 | zc {e:TypeId} {t tn:Ty} {gO:Nat} {done:List (El t)} {rest:List (El tn)}:Sh n (.zc e t tn gO done rest) (.zc e t tn gO done rest)
 | zip {o o':Nat} {e:TypeId} {t tn:Ty} {gO:Nat} {done:List (El t)} {cur agB:List AV} {rest:List (El tn)}:Sh n (.zip o e t tn gO done cur rest) (.zip o' e t tn gO done agB rest)
 | mp {kt:Kt} {t:Ty} {m:Nat} {f:kt.K->Option (El t)}:Sh n (.mp kt t m f) (.mp kt t m f)
 | mq {q q':Nat}:Sh n (.mq q) (.mq q')
 | mr {p:Nat} {kt:Kt} {t:Ty} {e:TypeId} {m:Nat} {f:kt.K->Option (List (El t))}:Sh n (.mr p kt t e m f) (.mr (n+p) kt t e m f)
theorem Sh.solid {n:Nat} {y0 y:ah} (h:Sh n y0 y) (hs:y.solid=true):(∀u b,Bk y u b->Bk y0 u b)/\∀(bs aZ:List Value) (w:World) (S:Nat->Prop) (u:Value),bs.length=n->OR aZ w S y0 u->OR (bs++aZ) w S y u:=by
 cases h with
 | row=>exact⟨λ_ _ h=>h,λ_ _ _ _ _ _ h=>h⟩
 | zc=>exact⟨λ_ _ h=>h,λ_ _ _ _ _ _ h=>h⟩
 | mp=>exact⟨λ_ _ h=>h,λ_ _ _ _ _ _ h=>h⟩
 | mq=>exact⟨λ_ _ h=>h,λ_ _ _ _ _ _ h=>h⟩
 | mr=>
  refine⟨λ_ _ h=>h,λbs aZ w S u hl ⟨b,l,g,e,h1,r⟩=>⟨b,l,g,e,?_,r⟩⟩;rw[<-hl,aar (by omega),abB];exact h1
 | _=>cases hs
section
variable {n:Nat}
theorem Zf {bs aZ:List Value} {w:World} {S:Nat->Prop} {t:Ty} {x:El t} {v:Value} (h:VR bs w S (one t x) v):VR aZ w S (one t x) v:=by
 cases t<;>exact h
theorem Iy {s:ZS} {x:ZV s} {k j:Nat}:(Cy k s x).2.length=(Cy j s x).2.length:=by cases s<;>rfl
theorem Cw:∀{l:List ZS} {x:Bm l} {k j:Nat},(rH k l x).2.length=(rH j l x).2.length
 | [],_,_,_=>rfl
 | s::l,x,k,j=>by
  show((Cy k s x.1).2++_).length=((Cy j s x.1).2++_).length;rw[aaM,aaM,Iy (k:=k) (j:=j),Cw (l:=l)]
theorem Ix:∀{l:List ZS} {x:Bm l} {k:Nat},F2 (Sh n) (rH k l x).2 (rH (n+k) l x).2
 | [],_,_=>.nil
 | s::l,x,k=>by
  have h1:F2 (Sh n) (Cy k s x.1).2 (Cy (n+k) s x.1).2:=by
   cases s with
   | d t=>exact .nil
   | own t e=>exact .cons .row .nil
   | any=>exact .cons .dead .nil
  have h3:=Ix (l:=l) (x:=x.2) (k:=k+(Cy k s x.1).2.length);have e:n+(k+(Cy k s x.1).2.length)=n+k+(Cy (n+k) s x.1).2.length:=by rw[Iy (k:=k) (j:=n+k)];omega
  rw[e] at h3;exact h1.append h3
theorem OM {s:CS} {x:CV s} {k:Nat}:F2 (Sh n) (tP k s x).2 (tP (n+k) s x).2/\∀(bs aZ:List Value) (w:World) (S:Nat->Prop) (v:Value),bs.length=n->VR aZ w S (tP k s x).1 v->VR (bs++aZ) w S (tP (n+k) s x).1 v:=by
 cases s with
 | d t=>exact⟨.nil,λbs aZ w S v _ h=>Zf h⟩
 | own t e=>
  refine⟨.cons .row .nil,λbs aZ w S v hl h=>⟨?_,h.2⟩⟩;rw[<-hl,aar (by omega),abB];exact h.1
 | any=>
  refine⟨.cons .dead .nil,λbs aZ w S v hl h=>⟨?_,h.2⟩⟩;rw[<-hl,aar (by omega),abB];exact h.1
 | zc t tn e=>
  refine⟨.cons .zc .nil,λbs aZ w S v hl h=>⟨?_,h.2⟩⟩;rw[<-hl,aar (by omega),abB];exact h.1
 | zip t tn e zs=>
  refine⟨.cons .zip (.cons .dead ?_),λbs aZ w S v hl h=>⟨?_,h.2⟩⟩
  ·have:=Ix (n:=n) (l:=zs) (x:=x.2.2.1) (k:=k+2)
   rwa [<-acv] at this
  ·rw[<-hl,aar (by omega),abB];exact h.1
 | mp kt t=>
  refine⟨.cons .mp .nil,λbs aZ w S v hl h=>⟨?_,h.2⟩⟩;rw[<-hl,aar (by omega),abB];exact h.1
 | mr kt t e=>
  refine⟨.cons .mq (.cons .mr .nil),λbs aZ w S v hl h=>⟨?_,h.2⟩⟩;rw[<-hl,aar (by omega),abB];exact h.1
theorem Ui {s:CS} {x:CV s} {k j:Nat}:(tP k s x).2.length=(tP j s x).2.length:=by
 cases s with
 | zip t tn e zs=>
  show(rH (k+2) zs x.2.2.1).2.length+1+1=(rH (j+2) zs x.2.2.1).2.length+1+1;rw[Cw]
 | _=>rfl
theorem IA:∀{l:List CS} {x:eB l} {k:Nat},F2 (Sh n) (rK k l x).2 (rK (n+k) l x).2/\∀(bs aZ:List Value) (w:World) (S:Nat->Prop) (vs:List Value),bs.length=n->F2 (VR aZ w S) (rK k l x).1 vs->F2 (VR (bs++aZ) w S) (rK (n+k) l x).1 vs
 | [],_,_=>⟨.nil,λ_ _ _ _ _ _ h=>by cases h;exact .nil⟩
 | s::l,x,k=>by
  obtain⟨h1,h2⟩:=OM (n:=n) (s:=s) (x:=x.1) (k:=k);obtain⟨h3,h4⟩:=IA (l:=l) (x:=x.2) (k:=k+(tP k s x.1).2.length);have e:n+(k+(tP k s x.1).2.length)=n+k+(tP (n+k) s x.1).2.length:=by rw[Ui (k:=k) (j:=n+k)];omega
  rw[e] at h3 h4;refine⟨h1.append h3,λbs aZ w S vs hl h=>?_⟩;cases h with
  | cons q1 q2=>exact .cons (h2 bs aZ w S _ hl q1) (h4 bs aZ w S _ hl q2)
theorem Zt {s:SS} {x:SW s} {k:Nat}:F2 (Sh n) (xi k s x).2 (xi (n+k) s x).2:=by
 cases s with
 | c s=>exact(OM (n:=n) (s:=s) (x:=x) (k:=k)).1
 | st q=>exact .nil
 | fn k=>exact .nil
 | rf k=>exact .nil
 | cl k t=>exact .nil
 | sb o o2=>exact .nil
 | box ty cs=>
  obtain⟨h3,h4⟩:=IA (n:=n) (l:=cs) (x:=x) (k:=k+1);exact .cons (.cells h4) h3
theorem OL:∀{l:List (Nat×SS)} {x:aV l} {k:Nat},F2 (Sh n) (rJ k l x).2 (rJ (n+k) l x).2
 | [],_,_=>.nil
 | p::l,x,k=>by
  have h1:=Zt (n:=n) (s:=p.2) (x:=x.1) (k:=k);have h2:=OL (l:=l) (x:=x.2) (k:=k+(xi k p.2 x.1).2.length);have e:n+(k+(xi k p.2 x.1).2.length)=n+k+(xi (n+k) p.2 x.1).2.length:=by rw[h1.length];omega
  rw[e] at h2;exact h1.append h2
end
def Js (ys:List ah):List Nat:=(List.range ys.length).filter λi=>match ys[i]? with
 | some (.cells _ _)=>true
 | _=>false
def Jf (ids:List (Option Nat)):Bool:=Da [] ids
def abf {P:Program} (E:Em P) (_:Env) (H:List ah) (xs:Option (List XV)):T (XV×List ah):=match xs with
 | some xs=>match Ci H (qh 0 xs) E.l0 with
  | some (x,ids)=>if Qt P E.f&&Jf ids&&xs.length==E.l0.length&&Js (cN E.l0 x).heap==E.pb then (E.F x).bind λq=>if q.1.free&&Js (rJ H.length E.lr q.2).2==E.pb&&(rJ H.length E.lr q.2).2.length==ids.length then .lf (q.1,QK ids H (rJ H.length E.lr q.2).2) else .bad
   else .bad
  | none=>.bad
 | none=>.bad
section
variable {P:Program} {o:Oper} {cx:Cx} {bs:List Value} {w:World} {S:Nat->Prop} {H:List ah} {m:Nat} {env:Env} {a:Act} {K:Act->World->Prop} {Q:Exit->Act->World->Prop}
theorem zg {ys:List ah} {i:Nat}:i∈Js ys↔∃ty cs,ys[i]?=some (.cells ty cs):=by
 unfold Js;rw[ac6,abU];constructor
 ·rintro⟨_,h⟩;split at h
  ·rename_i ty cs e;exact⟨ty,cs,e⟩
  ·cases h
 ·rintro⟨ty,cs,e⟩;exact⟨(aad.1 e).1,by rw[e]⟩
theorem Dx {ids:List (Option Nat)} (h:Jf ids=true) {i j p:Nat} (hi:ids[i]?=some (some p)) (hj:ids[j]?=some (some p)):i=j:=by
 unfold Jf Da at h;rw[aav] at h;have h:=h.1;have Mu:=(aad.1 hi).1;have hjl:=(aad.1 hj).1;rcases Nat.lt_trichotomy i j with hlt|e|hlt
 ·have:=abc.1 (abc.1 h j (abU.2 hjl)) i (abU.2 hlt);rw[hi,hj] at this;simp at this
 ·exact e
 ·have:=abc.1 (abc.1 h i (abU.2 Mu)) j (abU.2 hlt);rw[hi,hj] at this;simp at this
theorem VH (hs:HS cx bs w S H) (he:ER m bs w S env a) {E:Em P} {args:Array Operand} {ts:Array TypeId} (hop:o.op=.call { callee:=.value (.func E.f),args:=args,argTypes:=ts }) {r:XV×List ah} (h:(abf E env H (jt env args.toList)).hit r) (hK:∀v w' aZ S',HS cx aZ w' S' r.2->(∀b,S b->S' b)->aw S w w'->iV bs aZ->XR aZ w' S' r.1 v->K (a.put o.dst v) w'):o.wp P a w K Q:=by
 unfold abf at h;split at h
 ·rename_i xs Lb;split at h
  ·rename_i x ids Sn;split at h
   ·rename_i hc;simp only[aav,beq_iff_eq] at hc;obtain⟨⟨⟨PX,kT⟩,bJ⟩,nQ⟩:=hc;obtain⟨q,h1,h2⟩:=T.hit_bind h;split at h2
    ·rename_i hc2;simp only[aav,beq_iff_eq] at hc2;obtain⟨⟨wl,aln⟩,Db⟩:=hc2;obtain⟨r0,z⟩:=q;have h2:(r0,_)=r:=h2;subst h2;have ha:=je he Lb;have hea:ER xs.length bs w S (qh 0 xs) ⟨(args.toList.map a.eval).toArray,[]⟩:=by
      refine⟨rfl,by show(args.toList.map a.eval).toArray.size=_;rw[acc,ha.length],ui ha λj v hj=>?_⟩;rw[acg];simpa using hj
     obtain⟨Sn,Sl⟩:=Ia Sn;obtain⟨us,re,kk⟩:=zW hs hea Sn 0;obtain⟨k1,k2⟩:=kk us (λj u hj=>by rw[acg];exact hj) (Sl _ _);have rl:=re.len
     let M:Nat->Prop:=λb=>∃(k:Nat) (y:ah) (u:Value),(cN E.l0 x).heap[k]?=some y/\us[k]?=some u/\Bk y u b
     have hM:∀b,M b->∃(k p:Nat) (y:ah) (u:Value),ids[k]?=some (some p)/\H[p]?=some y/\bs[p]?=some u/\us[k]?=some u/\Bk y u b:=by
      rintro b ⟨k,y,u,g1,g2,g3⟩;rcases re.get k y u g1 g2 with⟨p,x1,q1,q2,q3,q4⟩|⟨_,q⟩
      ·exact⟨k,p,x1,u,q1,q2,q3,g2,Bi q4 g3⟩
      ·exact absurd g3 (q b)
     have hMS:∀b,M b->¬S b:=λb hb=>by
      obtain⟨k,p,y,u,_,g2,g3,_,g5⟩:=hM b hb;exact(hs.nw p y u b g2 g3 g5).2
     have hM0:∀b,M b->cx.w0.heap.size<=b\/cx.M b:=λb hb=>by
      obtain⟨k,p,y,u,_,g2,g3,_,g5⟩:=hM b hb;exact(hs.nw p y u b g2 g3 g5).1
     let cx':Cx:=⟨w,S,M,us,E.pb,λw2 h1 h2 h3 h4 h5=>cx.wk w2 (aax hs.size h1) (h2.trans hs.os) (h3.trans hs.tape) (h4.trans hs.output) λb hb hm=>(h5 b (abx hb hs.size) λq=>(hM0 b q).elim (λq=>by omega) hm).trans (hs.old b hb hm)⟩
     have hsc:HS cx' us w S (cN E.l0 x).heap:=by
      refine⟨rl.2,λi y v hy hv=>k2 i y v hy hv,?_,?_,λb q=>⟨(hs.s b q).1,.inl q⟩,λ_ h=>h,rfl,rfl,rfl,aaG _,λ_ _ _=>rfl,λ_ _ _ h _=>h⟩
      ·intro i j y y2 u v b xl hy hu hz hv ci bX;rcases re.get i y u hy hu with⟨p,x1,q1,q2,q3,q4⟩|⟨_,q⟩
       ·rcases re.get j y2 v hz hv with⟨p',x2,q5,q6,q7,q8⟩|⟨_,q⟩
        ·exact hs.ap p p' x1 x2 u v b (λep=>xl (Dx kT q1 (ep▸q5))) q2 q3 q6 q7 (Bi q4 ci) (Bi q8 bX)
        ·exact absurd bX (q b)
       ·exact absurd ci (q b)
      ·intro i y u b hy hu hb;exact⟨.inr ⟨i,y,u,hy,hu,hb⟩,hMS b ⟨i,y,u,hy,hu,hb⟩⟩
     have P0:∀i y,(i,y)∈(cN E.l0 x).env->∃v,(args.toList.map a.eval)[i]?=some v/\XR us w S y v:=λi y hy=>by
      obtain⟨v,q1,q2⟩:=k1 i y hy;exact⟨v,by simpa using q1,q2⟩
     have bG:=E.ok cx' us S _ x r0 z rfl (λ_ h=>h) hsc P0 (by rw[<-ha.length];exact bJ) h1;unfold Oper.wp execOp;have hev:a.eval (.func E.f)=.func (.func E.f) #[] #[]:=rfl;have qo:(args.toList.map a.eval).toArray=args.map a.eval:=by rw[<-adg]
     simp only[hop,resolve,hev,Deferred.ofValue,Sem.run_bind,Sem.run_pure,Result.andThen_ok,invoke,Array.empty_append,Array.append_empty,lB PX,Oper.upon_enter];rw[<-qo];refine bG.mono λe w' yK=>?_;obtain⟨v,aZ,S',rfl,fo,hr⟩:=yK;have XB:∀b,S b->S' b:=fo.s0;have hold:∀b,b<w.heap.size->¬M b->w'.heap[b]?=w.heap[b]?:=fo.old;have bM:aw S w w':=λp hp=>hold p (hs.s _ hp).1 λhm=>hMS _ hm hp;have Sk:F2 (Sh H.length) (rJ 0 E.lr z).2 (rJ H.length E.lr z).2:=by
      have:=OL (n:=H.length) (l:=E.lr) (x:=z) (k:=0)
      rwa [adq] at this
     have AP:aZ.length=(rJ H.length E.lr z).2.length:=by rw[<-Sk.length];exact fo.len
     have wu:iV bs (bs++aZ):=λi u hu _=>by rw[aay (aad.1 hu).1];exact hu
     have Qf:∀{k:Nat} {ty:TypeId} {cs:List AV} {i:Nat},ids[k]?=some (some i)->(rJ H.length E.lr z).2[k]?=some (.cells ty cs)->∃so g,(cN E.lr z).heap[k]?=some (.cells ty so)/\aZ[k]?=some (.pointer (some ⟨g,0,none⟩))/\bs[i]?=some (.pointer (some ⟨g,0,none⟩))/\(∃R2 c0,H[i]?=some (.cells R2 c0))/\OR (bs++aZ) w' S' (.cells ty cs) (.pointer (some ⟨g,0,none⟩)):=by
      intro k ty cs i hk hy;have Xp:k∈E.pb:=by rw[<-aln];exact zg.2 ⟨ty,cs,hy⟩
      have AK:=Xp;rw[<-nQ] at AK;obtain⟨ty1,cs1,ci⟩:=zg.1 AK;have PQ:k<us.length:=by rw[rl.2];exact(aad.1 ci).1
      obtain⟨g,vs1,hu,_⟩:=k2 k _ _ ci (aac PQ);have huk:us[k]?=some (.pointer (some ⟨g,0,none⟩)):=by rw[aac PQ,hu]
      have bX:=fo.an k _ Xp huk rfl;obtain⟨so,af4,ak6⟩:∃so,(rJ 0 E.lr z).2[k]?=some (.cells ty so)/\Sh H.length (.cells ty so) (.cells ty cs):=by
       have PP:k<(rJ 0 E.lr z).2.length:=by rw[Sk.length];exact(aad.1 hy).1
       obtain⟨y',Mr,hq⟩:=Sk.get (aac PP);rw[hy] at Mr;obtain rfl:=aaj Mr;cases Sg:(rJ 0 E.lr z).2[k] with
       | cells oN hZ=>rw[Sg] at hq;cases hq with|cells hq=>exact⟨hZ,by rw[aac PP,Sg],.cells hq⟩
       | row t e rs=>rw[Sg] at hq;cases hq
       | zc e t tn gO done rest=>rw[Sg] at hq;cases hq
       | zip o2 e t tn gO done cur rest=>rw[Sg] at hq;cases hq
       | _=>rw[Sg] at hq;cases hq
      obtain⟨g',vs,e2,gM,hf⟩:=fo.o k _ _ af4 bX;rcases re.get k _ _ ci huk with⟨p,x1,q1,q2,q3,q4⟩|⟨q1,_⟩
      ·rw[hk] at q1;obtain rfl:=aaj (aaj q1);refine⟨so,g,af4,bX,q3,?_,g',vs,e2,gM,?_⟩
       ·cases x1 with
        | cells R2 c0=>exact⟨R2,c0,q2⟩
        | row t e rs=>have:=hs.o i _ _ q2 q3;obtain⟨A,n,c,e,_⟩:=Own.slice (α:=El t) this;cases e
        | zc e t tn gO done rest=>obtain⟨bE,this,_⟩:=hs.o i _ _ q2 q3;obtain⟨A,n,c,e,_⟩:=Own.slice this;cases e
        | zip o2 e t tn gO done cur rest=>obtain⟨bE,this,_⟩:=hs.o i _ _ q2 q3;obtain⟨A,n,c,e,_⟩:=Own.slice this;cases e
        | dead=>exact absurd (q4 _ rfl) (λh=>by cases h)
        | mp kt t n f=>obtain⟨_,_,e,_⟩:=hs.o i _ _ q2 q3;cases e
        | mq q=>obtain⟨_,e⟩:=hs.o i _ _ q2 q3;cases e
        | mr p kt t e n f=>obtain⟨_,_,_,e,_⟩:=hs.o i _ _ q2 q3;cases e
        | mx p kt t e n f k=>obtain⟨_,_,_,e,_⟩:=hs.o i _ _ q2 q3;cases e
       ·cases ak6 with|cells hq=>exact hq bs aZ w' S' vs hs.len hf
      ·rw[hk] at q1;cases q1
     have om:∀{i:Nat} {y:ah} {u:Value},(QK ids H (rJ H.length E.lr z).2)[i]?=some y->(bs++aZ)[i]?=some u-> y=.dead\/(H[i]?=some y/\bs[i]?=some u/\some i∉ids)\/(∃(k g:Nat) (ty:TypeId) (cs:List AV) (so:List AV) (R2:TypeId) (c0:List AV),y=.cells ty cs/\ids[k]?=some (some i)/\u=.pointer (some ⟨g,0,none⟩)/\bs[i]?=some u/\H[i]?=some (.cells R2 c0)/\aZ[k]?=some u/\(cN E.lr z).heap[k]?=some (.cells ty so)/\OR (bs++aZ) w' S' y u)\/ (∃(k:Nat) (y0:ah),y.solid=true/\i=H.length+k/\aZ[k]?=some u/\(cN E.lr z).heap[k]?=some y0/\Sh H.length y0 y):=by
      intro i y u hy hu;have fm:(setB ids (rJ H.length E.lr z).2 (vW ids H)).length=H.length:=by rw[fv,nP]
      unfold QK at hy;by_cases hi:i<H.length
      ·rw[aay (by rw[fm];exact hi)] at hy;rw[aay (by rw[hs.len];exact hi)] at hu;rcases fV hy with hy|⟨k,ty,cs,rfl,g1,g2⟩
       ·rcases rQ hy with hy|⟨hy,hn⟩
        ·exact .inl hy
        ·exact .inr (.inl ⟨hy,hu,hn⟩)
       ·obtain⟨so,g,q1,q2,q3,⟨R2,c0,q4⟩,q5⟩:=Qf g1 g2;rw[hu] at q3;obtain rfl:=aaj q3;exact .inr (.inr (.inl ⟨k,g,ty,cs,so,R2,c0,rfl,g1,rfl,hu,q4,q2,q1,q5⟩))
      ·rw[aar (by rw[fm];omega),fm] at hy;rw[aar (by rw[hs.len];omega),hs.len] at hu;rcases yf hy with hy|⟨hy,U6⟩
       ·exact .inl hy
       ·have PP:i-H.length<(rJ 0 E.lr z).2.length:=by rw[Sk.length];exact(aad.1 hy).1
        obtain⟨y',Mr,hq⟩:=Sk.get (aac PP);rw[hy] at Mr;obtain rfl:=aaj Mr;exact .inr (.inr (.inr ⟨i-H.length,_,U6,by omega,hu,aac PP,hq⟩))
     have o9:∀{i:Nat} {y:ah} {u:Value} {b:Nat},H[i]?=some y->bs[i]?=some u->some i∉ids->Bk y u b->b<w.heap.size/\¬M b:=by
      intro i y u b g1 g2 g3 g4;refine⟨(hs.o i y u g1 g2).lt g4,λhm=>?_⟩;obtain⟨k,p,y',u',q1,q2,q3,_,q5⟩:=hM b hm;refine hs.ap i p y y' u u' b (λe=>?_) g1 g2 q2 q3 g4 q5;subst e;exact g3 (acq q1)
     have dS:HS cx (bs++aZ) w' S' (QK ids H (rJ H.length E.lr z).2):=by
      refine⟨?_,?_,?_,?_,λb q=>?_,λb q=>XB b (hs.s0 b q),fo.os.trans hs.os,fo.tape.trans hs.tape,fo.output.trans hs.output,aax hs.size fo.size,λb q1 q2=>?_,λi v p q r=>wu i _ (hs.an i v p q r) r⟩
      ·unfold QK;rw[aaM,aaM,fv,nP,ye,hs.len,AP]
      ·intro i y u hy hu;rcases om hy hu with rfl|⟨g1,g2,g3⟩|⟨k,g,ty,cs,so,R2,c0,_,_,_,_,_,_,_,g9⟩|⟨k,g0,gs,_,g3,g4,gq⟩
       ·exact trivial
       ·exact(hs.o i y u g1 g2).same (λb hb=>hold b (o9 g1 g2 g3 hb).1 (o9 g1 g2 g3 hb).2) fo.size bM XB (λb q=>⟨(fo.s b q).1,λe=>by
         obtain⟨p1,_⟩:=o9 g1 g2 g3 e;rcases(fo.s b q).2 with q|q|q
         ·exact(hs.nw i y u b g1 g2 e).2 q
         ·have:w.heap.size<=b:=q;omega
         ·exact(o9 g1 g2 g3 e).2 q⟩) wu
       ·exact g9
       ·exact(gq.solid gs).2 bs aZ w' S' u hs.len (fo.o k _ _ g4 g3)
      ·intro i j y y2 u v b xl hy hu hz hv ci bX;have ad6:∀{k:Nat} {y:ah} {u:Value},aZ[k]?=some u->(cN E.lr z).heap[k]?=some y->Bk y u b->(w.heap.size<=b\/M b):=λg1 g2 g3=>(fo.nw _ _ _ b g2 g1 g3).1;rcases om hy hu with rfl|⟨g1,g2,g3⟩|⟨k,g,ty,cs,so,R2,c0,rfl,g2,rfl,g4,g5,g6,g7,_⟩|⟨k,g0,gs,g2,g3,g4,gq⟩
       ·cases ci
       ·rcases om hz hv with rfl|⟨p1,p2,p3⟩|⟨k',g',oN,hZ,agD,adD,c0',rfl,p2,rfl,p4,p5,p6,p7,_⟩|⟨k',p0,ps,p2,p3,p4,pq⟩
        ·cases bX
        ·exact hs.ap i j y y2 u v b xl g1 g2 p1 p2 ci bX
        ·exact hs.ap i j y _ u _ b xl g1 g2 p5 p4 ci bX
        ·obtain⟨q1,q2⟩:=o9 g1 g2 g3 ci;rcases ad6 p3 p4 ((pq.solid ps).1 _ _ bX) with q|q
         ·omega
         ·exact q2 q
       ·rcases om hz hv with rfl|⟨p1,p2,p3⟩|⟨k',g',oN,hZ,agD,adD,c0',rfl,p2,rfl,p4,p5,p6,p7,_⟩|⟨k',p0,ps,p2,p3,p4,pq⟩
        ·cases bX
        ·exact hs.ap i j _ y2 _ v b xl g5 g4 p1 p2 ci bX
        ·exact hs.ap i j _ _ _ _ b xl g5 g4 p5 p4 ci bX
        ·have wi:k≠k':=λe=>by subst e;rw[g7] at p4;obtain rfl:=aaj p4;cases pq;cases ps
         exact fo.ap k k' _ _ _ _ b wi g7 g6 p4 p3 ci ((pq.solid ps).1 _ _ bX)
       ·rcases om hz hv with rfl|⟨p1,p2,p3⟩|⟨k',g',oN,hZ,agD,adD,c0',rfl,p2,rfl,p4,p5,p6,p7,_⟩|⟨k',p0,ps,p2,p3,p4,pq⟩
        ·cases bX
        ·obtain⟨q1,q2⟩:=o9 p1 p2 p3 bX;rcases ad6 g3 g4 ((gq.solid gs).1 _ _ ci) with q|q
         ·omega
         ·exact q2 q
        ·have wi:k≠k':=λe=>by subst e;rw[p7] at g4;obtain rfl:=aaj g4;cases gq;cases gs
         exact fo.ap k k' _ _ _ _ b wi g4 g3 p7 p6 ((gq.solid gs).1 _ _ ci) bX
        ·exact fo.ap k k' _ _ _ _ b (λe=>xl (by omega)) g4 g3 p4 p3 ((gq.solid gs).1 _ _ ci) ((pq.solid ps).1 _ _ bX)
      ·intro i y u b hy hu hb;have agn:M b->cx.w0.heap.size<=b\/cx.M b:=λhm=>by
        obtain⟨k,p,y',u',_,q2,q3,_,q5⟩:=hM b hm;exact(hs.nw p y' u' b q2 q3 q5).1
       rcases om hy hu with rfl|⟨g1,g2,g3⟩|⟨k,g,ty,cs,so,R2,c0,rfl,g2,rfl,g4,g5,g6,g7,_⟩|⟨k,g0,gs,g2,g3,g4,gq⟩
       ·cases hb
       ·refine⟨(hs.nw i y u b g1 g2 hb).1,λq=>?_⟩;obtain⟨p1,_⟩:=o9 g1 g2 g3 hb;rcases(fo.s b q).2 with q|q|q
        ·exact(hs.nw i y u b g1 g2 hb).2 q
        ·have:w.heap.size<=b:=q;omega
        ·exact(o9 g1 g2 g3 hb).2 q
       ·exact⟨(hs.nw i _ _ b g5 g4 hb).1,(fo.nw k _ _ b g7 g6 hb).2⟩
       ·obtain⟨q1,q2⟩:=fo.nw k _ _ b g4 g3 ((gq.solid gs).1 _ _ hb);refine⟨?_,q2⟩;rcases q1 with q1|q1
        ·exact .inl (aax hs.size q1)
        ·exact agn q1
      ·obtain⟨q1,q2⟩:=fo.s b q;refine⟨q1,?_⟩;rcases q2 with q2|q2|⟨k,y,u,p1,p2,p3⟩
       ·exact(hs.s b q2).2
       ·exact .inr (.inl (aax hs.size q2))
       ·obtain⟨_,p,y',u',_,p4,p5,_,p6⟩:=hM b ⟨k,y,u,p1,p2,p3⟩;exact .inr (hs.nw p y' u' b p4 p5 p6).1
      ·refine(hold b (abx q1 hs.size) λhm=>?_).trans (hs.old b q1 q2);obtain⟨k,p,y',u',_,g2,g3,_,g5⟩:=hM b hm;rcases(hs.nw p y' u' b g2 g3 g5).1 with g|g
       ·omega
       ·exact q2 g
     exact hK v w' (bs++aZ) S' dS XB bM wu (XR.free wl hr)
    ·exact h2.elim
   ·exact h.elim
  ·exact h.elim
 ·exact h.elim
end
def W0 (ys:List ah):Bool:=ys.all λ
 | .cells _ _=>true
 | .dead=>true
 | _=>false
def Y6 (ys:List ah):List Nat:=(List.range ys.length).filter λi=>match ys[i]? with
 | some (.row _ _ _)=>false
 | some _=>true
 | _=>false
def IW:AV->Option Nat
 | .any j=>some j
 | _=>none
def Ea (pb:List Nat):List AV->List AV->Bool
 | [],[]=>true
 | a::l,b::m=>(match IW b with
  | some j=>IW a==some j&&pb.contains j
  | none=>b.free)&&Ea pb l m
 | _,_=>false
def mrg:List AV->List AV->List AV
 | a::l,b::m=>(match IW b with
  | some _=>a
  | none=>b)::mrg l m
 | _,_=>[]
def setL (pb:List Nat) (H:List ah):List (Option Nat)->List ah->List ah->Option (List (Nat×ah))
 | [],[],[]=>some []
 | i::ids,x::xs,y::ys=>match x,y with
  | .dead,.dead=>setL pb H ids xs ys
  | .cells ty cs,.cells oN hZ=>match i.bind (H[·]?),i with
   | some (.cells _ c0),some o=>if oN=ty/\Ea pb cs hZ=true then(setL pb H ids xs ys).map λl=>(o,.cells ty (mrg c0 hZ))::l else none
   | _,_=>none
  | _,_=>none
 | _,_,_=>none
def Ox:CS->Bool
 | .d _=>true
 | .any=>true
 | _=>false
def aeB (l:List (Nat×SS)):Bool:=l.all λp=>match p.2 with
 | .c s=>Ox s
 | .box _ cs=>cs.all Ox
 | .st _=>true
 | .fn _=>true
 | .rf _=>true
 | .cl _ _=>true
 | .sb _ _=>false
def Gp {P:Program} (E:Em P) (_:Env) (H:List ah) (xs:Option (List XV)):T (XV×List (Nat×ah)):=match xs with
 | some xs=>match Ci H (qh 0 xs) E.l0 with
  | some (x,ids)=>if Qt P E.f&&Jf ids&&xs.length==E.l0.length&&Y6 (cN E.l0 x).heap==E.pb&&W0 (cN E.l0 x).heap then (E.F x).bind λq=>if q.1.free then T.op ((setL E.pb H ids (cN E.l0 x).heap (cN E.lr q.2).heap).map λl=>(q.1,l)) else .bad
   else .bad
  | none=>.bad
 | none=>.bad
section
variable {P:Program} {o:Oper} {cx:Cx} {bs:List Value} {w:World} {S:Nat->Prop} {H Hv:List ah} {m:Nat} {env:Env} {a:Act} {K:Act->World->Prop} {Q:Exit->Act->World->Prop}
theorem H9 (hv:xb Hv H) {t:Ty} {e:TypeId} {b:AV} {r:List (El t)×List (Option Nat)} (h:YY Hv t e b=some r):YY H t e b=some r:=by
 unfold YY at h ⊢;split at h
 ·split at h
  ·rename_i hH;rcases hv.2 _ _ hH with q|q
   ·cases q
   ·simp only[q];exact h
  ·cases h
 ·exact h
 ·cases h
theorem Cg (hv:xb Hv H):∀{l:List ZS} {qs:List AV} {r:Bm l×List (Option Nat)},Ch Hv l qs=some r->Ch H l qs=some r
 | [],[],_,h=>h
 | s::l,b::qs,r,h=>by
  have one:∀{x:ZV s×List (Option Nat)},rdZ Hv s b=some x->rdZ H s b=some x:=λ{x} h=>by
   cases s with
   | d t=>exact h
   | own t e=>exact H9 hv h
   | any=>exact h
  unfold Ch at h ⊢;cases e1:rdZ Hv s b with
  | none=>rw[e1] at h;cases h
  | some x=>
   cases e2:Ch Hv l qs with
   | none=>rw[e1,e2] at h;cases h
   | some y=>
    rw[e1,e2] at h;rw[one e1,Cg hv e2];exact h
 | [],_::_,_,h=>by cases h
 | _::_,[],_,h=>by cases h
theorem If (hv:xb Hv H) {s:CS} {b:AV} {r:CV s×List (Option Nat)} (h:rdC Hv s b=some r):rdC H s b=some r:=by
 cases s with
 | d t=>exact h
 | own t e=>exact H9 hv h
 | any=>exact h
 | zc t tn e=>
  have h:Kr Hv t tn e b=some r:=h;show Kr H t tn e b=some r;unfold Kr at h ⊢;split at h
  ·split at h
   ·rename_i hH;rcases hv.2 _ _ hH with q|q
    ·cases q
    ·simp only[q];exact h
   ·cases h
  ·cases h
 | zip t tn e zs=>
  have h:xX Hv t tn e zs b=some r:=h;show xX H t tn e zs b=some r;unfold xX at h ⊢;split at h
  ·split at h
   ·rename_i hH;rcases hv.2 _ _ hH with q|q
    ·cases q
    ·simp only[q];split at h
     ·rename_i hp;simp only[*,Cg hv hp];rfl
     ·cases h
   ·cases h
  ·cases h
 | mp kt t=>
  have h:Ku Hv kt t b=some r:=h;show Ku H kt t b=some r;unfold Ku at h ⊢;split at h
  ·split at h
   ·rename_i hH;simp only[lu hv hH (λe=>by cases e)];exact h
   ·cases h
  ·cases h
 | mr kt t e=>
  have h:Ks Hv kt t e b=some r:=h;show Ks H kt t e b=some r;unfold Ks at h ⊢;split at h
  ·split at h
   ·rename_i hH;simp only[lu hv hH (λe=>by cases e)];split at h
    ·rename_i hQ;simp only[lu hv hQ (λe=>by cases e)];exact h
    ·cases h
   ·cases h
  ·cases h
theorem Cj (hv:xb Hv H):∀{l:List CS} {qs:List AV} {r:eB l×List (Option Nat)},xv Hv l qs=some r->xv H l qs=some r
 | [],[],_,h=>h
 | s::l,b::qs,r,h=>by
  unfold xv at h ⊢;cases e1:rdC Hv s b with
  | none=>rw[e1] at h;cases h
  | some x=>
   cases e2:xv Hv l qs with
   | none=>rw[e1,e2] at h;cases h
   | some y=>
    rw[e1,e2] at h;rw[If hv e1,Cj hv e2];exact h
 | [],_::_,_,h=>by cases h
 | _::_,[],_,h=>by cases h
theorem TG (hv:xb Hv H) {s:SS} {b:XV} {r:SW s×List (Option Nat)} (h:TI Hv s b=some r):TI H s b=some r:=by
 cases s with
 | c s=>
  cases b with
  | one c=>exact If hv (s:=s) (r:=r) h
  | _=>cases h
 | st k=>exact h
 | fn k=>exact h
 | rf k=>exact h
 | cl k t=>exact h
 | sb o o2=>exact h
 | box ty cs=>
  have h:rdB Hv ty cs b=some r:=h;show rdB H ty cs b=some r;unfold rdB at h ⊢;split at h
  ·split at h
   ·rename_i hH;rcases hv.2 _ _ hH with q|q
    ·cases q
    ·simp only[q];split at h
     ·rename_i e;rw[if_pos e];cases e2:xv Hv cs _ with
      | none=>rw[e2] at h;cases h
      | some y=>rw[e2] at h;rw[Cj hv e2];exact h
     ·cases h
   ·cases h
  ·cases h
theorem Ib (hv:xb Hv H):∀{l:List (Nat×SS)} {r:aV l×List (Option Nat)},Ic Hv env l=some r->Ic H env l=some r
 | [],_,h=>h
 | p::l,r,h=>by
  unfold Ic at h ⊢;cases e1:env.lookup p.1 with
  | none=>rw[e1] at h;cases h
  | some b=>
   rw[e1] at h;cases e2:TI Hv p.2 b with
   | none=>
    have h:(match TI Hv p.2 b,Ic Hv env l with|some x,some y=>some (((x.1,y.1),x.2++y.2):aV (p::l)×List (Option Nat))|_,_=>none)=some r:=h;rw[e2] at h;cases h
   | some x=>
    have h:(match TI Hv p.2 b,Ic Hv env l with|some x,some y=>some (((x.1,y.1),x.2++y.2):aV (p::l)×List (Option Nat))|_,_=>none)=some r:=h;show(match TI H p.2 b,Ic H env l with|some x,some y=>some (((x.1,y.1),x.2++y.2):aV (p::l)×List (Option Nat))|_,_=>none)=some r;cases e3:Ic Hv env l with
    | none=>rw[e2,e3] at h;cases h
    | some y=>
     rw[e2,e3] at h;rw[TG hv e2,Ib hv e3];exact h
theorem uU (hv:xb Hv H) {pb:List Nat}:∀{ids:List (Option Nat)} {xs ys:List ah} {l:List (Nat×ah)},setL pb Hv ids xs ys=some l->setL pb H ids xs ys=some l
 | [],[],[],_,h=>h
 | i::ids,x::xs,y::ys,l,h=>by
  unfold setL at h ⊢;split at h
  ·exact uU hv h
  ·rename_i ty cs oN hZ;split at h
   ·rename_i t0 c0 o hi;have I3:H[o]?=some (.cells t0 c0):=by
     rcases hv.2 o _ hi with q|q
     ·cases q
     ·exact q
    have:((some o:Option Nat).bind λx=>H[x]?)=some (.cells t0 c0):=I3;simp only[this];split at h
    ·rename_i hc;rw[if_pos hc];cases e:setL pb Hv ids xs ys with
     | none=>rw[e] at h;cases h
     | some q=>rw[e] at h;rw[uU hv e];exact h
    ·cases h
   ·cases h
  ·cases h
 | [],[],_::_,_,h=>by cases h
 | [],_::_,_,_,h=>by cases h
 | _::_,[],_,_,h=>by cases h
 | _::_,_::_,[],_,h=>by cases h
theorem N7 (hv:xb Hv H) {l:List (Nat×SS)} {r:aV l×List (Option Nat)} (h:Ci Hv env l=some r):Ci H env l=some r:=by
 unfold Ci at h ⊢;split at h
 ·rename_i hl;rw[if_pos hl];exact Ib hv h
 ·cases h
theorem QL (hv:xb Hv H) {E:Em P} {xs:Option (List XV)} {r:XV×List (Nat×ah)} (h:(Gp E env Hv xs).hit r):(Gp E env H xs).hit r:=by
 unfold Gp at h ⊢;cases xs with
 | none=>exact h.elim
 | some xs=>
  simp only at h ⊢;cases e:Ci Hv (qh 0 xs) E.l0 with
  | none=>rw[e] at h;exact h.elim
  | some p=>
   rw[e] at h;rw[N7 hv e];obtain⟨x,ids⟩:=p;simp only at h ⊢;split at h
   ·rename_i hc;rw[if_pos hc];have key:∀{t:T (XV×aV E.lr)},(t.bind λq=>if q.1.free then T.op ((setL E.pb Hv ids (cN E.l0 x).heap (cN E.lr q.2).heap).map λl=>(q.1,l)) else .bad).hit r->(t.bind λq=>if q.1.free then T.op ((setL E.pb H ids (cN E.l0 x).heap (cN E.lr q.2).heap).map λl=>(q.1,l)) else .bad).hit r:=by
     intro t;induction t with
     | lf q=>
      intro h;have h:(if q.1.free then T.op ((setL E.pb Hv ids (cN E.l0 x).heap (cN E.lr q.2).heap).map λl=>(q.1,l)) else .bad).hit r:=h;show(if q.1.free then T.op ((setL E.pb H ids (cN E.l0 x).heap (cN E.lr q.2).heap).map λl=>(q.1,l)) else .bad).hit r;split at h
      ·rename_i hf;rw[if_pos hf];cases e2:setL E.pb Hv ids (cN E.l0 x).heap (cN E.lr q.2).heap with
       | none=>rw[e2] at h;exact h.elim
       | some l=>rw[e2] at h;rw[uU hv e2];exact h
      ·exact h.elim
     | br b x y hx hy=>exact λh=>⟨λq=>hx (h.1 q),λq=>hy (h.2 q)⟩
     | nd p t ht=>exact λh=>⟨h.1,ht h.2⟩
     | bad=>exact λh=>h
    exact key h
   ·exact h.elim
theorem uV {pb:List Nat}:∀{ids:List (Option Nat)} {xs ys:List ah} {l:List (Nat×ah)},setL pb H ids xs ys=some l->ids.length=xs.length/\ids.length=ys.length/\(∀p∈l,∃(k:Nat) (ty t0:TypeId) (cs hZ c0:List AV),ids[k]?=some (some p.1)/\xs[k]?=some (.cells ty cs)/\ys[k]?=some (.cells ty hZ)/\H[p.1]?=some (.cells t0 c0)/\Ea pb cs hZ=true/\p.2=.cells ty (mrg c0 hZ))/\ ∀(k:Nat) (ty:TypeId) (cs:List AV),xs[k]?=some (.cells ty cs)->∃p∈l,ids[k]?=some (some p.1)
 | [],[],[],l,h=>by
  injection h with h
  subst h;exact⟨rfl,rfl,(λp hp=>by cases hp),λk ty cs hk=>by cases hk⟩
 | i::ids,x::xs,y::ys,l,h=>by
  unfold setL at h;split at h
  ·obtain⟨h1,h2,h3,h4⟩:=uV h;refine⟨by simp[h1],by simp[h2],λp hp=>?_,λk ty cs hk=>?_⟩
   ·obtain⟨k,ty,t0,cs,hZ,c0,q1,q2,q3,q⟩:=h3 p hp;exact⟨k+1,ty,t0,cs,hZ,c0,by simpa using q1,by simpa using q2,by simpa using q3,q⟩
   ·cases k with
    | zero=>cases hk
    | succ k=>
     obtain⟨p,hp,hq⟩:=h4 k ty cs (by simpa using hk);exact⟨p,hp,by simpa using hq⟩
  ·rename_i ty cs oN hZ;split at h
   ·rename_i t0 c0 o hi;split at h
    ·rename_i hc;obtain⟨rfl,hc⟩:=hc;cases e:setL pb H ids xs ys with
     | none=>rw[e] at h;cases h
     | some q=>
      rw[e] at h;injection h with h
      subst h;obtain⟨h1,h2,h3,h4⟩:=uV e;have hi:H[o]?=some (.cells t0 c0):=hi;refine⟨by simp[h1],by simp[h2],λp hp=>?_,λk ty cs hk=>?_⟩
      ·rcases abs.1 hp with rfl|hp
       ·exact⟨0,oN,t0,cs,hZ,c0,rfl,rfl,rfl,hi,hc,rfl⟩
       ·obtain⟨k,ty,t0,cs,hZ,c0,q1,q2,q3,q⟩:=h3 p hp;exact⟨k+1,ty,t0,cs,hZ,c0,by simpa using q1,by simpa using q2,by simpa using q3,q⟩
      ·cases k with
       | zero=>exact⟨_,aaz,rfl⟩
       | succ k=>
        obtain⟨p,hp,hq⟩:=h4 k ty cs (by simpa using hk);exact⟨p,aa0 _ hp,by simpa using hq⟩
    ·cases h
   ·cases h
  ·cases h
 | [],[],_::_,_,h=>by cases h
 | [],_::_,_,_,h=>by cases h
 | _::_,[],_,_,h=>by cases h
 | _::_,_::_,[],_,h=>by cases h
theorem OI {bs aZ us:List Value} {w w':World} {S S':Nat->Prop} {pb:List Nat} (hS:∀b,S b->S' b) (hk:aw S w w') (han:∀(i:Nat) (v:Value),i∈pb->us[i]?=some v->vY v=true->aZ[i]?=some v) : ∀{c0 cs hZ:List AV} {vs SP:List Value},Ea pb cs hZ=true->F2 (VR bs w S) c0 vs->F2 (VR us w S) cs vs->F2 (VR aZ w' S') hZ SP->F2 (VR bs w' S') (mrg c0 hZ) SP
 | c0,[],[],vs,SP,_,h1,h2,h3=>by
  cases h2;cases h1;cases h3;exact .nil
 | c0,x::cs,y::hZ,vs,SP,h,h1,h2,h3=>by
  cases h2 with
  | @cons _ v _ vs g1 g2=>
   cases h1 with
   | @cons z _ c0 _ f1 f2=>
    cases h3 with
    | @cons _ v' _ SP k1 k2=>
     unfold Ea at h;rw[aav] at h;refine .cons ?_ (OI hS hk han h.2 f2 g2 k2);have h:=h.1;cases e:IW y with
     | some j=>
      rw[e] at h;simp only[aav,beq_iff_eq] at h;obtain⟨h0,hp⟩:=h;obtain rfl:y=.any j:=by cases y<;>first|(injection e with e;subst e;rfl)|cases e
      obtain rfl:x=.any j:=by cases x<;>first|(injection h0 with h0;subst h0;rfl)|cases h0
      have e1:=han j v (by simpa using hp) g1.1 (Jy g1.2);rw[k1.1] at e1;obtain rfl:=aaj e1;exact f1.keep hS hk (iV.refl _)
     | none=>
      rw[e] at h;exact VR.free h k1
 | _,[],_::_,_,_,h,_,_,_=>by cases h
 | _,_::_,[],_,_,h,_,_,_=>by cases h
theorem Oe {ys:List ah} (hn:W0 ys=true) {i:Nat} (hi:i<ys.length):i∈Y6 ys:=by
 unfold Y6;rw[ac6,abU];refine⟨hi,?_⟩;rw[aac hi];have:=abc.1 hn _ (ach hi);split
 ·rename_i e;injection e with e;rw[e] at this;cases this
 ·rfl
 ·rename_i h1 h2;exact(h2 _ rfl).elim
theorem CO {i:Nat} {y:ah}:∀{l:List (Nat×ah)},eM l i=some y->(i,y)∈l
 | p::l,h=>by
  have h:(match eM l i with|some y=>some y|none=>if p.1=i then some p.2 else none)=some y:=h;cases e:eM l i with
  | some u=>rw[e] at h;obtain rfl:=aaj h;exact aa0 _ (CO e)
  | none=>
   rw[e] at h;simp only at h;split at h
   ·rename_i e2;have h:=aaj h;rw[<-e2,<-h];exact aaz
   ·cases h
theorem CN {i:Nat}:∀{l:List (Nat×ah)},eM l i=none->∀p∈l,p.1≠i
 | q::l,h,p,hp=>by
  have h:(match eM l i with|some y=>some y|none=>if q.1=i then some q.2 else none)=none:=h;cases e:eM l i with
  | some u=>rw[e] at h;cases h
  | none=>
   rw[e] at h;simp only at h;split at h
   ·cases h
   ·rename_i fR;rcases abs.1 hp with rfl|hp
    ·exact fR
    ·exact CN e p hp
theorem Jc (hs:HS cx bs w S H) (he:ER m bs w S env a) {E:Em P} {args:Array Operand} {ts:Array TypeId} (hop:o.op=.call { callee:=.value (.func E.f),args:=args,argTypes:=ts }) {r:XV×List (Nat×ah)} (h:(Gp E env H (jt env args.toList)).hit r) (hK:∀v w' S',HS cx bs w' S' (iH r.2 H)->(∀b,S b->S' b)->aw S w w'->XR bs w' S' r.1 v->K (a.put o.dst v) w'):o.wp P a w K Q:=by
 unfold Gp at h;split at h
 ·rename_i xs Lb;split at h
  ·rename_i x ids Sn;split at h
   ·rename_i hc;simp only[aav,beq_iff_eq] at hc;obtain⟨⟨⟨⟨PX,kT⟩,bJ⟩,nQ⟩,hnr⟩:=hc;obtain⟨q,h1,h2⟩:=T.hit_bind h;split at h2
    ·rename_i wl;obtain⟨r0,z⟩:=q;have h2:=T.hit_op h2;cases qm:setL E.pb H ids (cN E.l0 x).heap (cN E.lr z).heap with
     | none=>
      have h2:Option.map _ (setL E.pb H ids (cN E.l0 x).heap (cN E.lr z).heap)=some r:=h2;rw[qm] at h2;cases h2
     | some l=>
     have h2:Option.map _ (setL E.pb H ids (cN E.l0 x).heap (cN E.lr z).heap)=some r:=h2;rw[qm] at h2;have h2:(r0,l)=r:=aaj h2;subst h2;have wl:r0.free=true:=wl;obtain⟨sl1,sl2,sl3,sl4⟩:=uV qm;have ha:=je he Lb;have hea:ER xs.length bs w S (qh 0 xs) ⟨(args.toList.map a.eval).toArray,[]⟩:=by
      refine⟨rfl,by show(args.toList.map a.eval).toArray.size=_;rw[acc,ha.length],ui ha λj v hj=>?_⟩;rw[acg];simpa using hj
     obtain⟨Sn,Sl⟩:=Ia Sn;obtain⟨us,re,kk⟩:=zW hs hea Sn 0;obtain⟨k1,k2⟩:=kk us (λj u hj=>by rw[acg];exact hj) (Sl _ _);have rl:=re.len
     let M:Nat->Prop:=λb=>∃(k:Nat) (y:ah) (u:Value),(cN E.l0 x).heap[k]?=some y/\us[k]?=some u/\Bk y u b
     have hM:∀b,M b->∃(k p:Nat) (y:ah) (u:Value),ids[k]?=some (some p)/\(∃ty cs,(cN E.l0 x).heap[k]?=some (.cells ty cs))/\H[p]?=some y/\bs[p]?=some u/\us[k]?=some u/\Bk y u b:=by
      rintro b ⟨k,y,u,g1,g2,g3⟩;have tU:∃ty cs,(cN E.l0 x).heap[k]?=some (.cells ty cs):=by
       have:=abc.1 hnr y (acq g1);cases y with
       | cells ty cs=>exact⟨ty,cs,g1⟩
       | dead=>cases g3
       | _=>cases this
      rcases re.get k y u g1 g2 with⟨p,x1,q1,q2,q3,q4⟩|⟨_,q⟩
      ·exact⟨k,p,x1,u,q1,tU,q2,q3,g2,Bi q4 g3⟩
      ·exact absurd g3 (q b)
     have hMS:∀b,M b->¬S b:=λb hb=>by
      obtain⟨k,p,y,u,_,_,g2,g3,_,g5⟩:=hM b hb;exact(hs.nw p y u b g2 g3 g5).2
     have hM0:∀b,M b->cx.w0.heap.size<=b\/cx.M b:=λb hb=>by
      obtain⟨k,p,y,u,_,_,g2,g3,_,g5⟩:=hM b hb;exact(hs.nw p y u b g2 g3 g5).1
     let cx':Cx:=⟨w,S,M,us,E.pb,λw2 h1 h2 h3 h4 h5=>cx.wk w2 (aax hs.size h1) (h2.trans hs.os) (h3.trans hs.tape) (h4.trans hs.output) λb hb hm=>(h5 b (abx hb hs.size) λq=>(hM0 b q).elim (λq=>by omega) hm).trans (hs.old b hb hm)⟩
     have hsc:HS cx' us w S (cN E.l0 x).heap:=by
      refine⟨rl.2,λi y v hy hv=>k2 i y v hy hv,?_,?_,λb q=>⟨(hs.s b q).1,.inl q⟩,λ_ h=>h,rfl,rfl,rfl,aaG _,λ_ _ _=>rfl,λ_ _ _ h _=>h⟩
      ·intro i j y y2 u v b xl hy hu hz hv ci bX;rcases re.get i y u hy hu with⟨p,x1,q1,q2,q3,q4⟩|⟨_,q⟩
       ·rcases re.get j y2 v hz hv with⟨p',x2,q5,q6,q7,q8⟩|⟨_,q⟩
        ·exact hs.ap p p' x1 x2 u v b (λep=>xl (Dx kT q1 (ep▸q5))) q2 q3 q6 q7 (Bi q4 ci) (Bi q8 bX)
        ·exact absurd bX (q b)
       ·exact absurd ci (q b)
      ·intro i y u b hy hu hb;exact⟨.inr ⟨i,y,u,hy,hu,hb⟩,hMS b ⟨i,y,u,hy,hu,hb⟩⟩
     have P0:∀i y,(i,y)∈(cN E.l0 x).env->∃v,(args.toList.map a.eval)[i]?=some v/\XR us w S y v:=λi y hy=>by
      obtain⟨v,q1,q2⟩:=k1 i y hy;exact⟨v,by simpa using q1,q2⟩
     have bG:=E.ok cx' us S _ x r0 z rfl (λ_ h=>h) hsc P0 (by rw[<-ha.length];exact bJ) h1;unfold Oper.wp execOp;have hev:a.eval (.func E.f)=.func (.func E.f) #[] #[]:=rfl;have qo:(args.toList.map a.eval).toArray=args.map a.eval:=by rw[<-adg]
     simp only[hop,resolve,hev,Deferred.ofValue,Sem.run_bind,Sem.run_pure,Result.andThen_ok,invoke,Array.empty_append,Array.append_empty,lB PX,Oper.upon_enter];rw[<-qo];refine bG.mono λe w' yK=>?_;obtain⟨v,aZ,S',rfl,fo,hr⟩:=yK;have XB:∀b,S b->S' b:=fo.s0;have hold:∀b,b<w.heap.size->¬M b->w'.heap[b]?=w.heap[b]?:=fo.old;have bM:aw S w w':=λp hp=>hold p (hs.s _ hp).1 λhm=>hMS _ hm hp;have han:∀(i:Nat) (v:Value),i∈E.pb->us[i]?=some v->vY v=true->aZ[i]?=some v:=fo.an;have Qf:∀{p:Nat×ah},p∈l->∃(k g:Nat) (ty t0:TypeId) (cs hZ c0:List AV),ids[k]?=some (some p.1)/\p.2=.cells ty (mrg c0 hZ)/\bs[p.1]?=some (.pointer (some ⟨g,0,none⟩))/\aZ[k]?=some (.pointer (some ⟨g,0,none⟩))/\H[p.1]?=some (.cells t0 c0)/\(cN E.l0 x).heap[k]?=some (.cells ty cs)/\us[k]?=some (.pointer (some ⟨g,0,none⟩))/\(cN E.lr z).heap[k]?=some (.cells ty hZ)/\OR bs w' S' p.2 (.pointer (some ⟨g,0,none⟩)):=by
      intro p hp;obtain⟨k,ty,t0,cs,hZ,c0,g1,g2,g3,g4,g5,g6⟩:=sl3 p hp;have PQ:k<us.length:=by rw[rl.2];exact(aad.1 g2).1
      obtain⟨g,vs,hu,ci,F7⟩:=k2 k _ _ g2 (aac PQ);have huk:us[k]?=some (.pointer (some ⟨g,0,none⟩)):=by rw[aac PQ,hu]
      have AK:k∈E.pb:=by rw[<-nQ];exact Oe hnr (aad.1 g2).1
      have bX:=han k _ AK huk rfl;obtain⟨g',SP,e2,kx,hf2⟩:=fo.o k _ _ g3 bX;injection e2 with e2
      injection e2 with e2
      injection e2 with e2
      subst e2;rcases re.get k _ _ g2 huk with⟨p',x1,q1,q2,q3,q4⟩|⟨q1,_⟩
      ·rw[g1] at q1;obtain rfl:=aaj (aaj q1);obtain⟨g',vs0,e2,hb0,Vh⟩:=hs.o _ _ _ g4 q3;injection e2 with e2
       injection e2 with e2
       injection e2 with e2
       subst e2;have:vs0=vs:=by
        have h1:df w g t0 vs0.toArray:=hb0;have h2:df w g ty vs.toArray:=ci;have h1:w.heap[g]?=_:=h1;have h2:w.heap[g]?=_:=h2;rw[h1] at h2;injection h2 with h2
        injection h2 with h2
        injection h2 with h2
       subst this;exact⟨k,g,ty,t0,cs,hZ,c0,g1,g6,q3,bX,g4,g2,huk,g3,by rw[g6];exact⟨g,SP,rfl,kx,OI XB bM han g5 Vh F7 hf2⟩⟩
      ·rw[g1] at q1;cases q1
     have om:∀{i:Nat} {y:ah},(iH l H)[i]?=some y->(H[i]?=some y/\∀p∈l,p.1≠i)\/(i,y)∈l:=by
      intro i y hy;have Mu:i<H.length:=by have:=(aad.1 hy).1;rwa [fU] at this
      rw[kK (aac Mu)] at hy;cases e:eM l i with
      | none=>rw[e] at hy;left;exact⟨by rw[aac Mu];exact hy,CN e⟩
      | some u=>
       rw[e] at hy;right;have:u=y:=by simpa using hy
       subst this;exact CO e
     have o9:∀{i:Nat} {y:ah} {u:Value} {b:Nat},H[i]?=some y->bs[i]?=some u->(∀p∈l,p.1≠i)->Bk y u b->b<w.heap.size/\¬M b:=by
      intro i y u b g1 g2 g3 g4;refine⟨(hs.o i y u g1 g2).lt g4,λhm=>?_⟩;obtain⟨k,p,y',u',q1,⟨ty,cs,qc⟩,q2,q3,_,q5⟩:=hM b hm;refine hs.ap i p y y' u u' b (λe=>?_) g1 g2 q2 q3 g4 q5;subst e;obtain⟨p',hp',I0⟩:=sl4 k ty cs qc;rw[q1] at I0;exact g3 p' hp' (aaj (aaj I0)).symm
     have dS:HS cx bs w' S' (iH l H):=by
      refine⟨by rw[fU];exact hs.len,?_,?_,?_,λb q=>?_,λb q=>XB b (hs.s0 b q),fo.os.trans hs.os,fo.tape.trans hs.tape,fo.output.trans hs.output,aax hs.size fo.size,λb q1 q2=>?_,hs.an⟩
      ·intro i y u hy hu;rcases om hy with⟨g1,g3⟩|g
       ·exact(hs.o i y u g1 hu).same (λb hb=>hold b (o9 g1 hu g3 hb).1 (o9 g1 hu g3 hb).2) fo.size bM XB (λb q=>⟨(fo.s b q).1,λe=>by
         obtain⟨p1,_⟩:=o9 g1 hu g3 e;rcases(fo.s b q).2 with q|q|q
         ·exact(hs.nw i y u b g1 hu e).2 q
         ·have:w.heap.size<=b:=q;omega
         ·exact(o9 g1 hu g3 e).2 q⟩) (iV.refl _)
       ·obtain⟨k,g,ty,t0,cs,hZ,c0,_,_,q3,_,_,_,_,_,q8⟩:=Qf g;have q3:bs[i]?=_:=q3;rw[hu] at q3;obtain rfl:=aaj q3;exact q8
      ·intro i j y y2 u v b xl hy hu hz hv ci bX;have old:∀{i:Nat} {y:ah} {u:Value},(iH l H)[i]?=some y->bs[i]?=some u->Bk y u b->∃y',H[i]?=some y'/\Bk y' u b:=by
        intro i y u hy hu hb;rcases om hy with⟨g1,_⟩|g
        ·exact⟨y,g1,hb⟩
        ·obtain⟨k,g,ty,t0,cs,hZ,c0,_,q2,q3,_,q5,_⟩:=Qf g;have q2:y=_:=q2;have q3:bs[i]?=_:=q3;rw[hu] at q3;obtain rfl:=aaj q3;subst q2;exact⟨_,q5,hb⟩
       obtain⟨y',g1,g2⟩:=old hy hu ci;obtain⟨y2',g3,g4⟩:=old hz hv bX;exact hs.ap i j y' y2' u v b xl g1 hu g3 hv g2 g4
      ·intro i y u b hy hu hb;rcases om hy with⟨g1,g3⟩|g
       ·refine⟨(hs.nw i y u b g1 hu hb).1,λq=>?_⟩;obtain⟨p1,_⟩:=o9 g1 hu g3 hb;rcases(fo.s b q).2 with q|q|q
        ·exact(hs.nw i y u b g1 hu hb).2 q
        ·have:w.heap.size<=b:=q;omega
        ·exact(o9 g1 hu g3 hb).2 q
       ·obtain⟨k,g,ty,t0,cs,hZ,c0,_,q2,q3,q4,q5,_,_,q7,_⟩:=Qf g;have q2:y=_:=q2;have q3:bs[i]?=_:=q3;rw[hu] at q3;obtain rfl:=aaj q3;subst q2;exact⟨(hs.nw i _ _ b q5 hu hb).1,(fo.nw k _ _ b q7 q4 hb).2⟩
      ·obtain⟨q1,q2⟩:=fo.s b q;refine⟨q1,?_⟩;rcases q2 with q2|q2|⟨k,y,u,p1,p2,p3⟩
       ·exact(hs.s b q2).2
       ·exact .inr (.inl (aax hs.size q2))
       ·obtain⟨_,p,y',u',_,_,p4,p5,_,p6⟩:=hM b ⟨k,y,u,p1,p2,p3⟩;exact .inr (hs.nw p y' u' b p4 p5 p6).1
      ·refine(hold b (abx q1 hs.size) λhm=>?_).trans (hs.old b q1 q2);obtain⟨k,p,y',u',_,_,g2,g3,_,g5⟩:=hM b hm;rcases(hs.nw p y' u' b g2 g3 g5).1 with g|g
       ·omega
       ·exact q2 g
     exact hK v w' S' dS XB bM (XR.free wl hr)
    ·exact h2.elim
   ·exact h.elim
  ·exact h.elim
 ·exact h.elim
end
def fOf (o:Oper):Option FuncId:=match o.op with
 | .call { callee:=.value (.func f), .. }=>some f
 | _=>none
def abb {P:Program} (Es:List (Em P)) (f:FuncId):Option (Em P):=Es.find? λE=>E.f==f
def ve:List (Nat×SS)->List Operand->List Nat
 | (_,.c (.d _))::l,.tmp t::r=>t::ve l r
 | (_,.st _)::l,.tmp t::r=>t::ve l r
 | _::l,_::r=>ve l r
 | _,_=>[]
def bA {P:Program} [hP:IsP P] (ty:TypeId->Option Ty) (D:List (Sm P)) (Es:List (Em P)):eP P where
 ty:=ty
 D:=D
 isP:=hP
 eff o:=((fOf o).bind (abb Es)).isSome
 x m o st:=match o.op with
  | .call { callee:=.value (.func f),args:=args, .. }=>match abb Es f with
   | some E=>(λst=>if aeB E.l0 then(Gp E st.env st.heap (jt st.env args.toList)).bind λr=>.lf ⟨pQ st.env o.dst (some r.1),iH r.2 st.heap⟩ else(abf E st.env st.heap (jt st.env args.toList)).bind λr=>.lf ⟨pQ st.env o.dst (some r.1),r.2⟩) ((ve E.l0 args.toList).foldl AS st)
   | none=>.bad
  | _=>.bad
 xok m o cx st cV a w K Q _ hd h bT hK:=by
  split at h
  ·rename_i f args ts hop;split at h
   ·rename_i E hE;have hf:E.f=f:=by have:=List.find?_some hE;simpa using this
    subst hf;obtain⟨bs,S,hs,he⟩:=AT (l:=ve E.l0 args.toList) bT;simp only at h;split at h
    ·obtain⟨r,h1,h2⟩:=T.hit_bind h;have h2:(⟨pQ ((ve E.l0 args.toList).foldl AS st).env o.dst (some r.1),iH r.2 ((ve E.l0 args.toList).foldl AS st).heap⟩:dA)=cV:=h2;subst h2;exact Jc hs he hop h1 λv w' S' q1 qS qk q3=>hK _ _ ⟨bs,S',q1,(he.keep qS qk (iV.refl _)).put o.dst (some r.1) v hd λy hy=>by obtain rfl:=aaj hy;exact q3⟩
    ·obtain⟨r,h1,h2⟩:=T.hit_bind h;have h2:(⟨pQ ((ve E.l0 args.toList).foldl AS st).env o.dst (some r.1),r.2⟩:dA)=cV:=h2;subst h2;exact VH hs he hop h1 λv w' aZ S' q1 qS qk qa q3=>hK _ _ ⟨aZ,S',q1,(he.keep qS qk qa).put o.dst (some r.1) v hd λy hy=>by obtain rfl:=aaj hy;exact q3⟩
   ·exact h.elim
  ·exact h.elim
 d o env H:=match o.op with
  | .call { callee:=.value (.func f),args:=args, .. }=>match abb Es f with
   | some E=>Gp E env H (jt env args.toList)
   | none=>.bad
  | _=>.bad
 dok m o cx bs S env Hv Hf a w r K Q _ hv hs he h hK:=by
  split at h
  ·rename_i f args ts hop;split at h
   ·rename_i E hE;have hf:E.f=f:=by have:=List.find?_some hE;simpa using this
    subst hf;exact Jc hs he hop (QL hv h) hK
   ·exact h.elim
  ·exact h.elim
section
variable {P:Program} {m:Nat} {loops:List Code} (R:Rg P m) (L:xm P R.fn m R.pb loops)
def fnE (n:Nat) (body:Code) (l0 lr:List (Nat×SS)) (x:aV l0):T (XV×aV lr):=(run R L n [.code 0 body] (cN l0 x)).bind λq=>match q with
 | .ret r st=>T.op ((oh R.pb lr st).map λz=>(S5 r,z))
 | .nrm st=>if R.fn.results.toList.isEmpty then T.op ((oh R.pb lr st).map λz=>(.tup [],z)) else .bad
 | _=>.bad
end
theorem Gn {P:Program} {fn:Func} {f:FuncId} {body:Code} {loops:List Code} (R:Rg P fn.ntmps) (L:xm P R.fn fn.ntmps R.pb loops) (Vp:R.fn=fn) (alo:R.pb≠[]) (hf:P.funcs[f]?=some fn) (hb:fn.body=some body) (hl:loops=jg body) (n:Nat) (l0 lr:List (Nat×SS)) (F:aV l0->T (XV×aV lr)) (hln:l0.length<=fn.ntmps) (h:∀x r,G1 l0 x->(F x).hit r->(fnE R L n body l0 lr x).hit r):ew P f R.pb l0 lr F:=by
 intro cx bs S vs x r z nQ hS hs P0 Bu hr;have he:ER fn.ntmps bs cx.w0 S (cN l0 x).env { tmps:=vs.toArray++Array.replicate (fn.ntmps-vs.toArray.size) undef,defers:=[] }:=by
  refine⟨rfl,?_,λt y hy=>?_⟩
  ·show(vs.toArray++Array.replicate (fn.ntmps-vs.toArray.size) undef).size=_;rw[Array.size_append,Array.size_replicate,acc];omega
  ·obtain⟨v,hv,hx⟩:=P0 t y hy;refine⟨v,?_,hx⟩;show(vs.toArray++Array.replicate (fn.ntmps-vs.toArray.size) undef)[t]?=_;rw[Array.getElem?_append,if_pos (by rw[acc];exact(aad.1 hv).1)];simpa using hv
 obtain⟨q,h3,h4⟩:=T.hit_bind (h x (r,z) (Rv ⟨bs,S,hs,he⟩) hr);refine calls_of_wp hf hb (wp_mono (zu (cx:=cx) nQ h3 ⟨bs,S,hs,he⟩ λj z hz=>by rw[hl,acg];exact hz) λe a' w' hq=>?_);cases e with
 | ret=>
  obtain⟨r',cV,rfl,aZ,S1,S',fo,yK,k1,k4,v,k2,k3⟩:=hq;have h4:=T.hit_op h4;cases e2:oh R.pb lr cV with
  | none=>rw[e2] at h4;cases h4
  | some z'=>
   rw[e2] at h4;injection h4 with h4
   injection h4 with e3 e4
   subst e3 e4;rw[Vp] at k2;rw[<-nQ] at e2;obtain⟨us,q1,_⟩:=mO e2 fo yK;refine⟨yK.d,v,k2,v,us,S1,rfl,q1,(Hi k3).keep (λb hb=>?_) (aw.refl _ _) (iV.refl _)⟩;rcases k4 with k4|k4
   ·exact absurd (nQ▸k4) alo
   ·exact k4 b hb
 | normal=>
  obtain⟨cV,rfl,aZ,S1,fo,yK⟩:=hq;simp only at h4;split at h4
  ·rename_i qo;have h4:=T.hit_op h4;cases e2:oh R.pb lr cV with
   | none=>rw[e2] at h4;cases h4
   | some z'=>
    rw[e2] at h4;injection h4 with h4
    injection h4 with e3 e4
    subst e3 e4;rw[Vp] at qo;rw[<-nQ] at e2;obtain⟨us,q1,_⟩:=mO e2 fo yK;have PC:fn.results=#[]:=by
     have:fn.results.toList=[]:=List.isEmpty_iff.1 qo;rw[<-acn (xs:=fn.results),this]
    exact⟨yK.d,_,results_none PC _ _ _,_,us,S1,rfl,q1,[],rfl,.nil⟩
  ·exact h4.elim
 | exit id=>
  obtain⟨cV,rfl,_⟩:=hq;exact h4.elim
 | _=>exact hq.elim
end Go.Proofs.YtdbpbfglhbiadaaGreatDoor
