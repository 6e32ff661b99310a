/- MEff MEfb -/
import Derived.Test.YtichkplomldgiaaGreatDoorJ23
set_option maxHeartbeats 4000000
set_option maxRecDepth 100000
namespace Go.Proofs.YtichkplomldgiaaGreatDoor
open Go Go.RowKit
def eB (P:Program) (f:FuncId) (pb:List Nat) (l0 lr:List (Nat×SS)) (F:aG l0->T (XV×aG lr)):Prop:=
 ∀(cx:Cx) (bs:List Value) (S:Nat->Prop) (vs:List Value) (x:aG l0) (r:XV) (z:aG lr),cx.pb=pb->(∀b,S b->cx.S0 b)->HS cx bs cx.w0 S (bB l0 x).heap->(∀i y,(i,y)∈(bB l0 x).env->∃v,vs[i]?=some v/\XR bs cx.w0 S y v)->vs.length=l0.length->(F x).hit (r,z)->
  Calls P f vs.toArray cx.w0 λe w'=>∃v aD S',e=.returned v/\HS cx aD w' S' (bB lr z).heap/\XR [] w' S' r v
structure Em (P:Program) where
 f:FuncId
 pb:List Nat
 l0:List (Nat×SS)
 lr:List (Nat×SS)
 F:aG l0->T (XV×aG lr)
 ok:eB P f pb l0 lr F
def nB:List (Option Nat)->List aa->List aa
 | [],H=>H
 | some o::l,H=>nB l (H.set o .dead)
 | none::l,H=>nB l H
def setB:List (Option Nat)->List aa->List aa->List aa
 | some o::ids,.cells ty cs::ys,H=>setB ids ys (H.set o (.cells ty cs))
 | _::ids,_::ys,H=>setB ids ys H
 | _,_,H=>H
def aa.solid:aa->Bool
 | .row _ _ _=>true
 | .zc _ _ _ _ _ _=>true
 | .mp _ _ _ _=>true
 | .mq _=>true
 | .mr _ _ _ _ _ _=>true
 | _=>false
def pw:List aa->List aa
 | []=>[]
 | y::l=>(bif y.solid then y else .dead)::pw l
def EQ (ids:List (Option Nat)) (H ys:List aa):List aa:=setB ids ys (nB ids H)++pw ys
section
variable {cx:Cx} {bs aD us:List Value} {w w':World} {S S':Nat->Prop} {H:List aa}
theorem jj:∀{ids:List (Option Nat)} {H:List aa},(nB ids H).length=H.length
 | [],_=>rfl
 | some o::l,H=>by show(nB l _).length=_;rw[jj,List.length_set]
 | none::l,H=>jj (ids:=l)
theorem lk:∀{ids:List (Option Nat)} {H:List aa} {i:Nat} {x:aa},(nB ids H)[i]?=some x->x=.dead\/(H[i]?=some x/\some i∉ids)
 | [],_,_,_,h=>.inr ⟨h,by simp⟩
 | some o::l,H,i,x,h=>by
  rcases lk (ids:=l) h with h|⟨h,hn⟩
  ·exact .inl h
  ·by_cases e:o=i
   ·subst e;have hl:=(List.getElem?_eq_some_iff.1 h).1;rw[List.length_set] at hl;rw[List.getElem?_set_self hl] at h;exact .inl (Option.some.inj h).symm
   ·rw[List.getElem?_set_ne e] at h;exact .inr ⟨h,λhm=>by rcases List.mem_cons.1 hm with q|q;(· injection q with q;exact e q.symm);exact hn q⟩
 | none::l,H,i,x,h=>by
  rcases lk (ids:=l) (H:=H) h with h|⟨h,hn⟩
  ·exact .inl h
  ·exact .inr ⟨h,λhm=>by rcases List.mem_cons.1 hm with q|q;(· cases q);exact hn q⟩
theorem cZ:∀{ids:List (Option Nat)} {ys H:List aa},(setB ids ys H).length=H.length
 | some o::ids,.cells ty cs::ys,H=>by show(setB ids ys _).length=_;rw[cZ,List.length_set]
 | some o::ids,.row t e rs::ys,H=>cZ (ids:=ids) (ys:=ys)
 | some o::ids,.dead::ys,H=>cZ (ids:=ids) (ys:=ys)
 | some o::ids,.zc _ _ _ _ _ _::ys,H=>cZ (ids:=ids) (ys:=ys)
 | some o::ids,.zip _ _ _ _ _ _ _ _::ys,H=>cZ (ids:=ids) (ys:=ys)
 | some o::ids,.mp _ _ _ _::ys,H=>cZ (ids:=ids) (ys:=ys)
 | some o::ids,.mq _::ys,H=>cZ (ids:=ids) (ys:=ys)
 | some o::ids,.mr _ _ _ _ _ _::ys,H=>cZ (ids:=ids) (ys:=ys)
 | some o::ids,.mx _ _ _ _ _ _ _::ys,H=>cZ (ids:=ids) (ys:=ys)
 | none::ids,_::ys,H=>cZ (ids:=ids) (ys:=ys)
 | [],_,H=>by unfold setB;rfl
 | some _::_,[],H=>by unfold setB;rfl
 | none::_,[],H=>by unfold setB;rfl
theorem dn:∀{ids:List (Option Nat)} {ys H:List aa} {i:Nat} {x:aa},(setB ids ys H)[i]?=some x->H[i]?=some x\/∃(k:Nat) (ty:TypeId) (cs:List AV),x=.cells ty cs/\ids[k]?=some (some i)/\ys[k]?=some (.cells ty cs)
 | some o::ids,.cells ty cs::ys,H,i,x,h=>by
  rcases dn (ids:=ids) (ys:=ys) h with h|⟨k,jP,eu,e,h1,h2⟩
  ·by_cases e:o=i
   ·subst e;have hl:=(List.getElem?_eq_some_iff.1 h).1;rw[List.length_set] at hl;rw[List.getElem?_set_self hl] at h;exact .inr ⟨0,ty,cs,(Option.some.inj h).symm,rfl,rfl⟩
   ·rw[List.getElem?_set_ne e] at h;exact .inl h
  ·exact .inr ⟨k+1,jP,eu,e,h1,h2⟩
 | some o::ids,.row t e rs::ys,H,i,x,h=>by
  rcases dn (ids:=ids) (ys:=ys) (H:=H) h with h|⟨k,jP,eu,e,h1,h2⟩
  ·exact .inl h
  ·exact .inr ⟨k+1,jP,eu,e,h1,h2⟩
 | some o::ids,.dead::ys,H,i,x,h=>by
  rcases dn (ids:=ids) (ys:=ys) (H:=H) h with h|⟨k,jP,eu,e,h1,h2⟩
  ·exact .inl h
  ·exact .inr ⟨k+1,jP,eu,e,h1,h2⟩
 | some o::ids,.zc _ _ _ _ _ _::ys,H,i,x,h=>by
  rcases dn (ids:=ids) (ys:=ys) (H:=H) h with h|⟨k,jP,eu,e,h1,h2⟩
  ·exact .inl h
  ·exact .inr ⟨k+1,jP,eu,e,h1,h2⟩
 | some o::ids,.zip _ _ _ _ _ _ _ _::ys,H,i,x,h=>by
  rcases dn (ids:=ids) (ys:=ys) (H:=H) h with h|⟨k,jP,eu,e,h1,h2⟩
  ·exact .inl h
  ·exact .inr ⟨k+1,jP,eu,e,h1,h2⟩
 | some o::ids,.mp _ _ _ _::ys,H,i,x,h=>by
  rcases dn (ids:=ids) (ys:=ys) (H:=H) h with h|⟨k,jP,eu,e,h1,h2⟩
  ·exact .inl h
  ·exact .inr ⟨k+1,jP,eu,e,h1,h2⟩
 | some o::ids,.mq _::ys,H,i,x,h=>by
  rcases dn (ids:=ids) (ys:=ys) (H:=H) h with h|⟨k,jP,eu,e,h1,h2⟩
  ·exact .inl h
  ·exact .inr ⟨k+1,jP,eu,e,h1,h2⟩
 | some o::ids,.mr _ _ _ _ _ _::ys,H,i,x,h=>by
  rcases dn (ids:=ids) (ys:=ys) (H:=H) h with h|⟨k,jP,eu,e,h1,h2⟩
  ·exact .inl h
  ·exact .inr ⟨k+1,jP,eu,e,h1,h2⟩
 | some o::ids,.mx _ _ _ _ _ _ _::ys,H,i,x,h=>by
  rcases dn (ids:=ids) (ys:=ys) (H:=H) h with h|⟨k,jP,eu,e,h1,h2⟩
  ·exact .inl h
  ·exact .inr ⟨k+1,jP,eu,e,h1,h2⟩
 | none::ids,_::ys,H,i,x,h=>by
  rcases dn (ids:=ids) (ys:=ys) (H:=H) (by simpa[setB] using h) with h|⟨k,jP,eu,e,h1,h2⟩
  ·exact .inl h
  ·exact .inr ⟨k+1,jP,eu,e,h1,h2⟩
 | [],_,H,i,x,h=>by unfold setB at h;exact .inl h
 | some _::_,[],H,i,x,h=>by unfold setB at h;exact .inl h
 | none::_,[],H,i,x,h=>by unfold setB at h;exact .inl h
theorem pp:∀{ys:List aa},(pw ys).length=ys.length
 | []=>rfl
 | _::l=>by show(pw l).length+1=_;rw[pp];rfl
theorem pv:∀{ys:List aa} {i:Nat} {x:aa},(pw ys)[i]?=some x->x=.dead\/(ys[i]?=some x/\x.solid=true)
 | y::l,0,x,h=>by
  have h:(bif y.solid then y else .dead)=x:=Option.some.inj h;cases e:y.solid with
  | true=>rw[e] at h;have h:y=x:=h;subst h;exact .inr ⟨rfl,e⟩
  | false=>rw[e] at h;exact .inl h.symm
 | _::l,i+1,x,h=>pv (ys:=l) (i:=i) (by simpa[pw] using h)
 | [],_,_,h=>by cases h
theorem mG.same {p n:Nat} {kt:Kt} {t:Ty} {e:TypeId} {f:kt.K->Option (List (El t))} {x:kt.K->Prop} {v:Value} (h:mG bs w S p kt t e n f x v) (hb:∀c,oz kt x v c->w'.heap[c]?=w.heap[c]?) (hk:af S w w') (hS:∀b,S b->S' b) (hn:∀c,S' c->c<w'.heap.size/\¬oz kt x v c) (wA:eI bs aD):mG aD w' S' p kt t e n f x v:=by
 obtain⟨b,l,g,rfl,h1,h2,h3,h4,h5,h6⟩:=h;have uX:∀k u c,¬x k->g k=some u->u.ownBlock=some c->oz kt x (lD b l) c:=λk u c hx hu hc=>⟨b,l,rfl,.inr ⟨k,u,hx,(h3 k u).1 hu,hc⟩⟩;refine⟨b,l,g,rfl,wA _ _ h1 rfl,h2.same (hb b ⟨b,l,rfl,.inl rfl⟩),h3,λk hx=>?_,h5,h6⟩;have:=h4 k hx;cases hf:f k with
 | none=>rw[hf] at this;exact this
 | some xs=>
  rw[hf] at this;obtain⟨u,hu,cs,⟨q1,q2⟩,q3,q4⟩:=this;refine⟨u,hu,cs,⟨q1,?_⟩,q3.keep hS hk,λc hc=>⟨(hn c hc).1,λe=>(hn c hc).2 (uX k u c hx hu e.symm)⟩⟩;rcases q2 with q2|⟨g',cap,cur,rfl,r3,r4,r5⟩
  ·exact .inl q2
  ·exact .inr ⟨g',cap,cur,rfl,r3,(hb g' (uX k _ g' hx hu rfl)).trans r4,r5⟩
theorem OR.same {x:aa} {v:Value} (h:OR bs w S x v) (hb:∀b,Bk x v b->w'.heap[b]?=w.heap[b]?) (_:w.heap.size<=w'.heap.size) (hk:af S w w') (hS:∀b,S b->S' b) (hn:∀b,S' b->b<w'.heap.size/\¬Bk x v b) (wA:eI bs aD):OR aD w' S' x v:=by
 cases x with
 | cells ty cs=>
  obtain⟨g,vs,rfl,h1,h2⟩:=h;exact⟨g,vs,rfl,(hb g rfl).trans h1,h2.mono λ_ _ h=>h.keep hS hk wA⟩
 | row t e rs=>
  obtain⟨cs,⟨q1,q2⟩,h2,h3⟩:=h;refine⟨cs,⟨q1,?_⟩,h2.keep hS hk,λb iy=>⟨(hn b iy).1,λe=>(hn b iy).2 e.symm⟩⟩;rcases q2 with q2|⟨g,cap,cur,rfl,q3,q4,q5⟩
  ·exact .inl q2
  ·exact .inr ⟨g,cap,cur,rfl,q3,(hb g rfl).trans q4,q5⟩
 | zc e t tn dQ done rest=>
  obtain⟨aO,⟨cs,⟨q1,q2⟩,h2,h3⟩,hz⟩:=h;refine⟨aO,⟨cs,⟨q1,?_⟩,h2.keep hS hk,λb iy=>⟨(hn b iy).1,λe=>(hn b iy).2 e.symm⟩⟩,hz.keep hS hk⟩;rcases q2 with q2|⟨g,cap,cur,rfl,q3,q4,q5⟩
  ·exact .inl q2
  ·exact .inr ⟨g,cap,cur,rfl,q3,(hb g rfl).trans q4,q5⟩
 | zip o2 e t tn dQ done cur rest=>
  obtain⟨aO,⟨cs,⟨q1,q2⟩,h2,h3⟩,hz,hl,u,nG,kR,P5⟩:=h;refine⟨aO,⟨cs,⟨q1,?_⟩,h2.keep hS hk,λb iy=>⟨(hn b iy).1,λe=>(hn b iy).2 e.symm⟩⟩,hz.keep hS hk wA,hl,u,wA _ _ nG kR,kR,P5⟩;rcases q2 with q2|⟨g,cap,cur,rfl,q3,q4,q5⟩
  ·exact .inl q2
  ·exact .inr ⟨g,cap,cur,rfl,q3,(hb g rfl).trans q4,q5⟩
 | dead=>exact trivial
 | mp kt t n f=>obtain⟨b',g,rfl,h1,h2⟩:=h;exact⟨b',g,rfl,h1.same (hb b' rfl),λk=>(h2 k).keep hS hk⟩
 | mq q=>exact h
 | mr p kt t e n f=>exact mG.same h hb hk hS hn wA
 | mx p kt t e n f k=>exact mG.same h hb hk hS hn wA
end
inductive Sh (n:Nat):aa->aa->Prop where
 | row {t:Ty} {e:TypeId} {rs:List (El t)}:Sh n (.row t e rs) (.row t e rs)
 | cells {ty:TypeId} {cs eu:List AV}:(∀(bs aD:List Value) (w:World) (S:Nat->Prop) (vs:List Value),bs.length=n->F2 (VR aD w S) cs vs->F2 (VR (bs++aD) w S) eu vs)->Sh n (.cells ty cs) (.cells ty eu)
 | dead:Sh n .dead .dead
 | zc {e:TypeId} {t tn:Ty} {dQ:Nat} {done:List (El t)} {rest:List (El tn)}:Sh n (.zc e t tn dQ done rest) (.zc e t tn dQ done rest)
 | zip {o o':Nat} {e:TypeId} {t tn:Ty} {dQ:Nat} {done:List (El t)} {cur Rb:List AV} {rest:List (El tn)}:Sh n (.zip o e t tn dQ done cur rest) (.zip o' e t tn dQ done Rb rest)
 | mp {kt:Kt} {t:Ty} {m:Nat} {f:kt.K->Option (El t)}:Sh n (.mp kt t m f) (.mp kt t m f)
 | mq {q q':Nat}:Sh n (.mq q) (.mq q')
 | mr {p:Nat} {kt:Kt} {t:Ty} {e:TypeId} {m:Nat} {f:kt.K->Option (List (El t))}:Sh n (.mr p kt t e m f) (.mr (n+p) kt t e m f)
theorem Sh.solid {n:Nat} {y0 y:aa} (h:Sh n y0 y) (hs:y.solid=true):(∀u b,Bk y u b->Bk y0 u b)/\∀(bs aD:List Value) (w:World) (S:Nat->Prop) (u:Value),bs.length=n->OR aD w S y0 u->OR (bs++aD) w S y u:=by
 cases h with
 | row=>exact⟨λ_ _ h=>h,λ_ _ _ _ _ _ h=>h⟩
 | zc=>exact⟨λ_ _ h=>h,λ_ _ _ _ _ _ h=>h⟩
 | mp=>exact⟨λ_ _ h=>h,λ_ _ _ _ _ _ h=>h⟩
 | mq=>exact⟨λ_ _ h=>h,λ_ _ _ _ _ _ h=>h⟩
 | mr=>
  refine⟨λ_ _ h=>h,λbs aD w S u hl ⟨b,l,g,e,h1,r⟩=>⟨b,l,g,e,?_,r⟩⟩;rw[<-hl,List.getElem?_append_right (by omega),Nat.add_sub_cancel_left];exact h1
 | _=>cases hs
section
variable {n:Nat}
theorem Ll {bs aD:List Value} {w:World} {S:Nat->Prop} {t:Ty} {x:El t} {v:Value} (h:VR bs w S (one t x) v):VR aD w S (one t x) v:=by
 cases t<;>exact h
theorem yf {s:ZS} {x:ZV s} {k j:Nat}:(tM k s x).2.length=(tM j s x).2.length:=by cases s<;>rfl
theorem tL:∀{l:List ZS} {x:sJ l} {k j:Nat},(k8 k l x).2.length=(k8 j l x).2.length
 | [],_,_,_=>rfl
 | s::l,x,k,j=>by
  show((tM k s x.1).2++_).length=((tM j s x.1).2++_).length;rw[List.length_append,List.length_append,yf (k:=k) (j:=j),tL (l:=l)]
theorem ye:∀{l:List ZS} {x:sJ l} {k:Nat},F2 (Sh n) (k8 k l x).2 (k8 (n+k) l x).2
 | [],_,_=>.nil
 | s::l,x,k=>by
  have h1:F2 (Sh n) (tM k s x.1).2 (tM (n+k) s x.1).2:=by
   cases s with
   | d t=>exact .nil
   | own t e=>exact .cons .row .nil
   | any=>exact .cons .dead .nil
  have h3:=ye (l:=l) (x:=x.2) (k:=k+(tM k s x.1).2.length);have e:n+(k+(tM k s x.1).2.length)=n+k+(tM (n+k) s x.1).2.length:=by rw[yf (k:=k) (j:=n+k)];omega
  rw[e] at h3;exact h1.append h3
theorem Dq {s:CS} {x:CV s} {k:Nat}:F2 (Sh n) (me k s x).2 (me (n+k) s x).2/\∀(bs aD:List Value) (w:World) (S:Nat->Prop) (v:Value),bs.length=n->VR aD w S (me k s x).1 v->VR (bs++aD) w S (me (n+k) s x).1 v:=by
 cases s with
 | d t=>exact⟨.nil,λbs aD w S v _ h=>Ll h⟩
 | own t e=>
  refine⟨.cons .row .nil,λbs aD w S v hl h=>⟨?_,h.2⟩⟩;rw[<-hl,List.getElem?_append_right (by omega),Nat.add_sub_cancel_left];exact h.1
 | any=>
  refine⟨.cons .dead .nil,λbs aD w S v hl h=>⟨?_,h.2⟩⟩;rw[<-hl,List.getElem?_append_right (by omega),Nat.add_sub_cancel_left];exact h.1
 | zc t tn e=>
  refine⟨.cons .zc .nil,λbs aD w S v hl h=>⟨?_,h.2⟩⟩;rw[<-hl,List.getElem?_append_right (by omega),Nat.add_sub_cancel_left];exact h.1
 | zip t tn e zs=>
  refine⟨.cons .zip (.cons .dead ?_),λbs aD w S v hl h=>⟨?_,h.2⟩⟩
  ·have:=ye (n:=n) (l:=zs) (x:=x.2.2.1) (k:=k+2)
   rwa [<-Nat.add_assoc] at this
  ·rw[<-hl,List.getElem?_append_right (by omega),Nat.add_sub_cancel_left];exact h.1
 | mp kt t=>
  refine⟨.cons .mp .nil,λbs aD w S v hl h=>⟨?_,h.2⟩⟩;rw[<-hl,List.getElem?_append_right (by omega),Nat.add_sub_cancel_left];exact h.1
 | mr kt t e=>
  refine⟨.cons .mq (.cons .mr .nil),λbs aD w S v hl h=>⟨?_,h.2⟩⟩;rw[<-hl,List.getElem?_append_right (by omega),Nat.add_sub_cancel_left];exact h.1
theorem Hc {s:CS} {x:CV s} {k j:Nat}:(me k s x).2.length=(me j s x).2.length:=by
 cases s with
 | zip t tn e zs=>
  show(k8 (k+2) zs x.2.2.1).2.length+1+1=(k8 (j+2) zs x.2.2.1).2.length+1+1;rw[tL]
 | _=>rfl
theorem yg:∀{l:List CS} {x:eX l} {k:Nat},F2 (Sh n) (lh k l x).2 (lh (n+k) l x).2/\∀(bs aD:List Value) (w:World) (S:Nat->Prop) (vs:List Value),bs.length=n->F2 (VR aD w S) (lh k l x).1 vs->F2 (VR (bs++aD) w S) (lh (n+k) l x).1 vs
 | [],_,_=>⟨.nil,λ_ _ _ _ _ _ h=>by cases h;exact .nil⟩
 | s::l,x,k=>by
  obtain⟨h1,h2⟩:=Dq (n:=n) (s:=s) (x:=x.1) (k:=k);obtain⟨h3,h4⟩:=yg (l:=l) (x:=x.2) (k:=k+(me k s x.1).2.length);have e:n+(k+(me k s x.1).2.length)=n+k+(me (n+k) s x.1).2.length:=by rw[Hc (k:=k) (j:=n+k)];omega
  rw[e] at h3 h4;refine⟨h1.append h3,λbs aD w S vs hl h=>?_⟩;cases h with
  | cons q1 q2=>exact .cons (h2 bs aD w S _ hl q1) (h4 bs aD w S _ hl q2)
theorem Lx {s:SS} {x:SW s} {k:Nat}:F2 (Sh n) (oC k s x).2 (oC (n+k) s x).2:=by
 cases s with
 | c s=>exact(Dq (n:=n) (s:=s) (x:=x) (k:=k)).1
 | st q=>exact .nil
 | fn k=>exact .nil
 | rf k=>exact .nil
 | cl k t=>exact .nil
 | sb o o2=>exact .nil
 | box ty cs=>
  obtain⟨h3,h4⟩:=yg (n:=n) (l:=cs) (x:=x) (k:=k+1);exact .cons (.cells h4) h3
theorem Dp:∀{l:List (Nat×SS)} {x:aG l} {k:Nat},F2 (Sh n) (lg k l x).2 (lg (n+k) l x).2
 | [],_,_=>.nil
 | p::l,x,k=>by
  have h1:=Lx (n:=n) (s:=p.2) (x:=x.1) (k:=k);have h2:=Dp (l:=l) (x:=x.2) (k:=k+(oC k p.2 x.1).2.length);have e:n+(k+(oC k p.2 x.1).2.length)=n+k+(oC (n+k) p.2 x.1).2.length:=by rw[h1.length];omega
  rw[e] at h2;exact h1.append h2
end
def yS (ys:List aa):List Nat:=(List.range ys.length).filter λi=>match ys[i]? with
 | some (.cells _ _)=>true
 | _=>false
def yL (ids:List (Option Nat)):Bool:=t3 [] ids
def M5 {P:Program} (E:Em P) (_:Env) (H:List aa) (xs:Option (List XV)):T (XV×List aa):=match xs with
 | some xs=>match tw H (kA 0 xs) E.l0 with
  | some (x,ids)=>if EC P E.f&&yL ids&&xs.length==E.l0.length&&yS (bB E.l0 x).heap==E.pb then (E.F x).bind λq=>if q.1.free&&yS (lg H.length E.lr q.2).2==E.pb&&(lg H.length E.lr q.2).2.length==ids.length then .lf (q.1,EQ ids H (lg H.length E.lr q.2).2) else .bad
   else .bad
  | none=>.bad
 | none=>.bad
section
variable {P:Program} {o:Oper} {cx:Cx} {bs:List Value} {w:World} {S:Nat->Prop} {H:List aa} {m:Nat} {env:Env} {a:Act} {K:Act->World->Prop} {Q:Exit->Act->World->Prop}
theorem qo {ys:List aa} {i:Nat}:i∈yS ys↔∃ty cs,ys[i]?=some (.cells ty cs):=by
 unfold yS;rw[List.mem_filter,List.mem_range];constructor
 ·rintro⟨_,h⟩;split at h
  ·rename_i ty cs e;exact⟨ty,cs,e⟩
  ·cases h
 ·rintro⟨ty,cs,e⟩;exact⟨(List.getElem?_eq_some_iff.1 e).1,by rw[e]⟩
theorem uq {ids:List (Option Nat)} (h:yL ids=true) {i j p:Nat} (hi:ids[i]?=some (some p)) (hj:ids[j]?=some (some p)):i=j:=by
 unfold yL t3 at h;rw[Bool.and_eq_true] at h;have h:=h.1;have FW:=(List.getElem?_eq_some_iff.1 hi).1;have Ml:=(List.getElem?_eq_some_iff.1 hj).1;rcases Nat.lt_trichotomy i j with hlt|e|hlt
 ·have:=List.all_eq_true.1 (List.all_eq_true.1 h j (List.mem_range.2 Ml)) i (List.mem_range.2 hlt);rw[hi,hj] at this;simp at this
 ·exact e
 ·have:=List.all_eq_true.1 (List.all_eq_true.1 h i (List.mem_range.2 FW)) j (List.mem_range.2 hlt);rw[hi,hj] at this;simp at this
theorem IV (hs:HS cx bs w S H) (he:ER m bs w S env a) {E:Em P} {args:Array Operand} {ts:Array TypeId} (hop:o.op=.call { callee:=.value (.func E.f),args:=args,argTypes:=ts }) {r:XV×List aa} (h:(M5 E env H (fe env args.toList)).hit r) (hK:∀v w' aD S',HS cx aD w' S' r.2->(∀b,S b->S' b)->af S w w'->eI bs aD->XR aD w' S' r.1 v->K (a.put o.dst v) w'):o.wp P a w K Q:=by
 unfold M5 at h;split at h
 ·rename_i xs FN;split at h
  ·rename_i x ids FT;split at h
   ·rename_i hc;simp only[Bool.and_eq_true,beq_iff_eq] at hc;obtain⟨⟨⟨QA,gC⟩,hlen⟩,jl⟩:=hc;obtain⟨q,h1,h2⟩:=T.hit_bind h;split at h2
    ·rename_i hc2;simp only[Bool.and_eq_true,beq_iff_eq] at hc2;obtain⟨⟨nN,Vh⟩,t4⟩:=hc2;obtain⟨r0,z⟩:=q;have h2:(r0,_)=r:=h2;subst h2;have ha:=eS he FN;have VI:ER xs.length bs w S (kA 0 xs) ⟨(args.toList.map a.eval).toArray,[]⟩:=by
      refine⟨rfl,by show(args.toList.map a.eval).toArray.size=_;rw[List.size_toArray,ha.length],my ha λj v hj=>?_⟩;rw[Nat.zero_add];simpa using hj
     obtain⟨FT,FS⟩:=xJ FT;obtain⟨us,re,kk⟩:=qY hs VI FT 0;obtain⟨k1,k2⟩:=kk us (λj u hj=>by rw[Nat.zero_add];exact hj) (FS _ _);have rl:=re.len
     let M:Nat->Prop:=λb=>∃(k:Nat) (y:aa) (u:Value),(bB E.l0 x).heap[k]?=some y/\us[k]?=some u/\Bk y u b
     have hM:∀b,M b->∃(k p:Nat) (y:aa) (u:Value),ids[k]?=some (some p)/\H[p]?=some y/\bs[p]?=some u/\us[k]?=some u/\Bk y u b:=by
      rintro b ⟨k,y,u,g1,g2,g3⟩;rcases re.get k y u g1 g2 with⟨p,x1,q1,q2,q3,q4⟩|⟨_,q⟩
      ·exact⟨k,p,x1,u,q1,q2,q3,g2,sE q4 g3⟩
      ·exact absurd g3 (q b)
     have QS:∀b,M b->¬S b:=λb hb=>by
      obtain⟨k,p,y,u,_,g2,g3,_,g5⟩:=hM b hb;exact(hs.nw p y u b g2 g3 g5).2
     have Wl:∀b,M b->cx.w0.heap.size<=b\/cx.M b:=λb hb=>by
      obtain⟨k,p,y,u,_,g2,g3,_,g5⟩:=hM b hb;exact(hs.nw p y u b g2 g3 g5).1
     let Q7:Cx:=⟨w,S,M,us,E.pb,λw2 h1 h2 h3 h4 h5=>cx.wk w2 (Nat.le_trans hs.size h1) (h2.trans hs.os) (h3.trans hs.tape) (h4.trans hs.output) λb hb hm=>(h5 b (Nat.lt_of_lt_of_le hb hs.size) λq=>(Wl b q).elim (λq=>by omega) hm).trans (hs.old b hb hm)⟩
     have U2:HS Q7 us w S (bB E.l0 x).heap:=by
      refine⟨rl.2,λi y v hy hv=>k2 i y v hy hv,?_,?_,λb q=>⟨(hs.s b q).1,.inl q⟩,λ_ h=>h,rfl,rfl,rfl,Nat.le_refl _,λ_ _ _=>rfl,λ_ _ _ h _=>h⟩
      ·intro i j y y2 u v b oE hy hu hz hv bp bQ;rcases re.get i y u hy hu with⟨p,x1,q1,q2,q3,q4⟩|⟨_,q⟩
       ·rcases re.get j y2 v hz hv with⟨p',x2,q5,q6,q7,q8⟩|⟨_,q⟩
        ·exact hs.ap p p' x1 x2 u v b (λep=>oE (uq gC q1 (ep▸q5))) q2 q3 q6 q7 (sE q4 bp) (sE q8 bQ)
        ·exact absurd bQ (q b)
       ·exact absurd bp (q b)
      ·intro i y u b hy hu hb;exact⟨.inr ⟨i,y,u,hy,hu,hb⟩,QS b ⟨i,y,u,hy,hu,hb⟩⟩
     have Eg:∀i y,(i,y)∈(bB E.l0 x).env->∃v,(args.toList.map a.eval)[i]?=some v/\XR us w S y v:=λi y hy=>by
      obtain⟨v,q1,q2⟩:=k1 i y hy;exact⟨v,by simpa using q1,q2⟩
     have pX:=E.ok Q7 us S _ x r0 z rfl (λ_ h=>h) U2 Eg (by rw[<-ha.length];exact hlen) h1;unfold Oper.wp execOp;have hev:a.eval (.func E.f)=.func (.func E.f) #[] #[]:=rfl;have kC:(args.toList.map a.eval).toArray=args.map a.eval:=by rw[<-Array.toList_map]
     simp only[hop,resolve,hev,Deferred.ofValue,Sem.run_bind,Sem.run_pure,Result.andThen_ok,invoke,Array.empty_append,Array.append_empty,gT QA,Oper.upon_enter];rw[<-kC];refine pX.mono λe w' pU=>?_;obtain⟨v,aD,S',rfl,dl,hr⟩:=pU;have Ke:∀b,S b->S' b:=dl.s0;have hold:∀b,b<w.heap.size->¬M b->w'.heap[b]?=w.heap[b]?:=dl.old;have aV:af S w w':=λp hp=>hold p (hs.s _ hp).1 λhm=>QS _ hm hp;have FQ:F2 (Sh H.length) (lg 0 E.lr z).2 (lg H.length E.lr z).2:=by
      have:=Dp (n:=H.length) (l:=E.lr) (x:=z) (k:=0)
      rwa [Nat.add_zero] at this
     have uX:aD.length=(lg H.length E.lr z).2.length:=by rw[<-FQ.length];exact dl.len
     have nR:eI bs (bs++aD):=λi u hu _=>by rw[List.getElem?_append_left (List.getElem?_eq_some_iff.1 hu).1];exact hu
     have Er:∀{k:Nat} {ty:TypeId} {cs:List AV} {i:Nat},ids[k]?=some (some i)->(lg H.length E.lr z).2[k]?=some (.cells ty cs)->∃sp g,(bB E.lr z).heap[k]?=some (.cells ty sp)/\aD[k]?=some (.pointer (some ⟨g,0,none⟩))/\bs[i]?=some (.pointer (some ⟨g,0,none⟩))/\(∃FJ c0,H[i]?=some (.cells FJ c0))/\OR (bs++aD) w' S' (.cells ty cs) (.pointer (some ⟨g,0,none⟩)):=by
      intro k ty cs i hk hy;have J6:k∈E.pb:=by rw[<-Vh];exact qo.2 ⟨ty,cs,hy⟩
      have rU:=J6;rw[<-jl] at rU;obtain⟨ty1,cs1,bp⟩:=qo.1 rU;have Ix:k<us.length:=by rw[rl.2];exact(List.getElem?_eq_some_iff.1 bp).1
      obtain⟨g,vs1,hu,_⟩:=k2 k _ _ bp (List.getElem?_eq_getElem Ix);have NU:us[k]?=some (.pointer (some ⟨g,0,none⟩)):=by rw[List.getElem?_eq_getElem Ix,hu]
      have bQ:=dl.an k _ J6 NU rfl;obtain⟨sp,QG,U0⟩:∃sp,(lg 0 E.lr z).2[k]?=some (.cells ty sp)/\Sh H.length (.cells ty sp) (.cells ty cs):=by
       have D9:k<(lg 0 E.lr z).2.length:=by rw[FQ.length];exact(List.getElem?_eq_some_iff.1 hy).1
       obtain⟨y',Br,hq⟩:=FQ.get (List.getElem?_eq_getElem D9);rw[hy] at Br;obtain rfl:=Option.some.inj Br;cases LZ:(lg 0 E.lr z).2[k] with
       | cells jP eu=>rw[LZ] at hq;cases hq with|cells hq=>exact⟨eu,by rw[List.getElem?_eq_getElem D9,LZ],.cells hq⟩
       | row t e rs=>rw[LZ] at hq;cases hq
       | zc e t tn dQ done rest=>rw[LZ] at hq;cases hq
       | zip o2 e t tn dQ done cur rest=>rw[LZ] at hq;cases hq
       | _=>rw[LZ] at hq;cases hq
      obtain⟨g',vs,e2,fb,hf⟩:=dl.o k _ _ QG bQ;rcases re.get k _ _ bp NU with⟨p,x1,q1,q2,q3,q4⟩|⟨q1,_⟩
      ·rw[hk] at q1;obtain rfl:=Option.some.inj (Option.some.inj q1);refine⟨sp,g,QG,bQ,q3,?_,g',vs,e2,fb,?_⟩
       ·cases x1 with
        | cells FJ c0=>exact⟨FJ,c0,q2⟩
        | row t e rs=>have:=hs.o i _ _ q2 q3;obtain⟨A,n,c,e,_⟩:=Own.slice (α:=El t) this;cases e
        | zc e t tn dQ done rest=>obtain⟨aO,this,_⟩:=hs.o i _ _ q2 q3;obtain⟨A,n,c,e,_⟩:=Own.slice this;cases e
        | zip o2 e t tn dQ done cur rest=>obtain⟨aO,this,_⟩:=hs.o i _ _ q2 q3;obtain⟨A,n,c,e,_⟩:=Own.slice this;cases e
        | dead=>exact absurd (q4 _ rfl) (λh=>by cases h)
        | mp kt t n f=>obtain⟨_,_,e,_⟩:=hs.o i _ _ q2 q3;cases e
        | mq q=>obtain⟨_,e⟩:=hs.o i _ _ q2 q3;cases e
        | mr p kt t e n f=>obtain⟨_,_,_,e,_⟩:=hs.o i _ _ q2 q3;cases e
        | mx p kt t e n f k=>obtain⟨_,_,_,e,_⟩:=hs.o i _ _ q2 q3;cases e
       ·cases U0 with|cells hq=>exact hq bs aD w' S' vs hs.len hf
      ·rw[hk] at q1;cases q1
     have jw:∀{i:Nat} {y:aa} {u:Value},(EQ ids H (lg H.length E.lr z).2)[i]?=some y->(bs++aD)[i]?=some u-> y=.dead\/(H[i]?=some y/\bs[i]?=some u/\some i∉ids)\/(∃(k g:Nat) (ty:TypeId) (cs:List AV) (sp:List AV) (FJ:TypeId) (c0:List AV),y=.cells ty cs/\ids[k]?=some (some i)/\u=.pointer (some ⟨g,0,none⟩)/\bs[i]?=some u/\H[i]?=some (.cells FJ c0)/\aD[k]?=some u/\(bB E.lr z).heap[k]?=some (.cells ty sp)/\OR (bs++aD) w' S' y u)\/ (∃(k:Nat) (y0:aa),y.solid=true/\i=H.length+k/\aD[k]?=some u/\(bB E.lr z).heap[k]?=some y0/\Sh H.length y0 y):=by
      intro i y u hy hu;have dh:(setB ids (lg H.length E.lr z).2 (nB ids H)).length=H.length:=by rw[cZ,jj]
      unfold EQ at hy;by_cases hi:i<H.length
      ·rw[List.getElem?_append_left (by rw[dh];exact hi)] at hy;rw[List.getElem?_append_left (by rw[hs.len];exact hi)] at hu;rcases dn hy with hy|⟨k,ty,cs,rfl,g1,g2⟩
       ·rcases lk hy with hy|⟨hy,hn⟩
        ·exact .inl hy
        ·exact .inr (.inl ⟨hy,hu,hn⟩)
       ·obtain⟨sp,g,q1,q2,q3,⟨FJ,c0,q4⟩,q5⟩:=Er g1 g2;rw[hu] at q3;obtain rfl:=Option.some.inj q3;exact .inr (.inr (.inl ⟨k,g,ty,cs,sp,FJ,c0,rfl,g1,rfl,hu,q4,q2,q1,q5⟩))
      ·rw[List.getElem?_append_right (by rw[dh];omega),dh] at hy;rw[List.getElem?_append_right (by rw[hs.len];omega),hs.len] at hu;rcases pv hy with hy|⟨hy,Iq⟩
       ·exact .inl hy
       ·have D9:i-H.length<(lg 0 E.lr z).2.length:=by rw[FQ.length];exact(List.getElem?_eq_some_iff.1 hy).1
        obtain⟨y',Br,hq⟩:=FQ.get (List.getElem?_eq_getElem D9);rw[hy] at Br;obtain rfl:=Option.some.inj Br;exact .inr (.inr (.inr ⟨i-H.length,_,Iq,by omega,hu,List.getElem?_eq_getElem D9,hq⟩))
     have j6:∀{i:Nat} {y:aa} {u:Value} {b:Nat},H[i]?=some y->bs[i]?=some u->some i∉ids->Bk y u b->b<w.heap.size/\¬M b:=by
      intro i y u b g1 g2 g3 g4;refine⟨(hs.o i y u g1 g2).lt g4,λhm=>?_⟩;obtain⟨k,p,y',u',q1,q2,q3,_,q5⟩:=hM b hm;refine hs.ap i p y y' u u' b (λe=>?_) g1 g2 q2 q3 g4 q5;subst e;exact g3 (List.mem_of_getElem? q1)
     have cM:HS cx (bs++aD) w' S' (EQ ids H (lg H.length E.lr z).2):=by
      refine⟨?_,?_,?_,?_,λb q=>?_,λb q=>Ke b (hs.s0 b q),dl.os.trans hs.os,dl.tape.trans hs.tape,dl.output.trans hs.output,Nat.le_trans hs.size dl.size,λb q1 q2=>?_,λi v p q r=>nR i _ (hs.an i v p q r) r⟩
      ·unfold EQ;rw[List.length_append,List.length_append,cZ,jj,pp,hs.len,uX]
      ·intro i y u hy hu;rcases jw hy hu with rfl|⟨g1,g2,g3⟩|⟨k,g,ty,cs,sp,FJ,c0,_,_,_,_,_,_,_,g9⟩|⟨k,g0,gs,_,g3,g4,gq⟩
       ·exact trivial
       ·exact(hs.o i y u g1 g2).same (λb hb=>hold b (j6 g1 g2 g3 hb).1 (j6 g1 g2 g3 hb).2) dl.size aV Ke (λb q=>⟨(dl.s b q).1,λe=>by
         obtain⟨p1,_⟩:=j6 g1 g2 g3 e;rcases(dl.s b q).2 with q|q|q
         ·exact(hs.nw i y u b g1 g2 e).2 q
         ·have:w.heap.size<=b:=q;omega
         ·exact(j6 g1 g2 g3 e).2 q⟩) nR
       ·exact g9
       ·exact(gq.solid gs).2 bs aD w' S' u hs.len (dl.o k _ _ g4 g3)
      ·intro i j y y2 u v b oE hy hu hz hv bp bQ;have O1:∀{k:Nat} {y:aa} {u:Value},aD[k]?=some u->(bB E.lr z).heap[k]?=some y->Bk y u b->(w.heap.size<=b\/M b):=λg1 g2 g3=>(dl.nw _ _ _ b g2 g1 g3).1;rcases jw hy hu with rfl|⟨g1,g2,g3⟩|⟨k,g,ty,cs,sp,FJ,c0,rfl,g2,rfl,g4,g5,g6,g7,_⟩|⟨k,g0,gs,g2,g3,g4,gq⟩
       ·cases bp
       ·rcases jw hz hv with rfl|⟨p1,p2,p3⟩|⟨k',g',jP,eu,Rc,ON,c0',rfl,p2,rfl,p4,p5,p6,p7,_⟩|⟨k',p0,ps,p2,p3,p4,pq⟩
        ·cases bQ
        ·exact hs.ap i j y y2 u v b oE g1 g2 p1 p2 bp bQ
        ·exact hs.ap i j y _ u _ b oE g1 g2 p5 p4 bp bQ
        ·obtain⟨q1,q2⟩:=j6 g1 g2 g3 bp;rcases O1 p3 p4 ((pq.solid ps).1 _ _ bQ) with q|q
         ·omega
         ·exact q2 q
       ·rcases jw hz hv with rfl|⟨p1,p2,p3⟩|⟨k',g',jP,eu,Rc,ON,c0',rfl,p2,rfl,p4,p5,p6,p7,_⟩|⟨k',p0,ps,p2,p3,p4,pq⟩
        ·cases bQ
        ·exact hs.ap i j _ y2 _ v b oE g5 g4 p1 p2 bp bQ
        ·exact hs.ap i j _ _ _ _ b oE g5 g4 p5 p4 bp bQ
        ·have nI:k≠k':=λe=>by subst e;rw[g7] at p4;obtain rfl:=Option.some.inj p4;cases pq;cases ps
         exact dl.ap k k' _ _ _ _ b nI g7 g6 p4 p3 bp ((pq.solid ps).1 _ _ bQ)
       ·rcases jw hz hv with rfl|⟨p1,p2,p3⟩|⟨k',g',jP,eu,Rc,ON,c0',rfl,p2,rfl,p4,p5,p6,p7,_⟩|⟨k',p0,ps,p2,p3,p4,pq⟩
        ·cases bQ
        ·obtain⟨q1,q2⟩:=j6 p1 p2 p3 bQ;rcases O1 g3 g4 ((gq.solid gs).1 _ _ bp) with q|q
         ·omega
         ·exact q2 q
        ·have nI:k≠k':=λe=>by subst e;rw[p7] at g4;obtain rfl:=Option.some.inj g4;cases gq;cases gs
         exact dl.ap k k' _ _ _ _ b nI g4 g3 p7 p6 ((gq.solid gs).1 _ _ bp) bQ
        ·exact dl.ap k k' _ _ _ _ b (λe=>oE (by omega)) g4 g3 p4 p3 ((gq.solid gs).1 _ _ bp) ((pq.solid ps).1 _ _ bQ)
      ·intro i y u b hy hu hb;have QW:M b->cx.w0.heap.size<=b\/cx.M b:=λhm=>by
        obtain⟨k,p,y',u',_,q2,q3,_,q5⟩:=hM b hm;exact(hs.nw p y' u' b q2 q3 q5).1
       rcases jw hy hu with rfl|⟨g1,g2,g3⟩|⟨k,g,ty,cs,sp,FJ,c0,rfl,g2,rfl,g4,g5,g6,g7,_⟩|⟨k,g0,gs,g2,g3,g4,gq⟩
       ·cases hb
       ·refine⟨(hs.nw i y u b g1 g2 hb).1,λq=>?_⟩;obtain⟨p1,_⟩:=j6 g1 g2 g3 hb;rcases(dl.s b q).2 with q|q|q
        ·exact(hs.nw i y u b g1 g2 hb).2 q
        ·have:w.heap.size<=b:=q;omega
        ·exact(j6 g1 g2 g3 hb).2 q
       ·exact⟨(hs.nw i _ _ b g5 g4 hb).1,(dl.nw k _ _ b g7 g6 hb).2⟩
       ·obtain⟨q1,q2⟩:=dl.nw k _ _ b g4 g3 ((gq.solid gs).1 _ _ hb);refine⟨?_,q2⟩;rcases q1 with q1|q1
        ·exact .inl (Nat.le_trans hs.size q1)
        ·exact QW q1
      ·obtain⟨q1,q2⟩:=dl.s b q;refine⟨q1,?_⟩;rcases q2 with q2|q2|⟨k,y,u,p1,p2,p3⟩
       ·exact(hs.s b q2).2
       ·exact .inr (.inl (Nat.le_trans hs.size q2))
       ·obtain⟨_,p,y',u',_,p4,p5,_,p6⟩:=hM b ⟨k,y,u,p1,p2,p3⟩;exact .inr (hs.nw p y' u' b p4 p5 p6).1
      ·refine(hold b (Nat.lt_of_lt_of_le q1 hs.size) λhm=>?_).trans (hs.old b q1 q2);obtain⟨k,p,y',u',_,g2,g3,_,g5⟩:=hM b hm;rcases(hs.nw p y' u' b g2 g3 g5).1 with g|g
       ·omega
       ·exact q2 g
     exact hK v w' (bs++aD) S' cM Ke aV nR (XR.free nN hr)
    ·exact h2.elim
   ·exact h.elim
  ·exact h.elim
 ·exact h.elim
end
def JL (ys:List aa):Bool:=ys.all λ
 | .cells _ _=>true
 | .dead=>true
 | _=>false
def Lb (ys:List aa):List Nat:=(List.range ys.length).filter λi=>match ys[i]? with
 | some (.row _ _ _)=>false
 | some _=>true
 | _=>false
def yy:AV->Option Nat
 | .any j=>some j
 | _=>none
def uG (pb:List Nat):List AV->List AV->Bool
 | [],[]=>true
 | a::l,b::m=>(match yy b with
  | some j=>yy a==some j&&pb.contains j
  | none=>b.free)&&uG pb l m
 | _,_=>false
def Pv:List AV->List AV->List AV
 | a::l,b::m=>(match yy b with
  | some _=>a
  | none=>b)::Pv l m
 | _,_=>[]
def setL (pb:List Nat) (H:List aa):List (Option Nat)->List aa->List aa->Option (List (Nat×aa))
 | [],[],[]=>some []
 | i::ids,x::xs,y::ys=>match x,y with
  | .dead,.dead=>setL pb H ids xs ys
  | .cells ty cs,.cells jP eu=>match i.bind (H[·]?),i with
   | some (.cells _ c0),some o=>if jP=ty/\uG pb cs eu=true then(setL pb H ids xs ys).map λl=>(o,.cells ty (Pv c0 eu))::l else none
   | _,_=>none
  | _,_=>none
 | _,_,_=>none
def Dc:CS->Bool
 | .d _=>true
 | .any=>true
 | _=>false
def Pr (l:List (Nat×SS)):Bool:=l.all λp=>match p.2 with
 | .c s=>Dc s
 | .box _ cs=>cs.all Dc
 | .st _=>true
 | .fn _=>true
 | .rf _=>true
 | .cl _ _=>true
 | .sb _ _=>false
def wJ {P:Program} (E:Em P) (_:Env) (H:List aa) (xs:Option (List XV)):T (XV×List (Nat×aa)):=match xs with
 | some xs=>match tw H (kA 0 xs) E.l0 with
  | some (x,ids)=>if EC P E.f&&yL ids&&xs.length==E.l0.length&&Lb (bB E.l0 x).heap==E.pb&&JL (bB E.l0 x).heap then (E.F x).bind λq=>if q.1.free then T.op ((setL E.pb H ids (bB E.l0 x).heap (bB E.lr q.2).heap).map λl=>(q.1,l)) else .bad
   else .bad
  | none=>.bad
 | none=>.bad
section
variable {P:Program} {o:Oper} {cx:Cx} {bs:List Value} {w:World} {S:Nat->Prop} {H Hv:List aa} {m:Nat} {env:Env} {a:Act} {K:Act->World->Prop} {Q:Exit->Act->World->Prop}
theorem xI (hv:ow Hv H) {t:Ty} {e:TypeId} {b:AV} {r:List (El t)×List (Option Nat)} (h:K4 Hv t e b=some r):K4 H t e b=some r:=by
 unfold K4 at h ⊢;split at h
 ·split at h
  ·rename_i hH;rcases hv.2 _ _ hH with q|q
   ·cases q
   ·simp only[q];exact h
  ·cases h
 ·exact h
 ·cases h
theorem tu (hv:ow Hv H):∀{l:List ZS} {qs:List AV} {r:sJ l×List (Option Nat)},tv Hv l qs=some r->tv H l qs=some r
 | [],[],_,h=>h
 | s::l,b::qs,r,h=>by
  have one:∀{x:ZV s×List (Option Nat)},Pe Hv s b=some x->Pe H s b=some x:=λ{x} h=>by
   cases s with
   | d t=>exact h
   | own t e=>exact xI hv h
   | any=>exact h
  unfold tv at h ⊢;cases e1:Pe Hv s b with
  | none=>rw[e1] at h;cases h
  | some x=>
   cases e2:tv Hv l qs with
   | none=>rw[e1,e2] at h;cases h
   | some y=>
    rw[e1,e2] at h;rw[one e1,tu hv e2];exact h
 | [],_::_,_,h=>by cases h
 | _::_,[],_,h=>by cases h
theorem xN (hv:ow Hv H) {s:CS} {b:AV} {r:CV s×List (Option Nat)} (h:NM Hv s b=some r):NM H s b=some r:=by
 cases s with
 | d t=>exact h
 | own t e=>exact xI hv h
 | any=>exact h
 | zc t tn e=>
  have h:zR Hv t tn e b=some r:=h;show zR H t tn e b=some r;unfold zR at h ⊢;split at h
  ·split at h
   ·rename_i hH;rcases hv.2 _ _ hH with q|q
    ·cases q
    ·simp only[q];exact h
   ·cases h
  ·cases h
 | zip t tn e zs=>
  have h:pf Hv t tn e zs b=some r:=h;show pf H t tn e zs b=some r;unfold pf at h ⊢;split at h
  ·split at h
   ·rename_i hH;rcases hv.2 _ _ hH with q|q
    ·cases q
    ·simp only[q];split at h
     ·rename_i hp;simp only[*,tu hv hp];rfl
     ·cases h
   ·cases h
  ·cases h
 | mp kt t=>
  have h:zV Hv kt t b=some r:=h;show zV H kt t b=some r;unfold zV at h ⊢;split at h
  ·split at h
   ·rename_i hH;simp only[gP hv hH (λe=>by cases e)];exact h
   ·cases h
  ·cases h
 | mr kt t e=>
  have h:zU Hv kt t e b=some r:=h;show zU H kt t e b=some r;unfold zU at h ⊢;split at h
  ·split at h
   ·rename_i hH;simp only[gP hv hH (λe=>by cases e)];split at h
    ·rename_i hQ;simp only[gP hv hQ (λe=>by cases e)];exact h
    ·cases h
   ·cases h
  ·cases h
theorem tz (hv:ow Hv H):∀{l:List CS} {qs:List AV} {r:eX l×List (Option Nat)},oN Hv l qs=some r->oN H l qs=some r
 | [],[],_,h=>h
 | s::l,b::qs,r,h=>by
  unfold oN at h ⊢;cases e1:NM Hv s b with
  | none=>rw[e1] at h;cases h
  | some x=>
   cases e2:oN Hv l qs with
   | none=>rw[e1,e2] at h;cases h
   | some y=>
    rw[e1,e2] at h;rw[xN hv e1,tz hv e2];exact h
 | [],_::_,_,h=>by cases h
 | _::_,[],_,h=>by cases h
theorem GH (hv:ow Hv H) {s:SS} {b:XV} {r:SW s×List (Option Nat)} (h:GJ Hv s b=some r):GJ H s b=some r:=by
 cases s with
 | c s=>
  cases b with
  | one c=>exact xN hv (s:=s) (r:=r) h
  | _=>cases h
 | st k=>exact h
 | fn k=>exact h
 | rf k=>exact h
 | cl k t=>exact h
 | sb o o2=>exact h
 | box ty cs=>
  have h:NN Hv ty cs b=some r:=h;show NN H ty cs b=some r;unfold NN at h ⊢;split at h
  ·split at h
   ·rename_i hH;rcases hv.2 _ _ hH with q|q
    ·cases q
    ·simp only[q];split at h
     ·rename_i e;rw[if_pos e];cases e2:oN Hv cs _ with
      | none=>rw[e2] at h;cases h
      | some y=>rw[e2] at h;rw[tz hv e2];exact h
     ·cases h
   ·cases h
  ·cases h
theorem xK (hv:ow Hv H):∀{l:List (Nat×SS)} {r:aG l×List (Option Nat)},xL Hv env l=some r->xL H env l=some r
 | [],_,h=>h
 | p::l,r,h=>by
  unfold xL at h ⊢;cases e1:env.lookup p.1 with
  | none=>rw[e1] at h;cases h
  | some b=>
   rw[e1] at h;cases e2:GJ Hv p.2 b with
   | none=>
    have h:(match GJ Hv p.2 b,xL Hv env l with|some x,some y=>some (((x.1,y.1),x.2++y.2):aG (p::l)×List (Option Nat))|_,_=>none)=some r:=h;rw[e2] at h;cases h
   | some x=>
    have h:(match GJ Hv p.2 b,xL Hv env l with|some x,some y=>some (((x.1,y.1),x.2++y.2):aG (p::l)×List (Option Nat))|_,_=>none)=some r:=h;show(match GJ H p.2 b,xL H env l with|some x,some y=>some (((x.1,y.1),x.2++y.2):aG (p::l)×List (Option Nat))|_,_=>none)=some r;cases e3:xL Hv env l with
    | none=>rw[e2,e3] at h;cases h
    | some y=>
     rw[e2,e3] at h;rw[GH hv e2,xK hv e3];exact h
theorem mX (hv:ow Hv H) {pb:List Nat}:∀{ids:List (Option Nat)} {xs ys:List aa} {l:List (Nat×aa)},setL pb Hv ids xs ys=some l->setL pb H ids xs ys=some l
 | [],[],[],_,h=>h
 | i::ids,x::xs,y::ys,l,h=>by
  unfold setL at h ⊢;split at h
  ·exact mX hv h
  ·rename_i ty cs jP eu;split at h
   ·rename_i t0 c0 o hi;have yE:H[o]?=some (.cells t0 c0):=by
     rcases hv.2 o _ hi with q|q
     ·cases q
     ·exact q
    have:((some o:Option Nat).bind λx=>H[x]?)=some (.cells t0 c0):=yE;simp only[this];split at h
    ·rename_i hc;rw[if_pos hc];cases e:setL pb Hv ids xs ys with
     | none=>rw[e] at h;cases h
     | some q=>rw[e] at h;rw[mX hv e];exact h
    ·cases h
   ·cases h
  ·cases h
 | [],[],_::_,_,h=>by cases h
 | [],_::_,_,_,h=>by cases h
 | _::_,[],_,_,h=>by cases h
 | _::_,_::_,[],_,h=>by cases h
theorem CY (hv:ow Hv H) {l:List (Nat×SS)} {r:aG l×List (Option Nat)} (h:tw Hv env l=some r):tw H env l=some r:=by
 unfold tw at h ⊢;split at h
 ·rename_i hl;rw[if_pos hl];exact xK hv h
 ·cases h
theorem ES (hv:ow Hv H) {E:Em P} {xs:Option (List XV)} {r:XV×List (Nat×aa)} (h:(wJ E env Hv xs).hit r):(wJ E env H xs).hit r:=by
 unfold wJ at h ⊢;cases xs with
 | none=>exact h.elim
 | some xs=>
  simp only at h ⊢;cases e:tw Hv (kA 0 xs) E.l0 with
  | none=>rw[e] at h;exact h.elim
  | some p=>
   rw[e] at h;rw[CY hv e];obtain⟨x,ids⟩:=p;simp only at h ⊢;split at h
   ·rename_i hc;rw[if_pos hc];have key:∀{t:T (XV×aG E.lr)},(t.bind λq=>if q.1.free then T.op ((setL E.pb Hv ids (bB E.l0 x).heap (bB E.lr q.2).heap).map λl=>(q.1,l)) else .bad).hit r->(t.bind λq=>if q.1.free then T.op ((setL E.pb H ids (bB E.l0 x).heap (bB E.lr q.2).heap).map λl=>(q.1,l)) else .bad).hit r:=by
     intro t;induction t with
     | lf q=>
      intro h;have h:(if q.1.free then T.op ((setL E.pb Hv ids (bB E.l0 x).heap (bB E.lr q.2).heap).map λl=>(q.1,l)) else .bad).hit r:=h;show(if q.1.free then T.op ((setL E.pb H ids (bB E.l0 x).heap (bB E.lr q.2).heap).map λl=>(q.1,l)) else .bad).hit r;split at h
      ·rename_i hf;rw[if_pos hf];cases e2:setL E.pb Hv ids (bB E.l0 x).heap (bB E.lr q.2).heap with
       | none=>rw[e2] at h;exact h.elim
       | some l=>rw[e2] at h;rw[mX hv e2];exact h
      ·exact h.elim
     | br b x y hx hy=>exact λh=>⟨λq=>hx (h.1 q),λq=>hy (h.2 q)⟩
     | nd p t ht=>exact λh=>⟨h.1,ht h.2⟩
     | bad=>exact λh=>h
    exact key h
   ·exact h.elim
theorem mY {pb:List Nat}:∀{ids:List (Option Nat)} {xs ys:List aa} {l:List (Nat×aa)},setL pb H ids xs ys=some l->ids.length=xs.length/\ids.length=ys.length/\(∀p∈l,∃(k:Nat) (ty t0:TypeId) (cs eu c0:List AV),ids[k]?=some (some p.1)/\xs[k]?=some (.cells ty cs)/\ys[k]?=some (.cells ty eu)/\H[p.1]?=some (.cells t0 c0)/\uG pb cs eu=true/\p.2=.cells ty (Pv c0 eu))/\ ∀(k:Nat) (ty:TypeId) (cs:List AV),xs[k]?=some (.cells ty cs)->∃p∈l,ids[k]?=some (some p.1)
 | [],[],[],l,h=>by
  injection h with h
  subst h;exact⟨rfl,rfl,(λp hp=>by cases hp),λk ty cs hk=>by cases hk⟩
 | i::ids,x::xs,y::ys,l,h=>by
  unfold setL at h;split at h
  ·obtain⟨h1,h2,h3,h4⟩:=mY h;refine⟨by simp[h1],by simp[h2],λp hp=>?_,λk ty cs hk=>?_⟩
   ·obtain⟨k,ty,t0,cs,eu,c0,q1,q2,q3,q⟩:=h3 p hp;exact⟨k+1,ty,t0,cs,eu,c0,by simpa using q1,by simpa using q2,by simpa using q3,q⟩
   ·cases k with
    | zero=>cases hk
    | succ k=>
     obtain⟨p,hp,hq⟩:=h4 k ty cs (by simpa using hk);exact⟨p,hp,by simpa using hq⟩
  ·rename_i ty cs jP eu;split at h
   ·rename_i t0 c0 o hi;split at h
    ·rename_i hc;obtain⟨rfl,hc⟩:=hc;cases e:setL pb H ids xs ys with
     | none=>rw[e] at h;cases h
     | some q=>
      rw[e] at h;injection h with h
      subst h;obtain⟨h1,h2,h3,h4⟩:=mY e;have hi:H[o]?=some (.cells t0 c0):=hi;refine⟨by simp[h1],by simp[h2],λp hp=>?_,λk ty cs hk=>?_⟩
      ·rcases List.mem_cons.1 hp with rfl|hp
       ·exact⟨0,jP,t0,cs,eu,c0,rfl,rfl,rfl,hi,hc,rfl⟩
       ·obtain⟨k,ty,t0,cs,eu,c0,q1,q2,q3,q⟩:=h3 p hp;exact⟨k+1,ty,t0,cs,eu,c0,by simpa using q1,by simpa using q2,by simpa using q3,q⟩
      ·cases k with
       | zero=>exact⟨_,List.mem_cons_self,rfl⟩
       | succ k=>
        obtain⟨p,hp,hq⟩:=h4 k ty cs (by simpa using hk);exact⟨p,List.mem_cons_of_mem _ hp,by simpa using hq⟩
    ·cases h
   ·cases h
  ·cases h
 | [],[],_::_,_,h=>by cases h
 | [],_::_,_,_,h=>by cases h
 | _::_,[],_,_,h=>by cases h
 | _::_,_::_,[],_,h=>by cases h
theorem Dk {bs aD us:List Value} {w w':World} {S S':Nat->Prop} {pb:List Nat} (hS:∀b,S b->S' b) (hk:af S w w') (QO:∀(i:Nat) (v:Value),i∈pb->us[i]?=some v->nE v=true->aD[i]?=some v) : ∀{c0 cs eu:List AV} {vs F7:List Value},uG pb cs eu=true->F2 (VR bs w S) c0 vs->F2 (VR us w S) cs vs->F2 (VR aD w' S') eu F7->F2 (VR bs w' S') (Pv c0 eu) F7
 | c0,[],[],vs,F7,_,h1,h2,h3=>by
  cases h2;cases h1;cases h3;exact .nil
 | c0,x::cs,y::eu,vs,F7,h,h1,h2,h3=>by
  cases h2 with
  | @cons _ v _ vs g1 g2=>
   cases h1 with
   | @cons z _ c0 _ f1 f2=>
    cases h3 with
    | @cons _ v' _ F7 k1 k2=>
     unfold uG at h;rw[Bool.and_eq_true] at h;refine .cons ?_ (Dk hS hk QO h.2 f2 g2 k2);have h:=h.1;cases e:yy y with
     | some j=>
      rw[e] at h;simp only[Bool.and_eq_true,beq_iff_eq] at h;obtain⟨h0,hp⟩:=h;obtain rfl:y=.any j:=by cases y<;>first|(injection e with e;subst e;rfl)|cases e
      obtain rfl:x=.any j:=by cases x<;>first|(injection h0 with h0;subst h0;rfl)|cases h0
      have e1:=QO j v (by simpa using hp) g1.1 (yW g1.2);rw[k1.1] at e1;obtain rfl:=Option.some.inj e1;exact f1.keep hS hk (eI.refl _)
     | none=>
      rw[e] at h;exact VR.free h k1
 | _,[],_::_,_,_,h,_,_,_=>by cases h
 | _,_::_,[],_,_,h,_,_,_=>by cases h
theorem C4 {ys:List aa} (hn:JL ys=true) {i:Nat} (hi:i<ys.length):i∈Lb ys:=by
 unfold Lb;rw[List.mem_filter,List.mem_range];refine⟨hi,?_⟩;rw[List.getElem?_eq_getElem hi];have:=List.all_eq_true.1 hn _ (List.getElem_mem hi);split
 ·rename_i e;injection e with e;rw[e] at this;cases this
 ·rfl
 ·rename_i h1 h2;exact(h2 _ rfl).elim
theorem tV {i:Nat} {y:aa}:∀{l:List (Nat×aa)},cH l i=some y->(i,y)∈l
 | p::l,h=>by
  have h:(match cH l i with|some y=>some y|none=>if p.1=i then some p.2 else none)=some y:=h;cases e:cH l i with
  | some u=>rw[e] at h;obtain rfl:=Option.some.inj h;exact List.mem_cons_of_mem _ (tV e)
  | none=>
   rw[e] at h;simp only at h;split at h
   ·rename_i e2;have h:=Option.some.inj h;rw[<-e2,<-h];exact List.mem_cons_self
   ·cases h
theorem tU {i:Nat}:∀{l:List (Nat×aa)},cH l i=none->∀p∈l,p.1≠i
 | q::l,h,p,hp=>by
  have h:(match cH l i with|some y=>some y|none=>if q.1=i then some q.2 else none)=none:=h;cases e:cH l i with
  | some u=>rw[e] at h;cases h
  | none=>
   rw[e] at h;simp only at h;split at h
   ·cases h
   ·rename_i hne;rcases List.mem_cons.1 hp with rfl|hp
    ·exact hne
    ·exact tU e p hp
theorem yI (hs:HS cx bs w S H) (he:ER m bs w S env a) {E:Em P} {args:Array Operand} {ts:Array TypeId} (hop:o.op=.call { callee:=.value (.func E.f),args:=args,argTypes:=ts }) {r:XV×List (Nat×aa)} (h:(wJ E env H (fe env args.toList)).hit r) (hK:∀v w' S',HS cx bs w' S' (er r.2 H)->(∀b,S b->S' b)->af S w w'->XR bs w' S' r.1 v->K (a.put o.dst v) w'):o.wp P a w K Q:=by
 unfold wJ at h;split at h
 ·rename_i xs FN;split at h
  ·rename_i x ids FT;split at h
   ·rename_i hc;simp only[Bool.and_eq_true,beq_iff_eq] at hc;obtain⟨⟨⟨⟨QA,gC⟩,hlen⟩,jl⟩,SF⟩:=hc;obtain⟨q,h1,h2⟩:=T.hit_bind h;split at h2
    ·rename_i nN;obtain⟨r0,z⟩:=q;have h2:=T.hit_op h2;cases rT:setL E.pb H ids (bB E.l0 x).heap (bB E.lr z).heap with
     | none=>
      have h2:Option.map _ (setL E.pb H ids (bB E.l0 x).heap (bB E.lr z).heap)=some r:=h2;rw[rT] at h2;cases h2
     | some l=>
     have h2:Option.map _ (setL E.pb H ids (bB E.l0 x).heap (bB E.lr z).heap)=some r:=h2;rw[rT] at h2;have h2:(r0,l)=r:=Option.some.inj h2;subst h2;have nN:r0.free=true:=nN;obtain⟨sl1,sl2,sl3,sl4⟩:=mY rT;have ha:=eS he FN;have VI:ER xs.length bs w S (kA 0 xs) ⟨(args.toList.map a.eval).toArray,[]⟩:=by
      refine⟨rfl,by show(args.toList.map a.eval).toArray.size=_;rw[List.size_toArray,ha.length],my ha λj v hj=>?_⟩;rw[Nat.zero_add];simpa using hj
     obtain⟨FT,FS⟩:=xJ FT;obtain⟨us,re,kk⟩:=qY hs VI FT 0;obtain⟨k1,k2⟩:=kk us (λj u hj=>by rw[Nat.zero_add];exact hj) (FS _ _);have rl:=re.len
     let M:Nat->Prop:=λb=>∃(k:Nat) (y:aa) (u:Value),(bB E.l0 x).heap[k]?=some y/\us[k]?=some u/\Bk y u b
     have hM:∀b,M b->∃(k p:Nat) (y:aa) (u:Value),ids[k]?=some (some p)/\(∃ty cs,(bB E.l0 x).heap[k]?=some (.cells ty cs))/\H[p]?=some y/\bs[p]?=some u/\us[k]?=some u/\Bk y u b:=by
      rintro b ⟨k,y,u,g1,g2,g3⟩;have pW:∃ty cs,(bB E.l0 x).heap[k]?=some (.cells ty cs):=by
       have:=List.all_eq_true.1 SF y (List.mem_of_getElem? g1);cases y with
       | cells ty cs=>exact⟨ty,cs,g1⟩
       | dead=>cases g3
       | _=>cases this
      rcases re.get k y u g1 g2 with⟨p,x1,q1,q2,q3,q4⟩|⟨_,q⟩
      ·exact⟨k,p,x1,u,q1,pW,q2,q3,g2,sE q4 g3⟩
      ·exact absurd g3 (q b)
     have QS:∀b,M b->¬S b:=λb hb=>by
      obtain⟨k,p,y,u,_,_,g2,g3,_,g5⟩:=hM b hb;exact(hs.nw p y u b g2 g3 g5).2
     have Wl:∀b,M b->cx.w0.heap.size<=b\/cx.M b:=λb hb=>by
      obtain⟨k,p,y,u,_,_,g2,g3,_,g5⟩:=hM b hb;exact(hs.nw p y u b g2 g3 g5).1
     let Q7:Cx:=⟨w,S,M,us,E.pb,λw2 h1 h2 h3 h4 h5=>cx.wk w2 (Nat.le_trans hs.size h1) (h2.trans hs.os) (h3.trans hs.tape) (h4.trans hs.output) λb hb hm=>(h5 b (Nat.lt_of_lt_of_le hb hs.size) λq=>(Wl b q).elim (λq=>by omega) hm).trans (hs.old b hb hm)⟩
     have U2:HS Q7 us w S (bB E.l0 x).heap:=by
      refine⟨rl.2,λi y v hy hv=>k2 i y v hy hv,?_,?_,λb q=>⟨(hs.s b q).1,.inl q⟩,λ_ h=>h,rfl,rfl,rfl,Nat.le_refl _,λ_ _ _=>rfl,λ_ _ _ h _=>h⟩
      ·intro i j y y2 u v b oE hy hu hz hv bp bQ;rcases re.get i y u hy hu with⟨p,x1,q1,q2,q3,q4⟩|⟨_,q⟩
       ·rcases re.get j y2 v hz hv with⟨p',x2,q5,q6,q7,q8⟩|⟨_,q⟩
        ·exact hs.ap p p' x1 x2 u v b (λep=>oE (uq gC q1 (ep▸q5))) q2 q3 q6 q7 (sE q4 bp) (sE q8 bQ)
        ·exact absurd bQ (q b)
       ·exact absurd bp (q b)
      ·intro i y u b hy hu hb;exact⟨.inr ⟨i,y,u,hy,hu,hb⟩,QS b ⟨i,y,u,hy,hu,hb⟩⟩
     have Eg:∀i y,(i,y)∈(bB E.l0 x).env->∃v,(args.toList.map a.eval)[i]?=some v/\XR us w S y v:=λi y hy=>by
      obtain⟨v,q1,q2⟩:=k1 i y hy;exact⟨v,by simpa using q1,q2⟩
     have pX:=E.ok Q7 us S _ x r0 z rfl (λ_ h=>h) U2 Eg (by rw[<-ha.length];exact hlen) h1;unfold Oper.wp execOp;have hev:a.eval (.func E.f)=.func (.func E.f) #[] #[]:=rfl;have kC:(args.toList.map a.eval).toArray=args.map a.eval:=by rw[<-Array.toList_map]
     simp only[hop,resolve,hev,Deferred.ofValue,Sem.run_bind,Sem.run_pure,Result.andThen_ok,invoke,Array.empty_append,Array.append_empty,gT QA,Oper.upon_enter];rw[<-kC];refine pX.mono λe w' pU=>?_;obtain⟨v,aD,S',rfl,dl,hr⟩:=pU;have Ke:∀b,S b->S' b:=dl.s0;have hold:∀b,b<w.heap.size->¬M b->w'.heap[b]?=w.heap[b]?:=dl.old;have aV:af S w w':=λp hp=>hold p (hs.s _ hp).1 λhm=>QS _ hm hp;have QO:∀(i:Nat) (v:Value),i∈E.pb->us[i]?=some v->nE v=true->aD[i]?=some v:=dl.an;have Er:∀{p:Nat×aa},p∈l->∃(k g:Nat) (ty t0:TypeId) (cs eu c0:List AV),ids[k]?=some (some p.1)/\p.2=.cells ty (Pv c0 eu)/\bs[p.1]?=some (.pointer (some ⟨g,0,none⟩))/\aD[k]?=some (.pointer (some ⟨g,0,none⟩))/\H[p.1]?=some (.cells t0 c0)/\(bB E.l0 x).heap[k]?=some (.cells ty cs)/\us[k]?=some (.pointer (some ⟨g,0,none⟩))/\(bB E.lr z).heap[k]?=some (.cells ty eu)/\OR bs w' S' p.2 (.pointer (some ⟨g,0,none⟩)):=by
      intro p hp;obtain⟨k,ty,t0,cs,eu,c0,g1,g2,g3,g4,g5,g6⟩:=sl3 p hp;have Ix:k<us.length:=by rw[rl.2];exact(List.getElem?_eq_some_iff.1 g2).1
      obtain⟨g,vs,hu,bp,Mq⟩:=k2 k _ _ g2 (List.getElem?_eq_getElem Ix);have NU:us[k]?=some (.pointer (some ⟨g,0,none⟩)):=by rw[List.getElem?_eq_getElem Ix,hu]
      have rU:k∈E.pb:=by rw[<-jl];exact C4 SF (List.getElem?_eq_some_iff.1 g2).1
      have bQ:=QO k _ rU NU rfl;obtain⟨g',F7,e2,kE,hf2⟩:=dl.o k _ _ g3 bQ;injection e2 with e2
      injection e2 with e2
      injection e2 with e2
      subst e2;rcases re.get k _ _ g2 NU with⟨p',x1,q1,q2,q3,q4⟩|⟨q1,_⟩
      ·rw[g1] at q1;obtain rfl:=Option.some.inj (Option.some.inj q1);obtain⟨g',TC,e2,hb0,hf0⟩:=hs.o _ _ _ g4 q3;injection e2 with e2
       injection e2 with e2
       injection e2 with e2
       subst e2;have:TC=vs:=by
        have h1:bS w g t0 TC.toArray:=hb0;have h2:bS w g ty vs.toArray:=bp;have h1:w.heap[g]?=_:=h1;have h2:w.heap[g]?=_:=h2;rw[h1] at h2;injection h2 with h2
        injection h2 with h2
        injection h2 with h2
       subst this;exact⟨k,g,ty,t0,cs,eu,c0,g1,g6,q3,bQ,g4,g2,NU,g3,by rw[g6];exact⟨g,F7,rfl,kE,Dk Ke aV QO g5 hf0 Mq hf2⟩⟩
      ·rw[g1] at q1;cases q1
     have jw:∀{i:Nat} {y:aa},(er l H)[i]?=some y->(H[i]?=some y/\∀p∈l,p.1≠i)\/(i,y)∈l:=by
      intro i y hy;have FW:i<H.length:=by have:=(List.getElem?_eq_some_iff.1 hy).1;rwa [dm] at this
      rw[gn (List.getElem?_eq_getElem FW)] at hy;cases e:cH l i with
      | none=>rw[e] at hy;left;exact⟨by rw[List.getElem?_eq_getElem FW];exact hy,tU e⟩
      | some u=>
       rw[e] at hy;right;have:u=y:=by simpa using hy
       subst this;exact tV e
     have j6:∀{i:Nat} {y:aa} {u:Value} {b:Nat},H[i]?=some y->bs[i]?=some u->(∀p∈l,p.1≠i)->Bk y u b->b<w.heap.size/\¬M b:=by
      intro i y u b g1 g2 g3 g4;refine⟨(hs.o i y u g1 g2).lt g4,λhm=>?_⟩;obtain⟨k,p,y',u',q1,⟨ty,cs,qc⟩,q2,q3,_,q5⟩:=hM b hm;refine hs.ap i p y y' u u' b (λe=>?_) g1 g2 q2 q3 g4 q5;subst e;obtain⟨p',hp',yC⟩:=sl4 k ty cs qc;rw[q1] at yC;exact g3 p' hp' (Option.some.inj (Option.some.inj yC)).symm
     have cM:HS cx bs w' S' (er l H):=by
      refine⟨by rw[dm];exact hs.len,?_,?_,?_,λb q=>?_,λb q=>Ke b (hs.s0 b q),dl.os.trans hs.os,dl.tape.trans hs.tape,dl.output.trans hs.output,Nat.le_trans hs.size dl.size,λb q1 q2=>?_,hs.an⟩
      ·intro i y u hy hu;rcases jw hy with⟨g1,g3⟩|g
       ·exact(hs.o i y u g1 hu).same (λb hb=>hold b (j6 g1 hu g3 hb).1 (j6 g1 hu g3 hb).2) dl.size aV Ke (λb q=>⟨(dl.s b q).1,λe=>by
         obtain⟨p1,_⟩:=j6 g1 hu g3 e;rcases(dl.s b q).2 with q|q|q
         ·exact(hs.nw i y u b g1 hu e).2 q
         ·have:w.heap.size<=b:=q;omega
         ·exact(j6 g1 hu g3 e).2 q⟩) (eI.refl _)
       ·obtain⟨k,g,ty,t0,cs,eu,c0,_,_,q3,_,_,_,_,_,q8⟩:=Er g;have q3:bs[i]?=_:=q3;rw[hu] at q3;obtain rfl:=Option.some.inj q3;exact q8
      ·intro i j y y2 u v b oE hy hu hz hv bp bQ;have old:∀{i:Nat} {y:aa} {u:Value},(er l H)[i]?=some y->bs[i]?=some u->Bk y u b->∃y',H[i]?=some y'/\Bk y' u b:=by
        intro i y u hy hu hb;rcases jw hy with⟨g1,_⟩|g
        ·exact⟨y,g1,hb⟩
        ·obtain⟨k,g,ty,t0,cs,eu,c0,_,q2,q3,_,q5,_⟩:=Er g;have q2:y=_:=q2;have q3:bs[i]?=_:=q3;rw[hu] at q3;obtain rfl:=Option.some.inj q3;subst q2;exact⟨_,q5,hb⟩
       obtain⟨y',g1,g2⟩:=old hy hu bp;obtain⟨y2',g3,g4⟩:=old hz hv bQ;exact hs.ap i j y' y2' u v b oE g1 hu g3 hv g2 g4
      ·intro i y u b hy hu hb;rcases jw hy with⟨g1,g3⟩|g
       ·refine⟨(hs.nw i y u b g1 hu hb).1,λq=>?_⟩;obtain⟨p1,_⟩:=j6 g1 hu g3 hb;rcases(dl.s b q).2 with q|q|q
        ·exact(hs.nw i y u b g1 hu hb).2 q
        ·have:w.heap.size<=b:=q;omega
        ·exact(j6 g1 hu g3 hb).2 q
       ·obtain⟨k,g,ty,t0,cs,eu,c0,_,q2,q3,q4,q5,_,_,q7,_⟩:=Er g;have q2:y=_:=q2;have q3:bs[i]?=_:=q3;rw[hu] at q3;obtain rfl:=Option.some.inj q3;subst q2;exact⟨(hs.nw i _ _ b q5 hu hb).1,(dl.nw k _ _ b q7 q4 hb).2⟩
      ·obtain⟨q1,q2⟩:=dl.s b q;refine⟨q1,?_⟩;rcases q2 with q2|q2|⟨k,y,u,p1,p2,p3⟩
       ·exact(hs.s b q2).2
       ·exact .inr (.inl (Nat.le_trans hs.size q2))
       ·obtain⟨_,p,y',u',_,_,p4,p5,_,p6⟩:=hM b ⟨k,y,u,p1,p2,p3⟩;exact .inr (hs.nw p y' u' b p4 p5 p6).1
      ·refine(hold b (Nat.lt_of_lt_of_le q1 hs.size) λhm=>?_).trans (hs.old b q1 q2);obtain⟨k,p,y',u',_,_,g2,g3,_,g5⟩:=hM b hm;rcases(hs.nw p y' u' b g2 g3 g5).1 with g|g
       ·omega
       ·exact q2 g
     exact hK v w' S' cM Ke aV (XR.free nN hr)
    ·exact h2.elim
   ·exact h.elim
  ·exact h.elim
 ·exact h.elim
end
def fOf (o:Oper):Option FuncId:=match o.op with
 | .call { callee:=.value (.func f), .. }=>some f
 | _=>none
def MY {P:Program} (Es:List (Em P)) (f:FuncId):Option (Em P):=Es.find? λE=>E.f==f
def m6:List (Nat×SS)->List Operand->List Nat
 | (_,.c (.d _))::l,.tmp t::r=>t::m6 l r
 | (_,.st _)::l,.tmp t::r=>t::m6 l r
 | _::l,_::r=>m6 l r
 | _,_=>[]
def bH {P:Program} [hP:Om P] (ty:TypeId->Option Ty) (D:List (Sm P)) (Es:List (Em P)):dN P where
 ty:=ty
 D:=D
 isP:=hP
 eff o:=((fOf o).bind (MY Es)).isSome
 x m o st:=match o.op with
  | .call { callee:=.value (.func f),args:=args, .. }=>match MY Es f with
   | some E=>(λst=>if Pr E.l0 then(wJ E st.env st.heap (fe st.env args.toList)).bind λr=>.lf ⟨ko st.env o.dst (some r.1),er r.2 st.heap⟩ else(M5 E st.env st.heap (fe st.env args.toList)).bind λr=>.lf ⟨ko st.env o.dst (some r.1),r.2⟩) ((m6 E.l0 args.toList).foldl sd st)
   | none=>.bad
  | _=>.bad
 xok m o cx st bG a w K Q _ hd h aY hK:=by
  split at h
  ·rename_i f args ts hop;split at h
   ·rename_i E hE;have hf:E.f=f:=by have:=List.find?_some hE;simpa using this
    subst hf;obtain⟨bs,S,hs,he⟩:=se (l:=m6 E.l0 args.toList) aY;simp only at h;split at h
    ·obtain⟨r,h1,h2⟩:=T.hit_bind h;have h2:(⟨ko ((m6 E.l0 args.toList).foldl sd st).env o.dst (some r.1),er r.2 ((m6 E.l0 args.toList).foldl sd st).heap⟩:bT)=bG:=h2;subst h2;exact yI hs he hop h1 λv w' S' q1 qS qk q3=>hK _ _ ⟨bs,S',q1,(he.keep qS qk (eI.refl _)).put o.dst (some r.1) v hd λy hy=>by obtain rfl:=Option.some.inj hy;exact q3⟩
    ·obtain⟨r,h1,h2⟩:=T.hit_bind h;have h2:(⟨ko ((m6 E.l0 args.toList).foldl sd st).env o.dst (some r.1),r.2⟩:bT)=bG:=h2;subst h2;exact IV hs he hop h1 λv w' aD S' q1 qS qk qa q3=>hK _ _ ⟨aD,S',q1,(he.keep qS qk qa).put o.dst (some r.1) v hd λy hy=>by obtain rfl:=Option.some.inj hy;exact q3⟩
   ·exact h.elim
  ·exact h.elim
 d o env H:=match o.op with
  | .call { callee:=.value (.func f),args:=args, .. }=>match MY Es f with
   | some E=>wJ E env H (fe env args.toList)
   | none=>.bad
  | _=>.bad
 dok m o cx bs S env Hv Hf a w r K Q _ hv hs he h hK:=by
  split at h
  ·rename_i f args ts hop;split at h
   ·rename_i E hE;have hf:E.f=f:=by have:=List.find?_some hE;simpa using this
    subst hf;exact yI hs he hop (ES hv h) hK
   ·exact h.elim
  ·exact h.elim
section
variable {P:Program} {m:Nat} {loops:List Code} (R:Rg P m) (L:oX P R.fn m R.pb loops)
def S3 (n:Nat) (body:Code) (l0 lr:List (Nat×SS)) (x:aG l0):T (XV×aG lr):=(run R L n [.code 0 body] (bB l0 x)).bind λq=>match q with
 | .ret r st=>T.op ((jp R.pb lr st).map λz=>(Gf r,z))
 | .nrm st=>if R.fn.results.toList.isEmpty then T.op ((jp R.pb lr st).map λz=>(.tup [],z)) else .bad
 | _=>.bad
end
theorem wH {P:Program} {fn:Func} {f:FuncId} {body:Code} {loops:List Code} (R:Rg P fn.ntmps) (L:oX P R.fn fn.ntmps R.pb loops) (IE:R.fn=fn) (Vi:R.pb≠[]) (hf:P.funcs[f]?=some fn) (hb:fn.body=some body) (hl:loops=eZ body) (n:Nat) (l0 lr:List (Nat×SS)) (F:aG l0->T (XV×aG lr)) (hln:l0.length<=fn.ntmps) (h:∀x r,xe l0 x->(F x).hit r->(S3 R L n body l0 lr x).hit r):eB P f R.pb l0 lr F:=by
 intro cx bs S vs x r z jl hS hs Eg Bs hr;have he:ER fn.ntmps bs cx.w0 S (bB l0 x).env { tmps:=vs.toArray++Array.replicate (fn.ntmps-vs.toArray.size) undef,defers:=[] }:=by
  refine⟨rfl,?_,λt y hy=>?_⟩
  ·show(vs.toArray++Array.replicate (fn.ntmps-vs.toArray.size) undef).size=_;rw[Array.size_append,Array.size_replicate,List.size_toArray];omega
  ·obtain⟨v,hv,hx⟩:=Eg t y hy;refine⟨v,?_,hx⟩;show(vs.toArray++Array.replicate (fn.ntmps-vs.toArray.size) undef)[t]?=_;rw[Array.getElem?_append,if_pos (by rw[List.size_toArray];exact(List.getElem?_eq_some_iff.1 hv).1)];simpa using hv
 obtain⟨q,h3,h4⟩:=T.hit_bind (h x (r,z) (Fl ⟨bs,S,hs,he⟩) hr);refine calls_of_wp hf hb (wp_mono (qz (cx:=cx) jl h3 ⟨bs,S,hs,he⟩ λj z hz=>by rw[hl,Nat.zero_add];exact hz) λe a' w' hq=>?_);cases e with
 | ret=>
  obtain⟨r',bG,rfl,aD,S1,S',dl,pU,k1,k4,v,k2,k3⟩:=hq;have h4:=T.hit_op h4;cases e2:jp R.pb lr bG with
  | none=>rw[e2] at h4;cases h4
  | some z'=>
   rw[e2] at h4;injection h4 with h4
   injection h4 with e3 e4
   subst e3 e4;rw[IE] at k2;rw[<-jl] at e2;obtain⟨us,q1,_⟩:=iI e2 dl pU;refine⟨pU.d,v,k2,v,us,S1,rfl,q1,(xu k3).keep (λb hb=>?_) (af.refl _ _) (eI.refl _)⟩;rcases k4 with k4|k4
   ·exact absurd (jl▸k4) Vi
   ·exact k4 b hb
 | normal=>
  obtain⟨bG,rfl,aD,S1,dl,pU⟩:=hq;simp only at h4;split at h4
  ·rename_i kC;have h4:=T.hit_op h4;cases e2:jp R.pb lr bG with
   | none=>rw[e2] at h4;cases h4
   | some z'=>
    rw[e2] at h4;injection h4 with h4
    injection h4 with e3 e4
    subst e3 e4;rw[IE] at kC;rw[<-jl] at e2;obtain⟨us,q1,_⟩:=iI e2 dl pU;have DY:fn.results=#[]:=by
     have:fn.results.toList=[]:=List.isEmpty_iff.1 kC;rw[<-Array.toArray_toList (xs:=fn.results),this]
    exact⟨pU.d,_,results_none DY _ _ _,_,us,S1,rfl,q1,[],rfl,.nil⟩
  ·exact h4.elim
 | exit id=>
  obtain⟨bG,rfl,_⟩:=hq;exact h4.elim
 | _=>exact hq.elim
end Go.Proofs.YtichkplomldgiaaGreatDoor
