/- MEff MEfb -/
import Derived.Test.YtdbpbfglhbiadaaGreatDoorF00
import Derived.Test.YtdbpbfglhbiadaaGreatDoorF29
set_option maxHeartbeats 8000000
set_option maxRecDepth 100000
namespace Go.Proofs.YtdbpbfglhbiadaaGreatDoor
open Go Go.RowKit
def fk (P:Program) (f:FuncId) (pb:List Nat) (l0 lr:List (Nat×SS)) (F:bM l0->T (XV×bM lr)):Prop:=
 ∀(cx:Cx) (bs:List Value) (S:Nat->Prop) (vs:List Value) (x:bM l0) (r:XV) (z:bM lr),cx.pb=pb->(∀b,S b->cx.S0 b)->HS cx bs cx.w0 S (cH l0 x).heap->(∀i y,(i,y)∈(cH l0 x).env->∃v,vs[i]?=some v/\XR bs cx.w0 S y v)->vs.length=l0.length->(F x).hit (r,z)->
  Calls P f vs.toArray cx.w0 λe w'=>∃v aU S',e=.returned v/\HS cx aU w' S' (cH lr z).heap/\XR [] w' S' r v
structure Em (P:Program) where
 f:FuncId
 pb:List Nat
 l0:List (Nat×SS)
 lr:List (Nat×SS)
 F:bM l0->T (XV×bM lr)
 ok:fk P f pb l0 lr F
def uq:List (Option Nat)->List ah->List ah
 | [],H=>H
 | some o::l,H=>uq l (H.set o .dead)
 | none::l,H=>uq l H
def setB:List (Option Nat)->List ah->List ah->List ah
 | some o::ids,.cells ty cs::ys,H=>setB ids ys (H.set o (.cells ty cs))
 | _::ids,_::ys,H=>setB ids ys H
 | _,_,H=>H
def ah.solid:ah->Bool
 | .row _ _ _=>true
 | .zc _ _ _ _ _ _=>true
 | .mp _ _ _ _=>true
 | .mq _=>true
 | .mr _ _ _ _ _ _=>true
 | _=>false
def wR:List ah->List ah
 | []=>[]
 | y::l=>(bif y.solid then y else .dead)::wR l
def Oy (ids:List (Option Nat)) (H ys:List ah):List ah:=setB ids ys (uq ids H)++wR ys
section
variable {cx:Cx} {bs aU us:List Value} {w w':World} {S S':Nat->Prop} {H:List ah}
theorem m5:∀{ids:List (Option Nat)} {H:List ah},(uq ids H).length=H.length
 | [],_=>rfl
 | some o::l,H=>by show(uq l _).length=_;rw[m5,aaJ]
 | none::l,H=>m5 (ids:=l)
theorem qA:∀{ids:List (Option Nat)} {H:List ah} {i:Nat} {x:ah},(uq ids H)[i]?=some x->x=.dead\/(H[i]?=some x/\some i∉ids)
 | [],_,_,_,h=>.inr ⟨h,by simp⟩
 | some o::l,H,i,x,h=>by
  rcases qA (ids:=l) h with h|⟨h,hn⟩
  ·exact .inl h
  ·by_cases e:o=i
   ·subst e;have hl:=(aab.1 h).1;rw[aaJ] at hl;rw[aat hl] at h;exact .inl (aad h).symm
   ·rw[aan e] at h;exact .inr ⟨h,λhm=>by rcases aas.1 hm with q|q;(· injection q with q;exact e q.symm);exact hn q⟩
 | none::l,H,i,x,h=>by
  rcases qA (ids:=l) (H:=H) h with h|⟨h,hn⟩
  ·exact .inl h
  ·exact .inr ⟨h,λhm=>by rcases aas.1 hm with q|q;(· cases q);exact hn q⟩
theorem fe:∀{ids:List (Option Nat)} {ys H:List ah},(setB ids ys H).length=H.length
 | some o::ids,.cells ty cs::ys,H=>by show(setB ids ys _).length=_;rw[fe,aaJ]
 | some o::ids,.row t e rs::ys,H=>fe (ids:=ids) (ys:=ys)
 | some o::ids,.dead::ys,H=>fe (ids:=ids) (ys:=ys)
 | some o::ids,.zc _ _ _ _ _ _::ys,H=>fe (ids:=ids) (ys:=ys)
 | some o::ids,.zip _ _ _ _ _ _ _ _::ys,H=>fe (ids:=ids) (ys:=ys)
 | some o::ids,.mp _ _ _ _::ys,H=>fe (ids:=ids) (ys:=ys)
 | some o::ids,.mq _::ys,H=>fe (ids:=ids) (ys:=ys)
 | some o::ids,.mr _ _ _ _ _ _::ys,H=>fe (ids:=ids) (ys:=ys)
 | some o::ids,.mx _ _ _ _ _ _ _::ys,H=>fe (ids:=ids) (ys:=ys)
 | none::ids,_::ys,H=>fe (ids:=ids) (ys:=ys)
 | [],_,H=>by unfold setB;rfl
 | some _::_,[],H=>by unfold setB;rfl
 | none::_,[],H=>by unfold setB;rfl
theorem fH:∀{ids:List (Option Nat)} {ys H:List ah} {i:Nat} {x:ah},(setB ids ys H)[i]?=some x->H[i]?=some x\/∃(k:Nat) (ty:TypeId) (cs:List AV),x=.cells ty cs/\ids[k]?=some (some i)/\ys[k]?=some (.cells ty cs)
 | some o::ids,.cells ty cs::ys,H,i,x,h=>by
  rcases fH (ids:=ids) (ys:=ys) h with h|⟨k,nU,gP,e,h1,h2⟩
  ·by_cases e:o=i
   ·subst e;have hl:=(aab.1 h).1;rw[aaJ] at hl;rw[aat hl] at h;exact .inr ⟨0,ty,cs,(aad h).symm,rfl,rfl⟩
   ·rw[aan e] at h;exact .inl h
  ·exact .inr ⟨k+1,nU,gP,e,h1,h2⟩
 | some o::ids,.row t e rs::ys,H,i,x,h=>by
  rcases fH (ids:=ids) (ys:=ys) (H:=H) h with h|⟨k,nU,gP,e,h1,h2⟩
  ·exact .inl h
  ·exact .inr ⟨k+1,nU,gP,e,h1,h2⟩
 | some o::ids,.dead::ys,H,i,x,h=>by
  rcases fH (ids:=ids) (ys:=ys) (H:=H) h with h|⟨k,nU,gP,e,h1,h2⟩
  ·exact .inl h
  ·exact .inr ⟨k+1,nU,gP,e,h1,h2⟩
 | some o::ids,.zc _ _ _ _ _ _::ys,H,i,x,h=>by
  rcases fH (ids:=ids) (ys:=ys) (H:=H) h with h|⟨k,nU,gP,e,h1,h2⟩
  ·exact .inl h
  ·exact .inr ⟨k+1,nU,gP,e,h1,h2⟩
 | some o::ids,.zip _ _ _ _ _ _ _ _::ys,H,i,x,h=>by
  rcases fH (ids:=ids) (ys:=ys) (H:=H) h with h|⟨k,nU,gP,e,h1,h2⟩
  ·exact .inl h
  ·exact .inr ⟨k+1,nU,gP,e,h1,h2⟩
 | some o::ids,.mp _ _ _ _::ys,H,i,x,h=>by
  rcases fH (ids:=ids) (ys:=ys) (H:=H) h with h|⟨k,nU,gP,e,h1,h2⟩
  ·exact .inl h
  ·exact .inr ⟨k+1,nU,gP,e,h1,h2⟩
 | some o::ids,.mq _::ys,H,i,x,h=>by
  rcases fH (ids:=ids) (ys:=ys) (H:=H) h with h|⟨k,nU,gP,e,h1,h2⟩
  ·exact .inl h
  ·exact .inr ⟨k+1,nU,gP,e,h1,h2⟩
 | some o::ids,.mr _ _ _ _ _ _::ys,H,i,x,h=>by
  rcases fH (ids:=ids) (ys:=ys) (H:=H) h with h|⟨k,nU,gP,e,h1,h2⟩
  ·exact .inl h
  ·exact .inr ⟨k+1,nU,gP,e,h1,h2⟩
 | some o::ids,.mx _ _ _ _ _ _ _::ys,H,i,x,h=>by
  rcases fH (ids:=ids) (ys:=ys) (H:=H) h with h|⟨k,nU,gP,e,h1,h2⟩
  ·exact .inl h
  ·exact .inr ⟨k+1,nU,gP,e,h1,h2⟩
 | none::ids,_::ys,H,i,x,h=>by
  rcases fH (ids:=ids) (ys:=ys) (H:=H) (by simpa[setB] using h) with h|⟨k,nU,gP,e,h1,h2⟩
  ·exact .inl h
  ·exact .inr ⟨k+1,nU,gP,e,h1,h2⟩
 | [],_,H,i,x,h=>by unfold setB at h;exact .inl h
 | some _::_,[],H,i,x,h=>by unfold setB at h;exact .inl h
 | none::_,[],H,i,x,h=>by unfold setB at h;exact .inl h
theorem wP:∀{ys:List ah},(wR ys).length=ys.length
 | []=>rfl
 | _::l=>by show(wR l).length+1=_;rw[wP];rfl
theorem wQ:∀{ys:List ah} {i:Nat} {x:ah},(wR ys)[i]?=some x->x=.dead\/(ys[i]?=some x/\x.solid=true)
 | y::l,0,x,h=>by
  have h:(bif y.solid then y else .dead)=x:=aad h;cases e:y.solid with
  | true=>rw[e] at h;have h:y=x:=h;subst h;exact .inr ⟨rfl,e⟩
  | false=>rw[e] at h;exact .inl h.symm
 | _::l,i+1,x,h=>wQ (ys:=l) (i:=i) (by simpa[wR] using h)
 | [],_,_,h=>by cases h
theorem sJ.same {p n:Nat} {kt:Kt} {t:Ty} {e:TypeId} {f:kt.K->Option (List (El t))} {x:kt.K->Prop} {v:Value} (h:sJ bs w S p kt t e n f x v) (hb:∀c,vB kt x v c->w'.heap[c]?=w.heap[c]?) (hk:aw S w w') (hS:∀b,S b->S' b) (hn:∀c,S' c->c<w'.heap.size/\¬vB kt x v c) (EB:iC bs aU):sJ aU w' S' p kt t e n f x v:=by
 obtain⟨b,l,g,rfl,h1,h2,h3,h4,h5,h6⟩:=h;have vJ:∀k u c,¬x k->g k=some u->u.ownBlock=some c->vB kt x (qQ b l) c:=λk u c hx hu hc=>⟨b,l,rfl,.inr ⟨k,u,hx,(h3 k u).1 hu,hc⟩⟩;refine⟨b,l,g,rfl,EB _ _ h1 rfl,h2.same (hb b ⟨b,l,rfl,.inl rfl⟩),h3,λk hx=>?_,h5,h6⟩;have:=h4 k hx;cases hf:f k with
 | none=>rw[hf] at this;exact this
 | some xs=>
  rw[hf] at this;obtain⟨u,hu,cs,⟨q1,q2⟩,q3,q4⟩:=this;refine⟨u,hu,cs,⟨q1,?_⟩,q3.keep hS hk,λc hc=>⟨(hn c hc).1,λe=>(hn c hc).2 (vJ k u c hx hu e.symm)⟩⟩;rcases q2 with q2|⟨g',cap,cur,rfl,r3,r4,r5⟩
  ·exact .inl q2
  ·exact .inr ⟨g',cap,cur,rfl,r3,(hb g' (vJ k _ g' hx hu rfl)).trans r4,r5⟩
theorem OR.same {x:ah} {v:Value} (h:OR bs w S x v) (hb:∀b,Bk x v b->w'.heap[b]?=w.heap[b]?) (_:w.heap.size<=w'.heap.size) (hk:aw S w w') (hS:∀b,S b->S' b) (hn:∀b,S' b->b<w'.heap.size/\¬Bk x v b) (EB:iC bs aU):OR aU w' S' x v:=by
 cases x with
 | cells ty cs=>
  obtain⟨g,vs,rfl,h1,h2⟩:=h;exact⟨g,vs,rfl,(hb g rfl).trans h1,h2.mono λ_ _ h=>h.keep hS hk EB⟩
 | row t e rs=>
  obtain⟨cs,⟨q1,q2⟩,h2,h3⟩:=h;refine⟨cs,⟨q1,?_⟩,h2.keep hS hk,λb lN=>⟨(hn b lN).1,λe=>(hn b lN).2 e.symm⟩⟩;rcases q2 with q2|⟨g,cap,cur,rfl,q3,q4,q5⟩
  ·exact .inl q2
  ·exact .inr ⟨g,cap,cur,rfl,q3,(hb g rfl).trans q4,q5⟩
 | zc e t tn gw done rest=>
  obtain⟨bq,⟨cs,⟨q1,q2⟩,h2,h3⟩,hz⟩:=h;refine⟨bq,⟨cs,⟨q1,?_⟩,h2.keep hS hk,λb lN=>⟨(hn b lN).1,λe=>(hn b lN).2 e.symm⟩⟩,hz.keep hS hk⟩;rcases q2 with q2|⟨g,cap,cur,rfl,q3,q4,q5⟩
  ·exact .inl q2
  ·exact .inr ⟨g,cap,cur,rfl,q3,(hb g rfl).trans q4,q5⟩
 | zip o2 e t tn gw done cur rest=>
  obtain⟨bq,⟨cs,⟨q1,q2⟩,h2,h3⟩,hz,hl,u,qD,pY,hu3⟩:=h;refine⟨bq,⟨cs,⟨q1,?_⟩,h2.keep hS hk,λb lN=>⟨(hn b lN).1,λe=>(hn b lN).2 e.symm⟩⟩,hz.keep hS hk EB,hl,u,EB _ _ qD pY,pY,hu3⟩;rcases q2 with q2|⟨g,cap,cur,rfl,q3,q4,q5⟩
  ·exact .inl q2
  ·exact .inr ⟨g,cap,cur,rfl,q3,(hb g rfl).trans q4,q5⟩
 | dead=>exact trivial
 | mp kt t n f=>obtain⟨b',g,rfl,h1,h2⟩:=h;exact⟨b',g,rfl,h1.same (hb b' rfl),λk=>(h2 k).keep hS hk⟩
 | mq q=>exact h
 | mr p kt t e n f=>exact sJ.same h hb hk hS hn EB
 | mx p kt t e n f k=>exact sJ.same h hb hk hS hn EB
end
inductive Sh (n:Nat):ah->ah->Prop where
 | row {t:Ty} {e:TypeId} {rs:List (El t)}:Sh n (.row t e rs) (.row t e rs)
 | cells {ty:TypeId} {cs gP:List AV}:(∀(bs aU:List Value) (w:World) (S:Nat->Prop) (vs:List Value),bs.length=n->F2 (VR aU w S) cs vs->F2 (VR (bs++aU) w S) gP vs)->Sh n (.cells ty cs) (.cells ty gP)
 | dead:Sh n .dead .dead
 | zc {e:TypeId} {t tn:Ty} {gw:Nat} {done:List (El t)} {rest:List (El tn)}:Sh n (.zc e t tn gw done rest) (.zc e t tn gw done rest)
 | zip {o o':Nat} {e:TypeId} {t tn:Ty} {gw:Nat} {done:List (El t)} {cur adB:List AV} {rest:List (El tn)}:Sh n (.zip o e t tn gw done cur rest) (.zip o' e t tn gw done adB rest)
 | mp {kt:Kt} {t:Ty} {m:Nat} {f:kt.K->Option (El t)}:Sh n (.mp kt t m f) (.mp kt t m f)
 | mq {q q':Nat}:Sh n (.mq q) (.mq q')
 | mr {p:Nat} {kt:Kt} {t:Ty} {e:TypeId} {m:Nat} {f:kt.K->Option (List (El t))}:Sh n (.mr p kt t e m f) (.mr (n+p) kt t e m f)
theorem Sh.solid {n:Nat} {y0 y:ah} (h:Sh n y0 y) (hs:y.solid=true):(∀u b,Bk y u b->Bk y0 u b)/\∀(bs aU:List Value) (w:World) (S:Nat->Prop) (u:Value),bs.length=n->OR aU w S y0 u->OR (bs++aU) w S y u:=by
 cases h with
 | row=>exact⟨λ_ _ h=>h,λ_ _ _ _ _ _ h=>h⟩
 | zc=>exact⟨λ_ _ h=>h,λ_ _ _ _ _ _ h=>h⟩
 | mp=>exact⟨λ_ _ h=>h,λ_ _ _ _ _ _ h=>h⟩
 | mq=>exact⟨λ_ _ h=>h,λ_ _ _ _ _ _ h=>h⟩
 | mr=>
  refine⟨λ_ _ h=>h,λbs aU w S u hl ⟨b,l,g,e,h1,r⟩=>⟨b,l,g,e,?_,r⟩⟩;rw[<-hl,aaf (by omega),aaB];exact h1
 | _=>cases hs
section
variable {n:Nat}
theorem Wm {bs aU:List Value} {w:World} {S:Nat->Prop} {t:Ty} {x:El t} {v:Value} (h:VR bs w S (one t x) v):VR aU w S (one t x) v:=by
 cases t<;>exact h
theorem F7 {s:ZS} {x:ZV s} {k j:Nat}:(AU k s x).2.length=(AU j s x).2.length:=by cases s<;>rfl
theorem AT:∀{l:List ZS} {x:zy l} {k j:Nat},(qu k l x).2.length=(qu j l x).2.length
 | [],_,_,_=>rfl
 | s::l,x,k,j=>by
  show((AU k s x.1).2++_).length=((AU j s x.1).2++_).length;rw[aaj,aaj,F7 (k:=k) (j:=j),AT (l:=l)]
theorem F6:∀{l:List ZS} {x:zy l} {k:Nat},F2 (Sh n) (qu k l x).2 (qu (n+k) l x).2
 | [],_,_=>.nil
 | s::l,x,k=>by
  have h1:F2 (Sh n) (AU k s x.1).2 (AU (n+k) s x.1).2:=by
   cases s with
   | d t=>exact .nil
   | own t e=>exact .cons .row .nil
   | any=>exact .cons .dead .nil
  have h3:=F6 (l:=l) (x:=x.2) (k:=k+(AU k s x.1).2.length);have e:n+(k+(AU k s x.1).2.length)=n+k+(AU (n+k) s x.1).2.length:=by rw[F7 (k:=k) (j:=n+k)];omega
  rw[e] at h3;exact h1.append h3
theorem Mr {s:CS} {x:CV s} {k:Nat}:F2 (Sh n) (rU k s x).2 (rU (n+k) s x).2/\∀(bs aU:List Value) (w:World) (S:Nat->Prop) (v:Value),bs.length=n->VR aU w S (rU k s x).1 v->VR (bs++aU) w S (rU (n+k) s x).1 v:=by
 cases s with
 | d t=>exact⟨.nil,λbs aU w S v _ h=>Wm h⟩
 | own t e=>
  refine⟨.cons .row .nil,λbs aU w S v hl h=>⟨?_,h.2⟩⟩;rw[<-hl,aaf (by omega),aaB];exact h.1
 | any=>
  refine⟨.cons .dead .nil,λbs aU w S v hl h=>⟨?_,h.2⟩⟩;rw[<-hl,aaf (by omega),aaB];exact h.1
 | zc t tn e=>
  refine⟨.cons .zc .nil,λbs aU w S v hl h=>⟨?_,h.2⟩⟩;rw[<-hl,aaf (by omega),aaB];exact h.1
 | zip t tn e zs=>
  refine⟨.cons .zip (.cons .dead ?_),λbs aU w S v hl h=>⟨?_,h.2⟩⟩
  ·have:=F6 (n:=n) (l:=zs) (x:=x.2.2.1) (k:=k+2)
   rwa [<-ab5] at this
  ·rw[<-hl,aaf (by omega),aaB];exact h.1
 | mp kt t=>
  refine⟨.cons .mp .nil,λbs aU w S v hl h=>⟨?_,h.2⟩⟩;rw[<-hl,aaf (by omega),aaB];exact h.1
 | mr kt t e=>
  refine⟨.cons .mq (.cons .mr .nil),λbs aU w S v hl h=>⟨?_,h.2⟩⟩;rw[<-hl,aaf (by omega),aaB];exact h.1
theorem Rf {s:CS} {x:CV s} {k j:Nat}:(rU k s x).2.length=(rU j s x).2.length:=by
 cases s with
 | zip t tn e zs=>
  show(qu (k+2) zs x.2.2.1).2.length+1+1=(qu (j+2) zs x.2.2.1).2.length+1+1;rw[AT]
 | _=>rfl
theorem F9:∀{l:List CS} {x:dZ l} {k:Nat},F2 (Sh n) (qx k l x).2 (qx (n+k) l x).2/\∀(bs aU:List Value) (w:World) (S:Nat->Prop) (vs:List Value),bs.length=n->F2 (VR aU w S) (qx k l x).1 vs->F2 (VR (bs++aU) w S) (qx (n+k) l x).1 vs
 | [],_,_=>⟨.nil,λ_ _ _ _ _ _ h=>by cases h;exact .nil⟩
 | s::l,x,k=>by
  obtain⟨h1,h2⟩:=Mr (n:=n) (s:=s) (x:=x.1) (k:=k);obtain⟨h3,h4⟩:=F9 (l:=l) (x:=x.2) (k:=k+(rU k s x.1).2.length);have e:n+(k+(rU k s x.1).2.length)=n+k+(rU (n+k) s x.1).2.length:=by rw[Rf (k:=k) (j:=n+k)];omega
  rw[e] at h3 h4;refine⟨h1.append h3,λbs aU w S vs hl h=>?_⟩;cases h with
  | cons q1 q2=>exact .cons (h2 bs aU w S _ hl q1) (h4 bs aU w S _ hl q2)
theorem Wz {s:SS} {x:SW s} {k:Nat}:F2 (Sh n) (vG k s x).2 (vG (n+k) s x).2:=by
 cases s with
 | c s=>exact(Mr (n:=n) (s:=s) (x:=x) (k:=k)).1
 | st q=>exact .nil
 | fn k=>exact .nil
 | rf k=>exact .nil
 | cl k t=>exact .nil
 | sb o o2=>exact .nil
 | box ty cs=>
  obtain⟨h3,h4⟩:=F9 (n:=n) (l:=cs) (x:=x) (k:=k+1);exact .cons (.cells h4) h3
theorem Mq:∀{l:List (Nat×SS)} {x:bM l} {k:Nat},F2 (Sh n) (qw k l x).2 (qw (n+k) l x).2
 | [],_,_=>.nil
 | p::l,x,k=>by
  have h1:=Wz (n:=n) (s:=p.2) (x:=x.1) (k:=k);have h2:=Mq (l:=l) (x:=x.2) (k:=k+(vG k p.2 x.1).2.length);have e:n+(k+(vG k p.2 x.1).2.length)=n+k+(vG (n+k) p.2 x.1).2.length:=by rw[h1.length];omega
  rw[e] at h2;exact h1.append h2
end
def G4 (ys:List ah):List Nat:=(List.range ys.length).filter λi=>match ys[i]? with
 | some (.cells _ _)=>true
 | _=>false
def GV (ids:List (Option Nat)):Bool:=Bo [] ids
def YJ {P:Program} (E:Em P) (_:Env) (H:List ah) (xs:Option (List XV)):T (XV×List ah):=match xs with
 | some xs=>match AH H (pc 0 xs) E.l0 with
  | some (x,ids)=>if Oh P E.f&&GV ids&&xs.length==E.l0.length&&G4 (cH E.l0 x).heap==E.pb then (E.F x).bind λq=>if q.1.free&&G4 (qw H.length E.lr q.2).2==E.pb&&(qw H.length E.lr q.2).2.length==ids.length then .lf (q.1,Oy ids H (qw H.length E.lr q.2).2) else .bad
   else .bad
  | none=>.bad
 | none=>.bad
section
variable {P:Program} {o:Oper} {cx:Cx} {bs:List Value} {w:World} {S:Nat->Prop} {H:List ah} {m:Nat} {env:Env} {a:Act} {K:Act->World->Prop} {Q:Exit->Act->World->Prop}
theorem xP {ys:List ah} {i:Nat}:i∈G4 ys↔∃ty cs,ys[i]?=some (.cells ty cs):=by
 unfold G4;rw[adv,aaI];constructor
 ·rintro⟨_,h⟩;split at h
  ·rename_i ty cs e;exact⟨ty,cs,e⟩
  ·cases h
 ·rintro⟨ty,cs,e⟩;exact⟨(aab.1 e).1,by rw[e]⟩
theorem BL {ids:List (Option Nat)} (h:GV ids=true) {i j p:Nat} (hi:ids[i]?=some (some p)) (hj:ids[j]?=some (some p)):i=j:=by
 unfold GV Bo at h;rw[aal] at h;have h:=h.1;have Ko:=(aab.1 hi).1;have XI:=(aab.1 hj).1;rcases Nat.lt_trichotomy i j with hlt|e|hlt
 ·have:=aau.1 (aau.1 h j (aaI.2 XI)) i (aaI.2 hlt);rw[hi,hj] at this;simp at this
 ·exact e
 ·have:=aau.1 (aau.1 h i (aaI.2 Ko)) j (aaI.2 hlt);rw[hi,hj] at this;simp at this
theorem SQ (hs:HS cx bs w S H) (he:ER m bs w S env a) {E:Em P} {args:Array Operand} {ts:Array TypeId} (hop:o.op=.call { callee:=.value (.func E.f),args:=args,argTypes:=ts }) {r:XV×List ah} (h:(YJ E env H (i9 env args.toList)).hit r) (hK:∀v w' aU S',HS cx aU w' S' r.2->(∀b,S b->S' b)->aw S w w'->iC bs aU->XR aU w' S' r.1 v->K (a.put o.dst v) w'):o.wp P a w K Q:=by
 unfold YJ at h;split at h
 ·rename_i xs Ng;split at h
  ·rename_i x ids PT;split at h
   ·rename_i hc;simp only[aal,beq_iff_eq] at hc;obtain⟨⟨⟨XP,kF⟩,bm⟩,lQ⟩:=hc;obtain⟨q,h1,h2⟩:=T.hit_bind h;split at h2
    ·rename_i hc2;simp only[aal,beq_iff_eq] at hc2;obtain⟨⟨uB,ahI⟩,Bp⟩:=hc2;obtain⟨r0,z⟩:=q;have h2:(r0,_)=r:=h2;subst h2;have ha:=iO he Ng;have UQ:ER xs.length bs w S (pc 0 xs) ⟨(args.toList.map a.eval).toArray,[]⟩:=by
      refine⟨rfl,by show(args.toList.map a.eval).toArray.size=_;rw[aa5,ha.length],su ha λj v hj=>?_⟩;rw[aa6];simpa using hj
     obtain⟨PT,PS⟩:=FQ PT;obtain⟨us,re,kk⟩:=yq hs UQ PT 0;obtain⟨k1,k2⟩:=kk us (λj u hj=>by rw[aa6];exact hj) (PS _ _);have rl:=re.len
     let M:Nat->Prop:=λb=>∃(k:Nat) (y:ah) (u:Value),(cH E.l0 x).heap[k]?=some y/\us[k]?=some u/\Bk y u b
     have hM:∀b,M b->∃(k p:Nat) (y:ah) (u:Value),ids[k]?=some (some p)/\H[p]?=some y/\bs[p]?=some u/\us[k]?=some u/\Bk y u b:=by
      rintro b ⟨k,y,u,g1,g2,g3⟩;rcases re.get k y u g1 g2 with⟨p,x1,q1,q2,q3,q4⟩|⟨_,q⟩
      ·exact⟨k,p,x1,u,q1,q2,q3,g2,zt q4 g3⟩
      ·exact absurd g3 (q b)
     have hMS:∀b,M b->¬S b:=λb hb=>by
      obtain⟨k,p,y,u,_,g2,g3,_,g5⟩:=hM b hb;exact(hs.nw p y u b g2 g3 g5).2
     have hM0:∀b,M b->cx.w0.heap.size<=b\/cx.M b:=λb hb=>by
      obtain⟨k,p,y,u,_,g2,g3,_,g5⟩:=hM b hb;exact(hs.nw p y u b g2 g3 g5).1
     let cx':Cx:=⟨w,S,M,us,E.pb,λw2 h1 h2 h3 h4 h5=>cx.wk w2 (aao hs.size h1) (h2.trans hs.os) (h3.trans hs.tape) (h4.trans hs.output) λb hb hm=>(h5 b (aay hb hs.size) λq=>(hM0 b q).elim (λq=>by omega) hm).trans (hs.old b hb hm)⟩
     have hsc:HS cx' us w S (cH E.l0 x).heap:=by
      refine⟨rl.2,λi y v hy hv=>k2 i y v hy hv,?_,?_,λb q=>⟨(hs.s b q).1,.inl q⟩,λ_ h=>h,rfl,rfl,rfl,aam _,λ_ _ _=>rfl,λ_ _ _ h _=>h⟩
      ·intro i j y y2 u v b vI hy hu hz hv bS bH;rcases re.get i y u hy hu with⟨p,x1,q1,q2,q3,q4⟩|⟨_,q⟩
       ·rcases re.get j y2 v hz hv with⟨p',x2,q5,q6,q7,q8⟩|⟨_,q⟩
        ·exact hs.ap p p' x1 x2 u v b (λep=>vI (BL kF q1 (ep▸q5))) q2 q3 q6 q7 (zt q4 bS) (zt q8 bH)
        ·exact absurd bH (q b)
       ·exact absurd bS (q b)
      ·intro i y u b hy hu hb;exact⟨.inr ⟨i,y,u,hy,hu,hb⟩,hMS b ⟨i,y,u,hy,hu,hb⟩⟩
     have NM:∀i y,(i,y)∈(cH E.l0 x).env->∃v,(args.toList.map a.eval)[i]?=some v/\XR us w S y v:=λi y hy=>by
      obtain⟨v,q1,q2⟩:=k1 i y hy;exact⟨v,by simpa using q1,q2⟩
     have bw:=E.ok cx' us S _ x r0 z rfl (λ_ h=>h) hsc NM (by rw[<-ha.length];exact bm) h1;unfold Oper.wp execOp;have hev:a.eval (.func E.f)=.func (.func E.f) #[] #[]:=rfl;have pg:(args.toList.map a.eval).toArray=args.map a.eval:=by rw[<-adH]
     simp only[hop,resolve,hev,Deferred.ofValue,Sem.run_bind,Sem.run_pure,Result.andThen_ok,invoke,Array.empty_append,Array.append_empty,k8 XP,Oper.upon_enter];rw[<-pg];refine bw.mono λe w' xw=>?_;obtain⟨v,aU,S',rfl,eY,hr⟩:=xw;have UZ:∀b,S b->S' b:=eY.s0;have hold:∀b,b<w.heap.size->¬M b->w'.heap[b]?=w.heap[b]?:=eY.old;have bC:aw S w w':=λp hp=>hold p (hs.s _ hp).1 λhm=>hMS _ hm hp;have PR:F2 (Sh H.length) (qw 0 E.lr z).2 (qw H.length E.lr z).2:=by
      have:=Mq (n:=H.length) (l:=E.lr) (x:=z) (k:=0)
      rwa [adX] at this
     have vJ:aU.length=(qw H.length E.lr z).2.length:=by rw[<-PR.length];exact eY.len
     have uF:iC bs (bs++aU):=λi u hu _=>by rw[aai (aab.1 hu).1];exact hu
     have N3:∀{k:Nat} {ty:TypeId} {cs:List AV} {i:Nat},ids[k]?=some (some i)->(qw H.length E.lr z).2[k]?=some (.cells ty cs)->∃uT g,(cH E.lr z).heap[k]?=some (.cells ty uT)/\aU[k]?=some (.pointer (some ⟨g,0,none⟩))/\bs[i]?=some (.pointer (some ⟨g,0,none⟩))/\(∃PE c0,H[i]?=some (.cells PE c0))/\OR (bs++aU) w' S' (.cells ty cs) (.pointer (some ⟨g,0,none⟩)):=by
      intro k ty cs i hk hy;have UJ:k∈E.pb:=by rw[<-ahI];exact xP.2 ⟨ty,cs,hy⟩
      have ux:=UJ;rw[<-lQ] at ux;obtain⟨ty1,cs1,bS⟩:=xP.1 ux;have Ny:k<us.length:=by rw[rl.2];exact(aab.1 bS).1
      obtain⟨g,vs1,hu,_⟩:=k2 k _ _ bS (aaa Ny);have ZZ:us[k]?=some (.pointer (some ⟨g,0,none⟩)):=by rw[aaa Ny,hu]
      have bH:=eY.an k _ UJ ZZ rfl;obtain⟨uT,ac7,aht⟩:∃uT,(qw 0 E.lr z).2[k]?=some (.cells ty uT)/\Sh H.length (.cells ty uT) (.cells ty cs):=by
       have Nx:k<(qw 0 E.lr z).2.length:=by rw[PR.length];exact(aab.1 hy).1
       obtain⟨y',Kj,hq⟩:=PR.get (aaa Nx);rw[hy] at Kj;obtain rfl:=aad Kj;cases PN:(qw 0 E.lr z).2[k] with
       | cells nU gP=>rw[PN] at hq;cases hq with|cells hq=>exact⟨gP,by rw[aaa Nx,PN],.cells hq⟩
       | row t e rs=>rw[PN] at hq;cases hq
       | zc e t tn gw done rest=>rw[PN] at hq;cases hq
       | zip o2 e t tn gw done cur rest=>rw[PN] at hq;cases hq
       | _=>rw[PN] at hq;cases hq
      obtain⟨g',vs,e2,gr,hf⟩:=eY.o k _ _ ac7 bH;rcases re.get k _ _ bS ZZ with⟨p,x1,q1,q2,q3,q4⟩|⟨q1,_⟩
      ·rw[hk] at q1;obtain rfl:=aad (aad q1);refine⟨uT,g,ac7,bH,q3,?_,g',vs,e2,gr,?_⟩
       ·cases x1 with
        | cells PE c0=>exact⟨PE,c0,q2⟩
        | row t e rs=>have:=hs.o i _ _ q2 q3;obtain⟨A,n,c,e,_⟩:=Own.slice (α:=El t) this;cases e
        | zc e t tn gw done rest=>obtain⟨bq,this,_⟩:=hs.o i _ _ q2 q3;obtain⟨A,n,c,e,_⟩:=Own.slice this;cases e
        | zip o2 e t tn gw done cur rest=>obtain⟨bq,this,_⟩:=hs.o i _ _ q2 q3;obtain⟨A,n,c,e,_⟩:=Own.slice this;cases e
        | dead=>exact absurd (q4 _ rfl) (λh=>by cases h)
        | mp kt t n f=>obtain⟨_,_,e,_⟩:=hs.o i _ _ q2 q3;cases e
        | mq q=>obtain⟨_,e⟩:=hs.o i _ _ q2 q3;cases e
        | mr p kt t e n f=>obtain⟨_,_,_,e,_⟩:=hs.o i _ _ q2 q3;cases e
        | mx p kt t e n f k=>obtain⟨_,_,_,e,_⟩:=hs.o i _ _ q2 q3;cases e
       ·cases aht with|cells hq=>exact hq bs aU w' S' vs hs.len hf
      ·rw[hk] at q1;cases q1
     have nC:∀{i:Nat} {y:ah} {u:Value},(Oy ids H (qw H.length E.lr z).2)[i]?=some y->(bs++aU)[i]?=some u-> y=.dead\/(H[i]?=some y/\bs[i]?=some u/\some i∉ids)\/(∃(k g:Nat) (ty:TypeId) (cs:List AV) (uT:List AV) (PE:TypeId) (c0:List AV),y=.cells ty cs/\ids[k]?=some (some i)/\u=.pointer (some ⟨g,0,none⟩)/\bs[i]?=some u/\H[i]?=some (.cells PE c0)/\aU[k]?=some u/\(cH E.lr z).heap[k]?=some (.cells ty uT)/\OR (bs++aU) w' S' y u)\/ (∃(k:Nat) (y0:ah),y.solid=true/\i=H.length+k/\aU[k]?=some u/\(cH E.lr z).heap[k]?=some y0/\Sh H.length y0 y):=by
      intro i y u hy hu;have eX:(setB ids (qw H.length E.lr z).2 (uq ids H)).length=H.length:=by rw[fe,m5]
      unfold Oy at hy;by_cases hi:i<H.length
      ·rw[aai (by rw[eX];exact hi)] at hy;rw[aai (by rw[hs.len];exact hi)] at hu;rcases fH hy with hy|⟨k,ty,cs,rfl,g1,g2⟩
       ·rcases qA hy with hy|⟨hy,hn⟩
        ·exact .inl hy
        ·exact .inr (.inl ⟨hy,hu,hn⟩)
       ·obtain⟨uT,g,q1,q2,q3,⟨PE,c0,q4⟩,q5⟩:=N3 g1 g2;rw[hu] at q3;obtain rfl:=aad q3;exact .inr (.inr (.inl ⟨k,g,ty,cs,uT,PE,c0,rfl,g1,rfl,hu,q4,q2,q1,q5⟩))
      ·rw[aaf (by rw[eX];omega),eX] at hy;rw[aaf (by rw[hs.len];omega),hs.len] at hu;rcases wQ hy with hy|⟨hy,Sb⟩
       ·exact .inl hy
       ·have Nx:i-H.length<(qw 0 E.lr z).2.length:=by rw[PR.length];exact(aab.1 hy).1
        obtain⟨y',Kj,hq⟩:=PR.get (aaa Nx);rw[hy] at Kj;obtain rfl:=aad Kj;exact .inr (.inr (.inr ⟨i-H.length,_,Sb,by omega,hu,aaa Nx,hq⟩))
     have oy:∀{i:Nat} {y:ah} {u:Value} {b:Nat},H[i]?=some y->bs[i]?=some u->some i∉ids->Bk y u b->b<w.heap.size/\¬M b:=by
      intro i y u b g1 g2 g3 g4;refine⟨(hs.o i y u g1 g2).lt g4,λhm=>?_⟩;obtain⟨k,p,y',u',q1,q2,q3,_,q5⟩:=hM b hm;refine hs.ap i p y y' u u' b (λe=>?_) g1 g2 q2 q3 g4 q5;subst e;exact g3 (abL q1)
     have dG:HS cx (bs++aU) w' S' (Oy ids H (qw H.length E.lr z).2):=by
      refine⟨?_,?_,?_,?_,λb q=>?_,λb q=>UZ b (hs.s0 b q),eY.os.trans hs.os,eY.tape.trans hs.tape,eY.output.trans hs.output,aao hs.size eY.size,λb q1 q2=>?_,λi v p q r=>uF i _ (hs.an i v p q r) r⟩
      ·unfold Oy;rw[aaj,aaj,fe,m5,wP,hs.len,vJ]
      ·intro i y u hy hu;rcases nC hy hu with rfl|⟨g1,g2,g3⟩|⟨k,g,ty,cs,uT,PE,c0,_,_,_,_,_,_,_,g9⟩|⟨k,g0,gs,_,g3,g4,gq⟩
       ·exact trivial
       ·exact(hs.o i y u g1 g2).same (λb hb=>hold b (oy g1 g2 g3 hb).1 (oy g1 g2 g3 hb).2) eY.size bC UZ (λb q=>⟨(eY.s b q).1,λe=>by
         obtain⟨p1,_⟩:=oy g1 g2 g3 e;rcases(eY.s b q).2 with q|q|q
         ·exact(hs.nw i y u b g1 g2 e).2 q
         ·have:w.heap.size<=b:=q;omega
         ·exact(oy g1 g2 g3 e).2 q⟩) uF
       ·exact g9
       ·exact(gq.solid gs).2 bs aU w' S' u hs.len (eY.o k _ _ g4 g3)
      ·intro i j y y2 u v b vI hy hu hz hv bS bH;have aa8:∀{k:Nat} {y:ah} {u:Value},aU[k]?=some u->(cH E.lr z).heap[k]?=some y->Bk y u b->(w.heap.size<=b\/M b):=λg1 g2 g3=>(eY.nw _ _ _ b g2 g1 g3).1;rcases nC hy hu with rfl|⟨g1,g2,g3⟩|⟨k,g,ty,cs,uT,PE,c0,rfl,g2,rfl,g4,g5,g6,g7,_⟩|⟨k,g0,gs,g2,g3,g4,gq⟩
       ·cases bS
       ·rcases nC hz hv with rfl|⟨p1,p2,p3⟩|⟨k',g',nU,gP,adD,aaL,c0',rfl,p2,rfl,p4,p5,p6,p7,_⟩|⟨k',p0,ps,p2,p3,p4,pq⟩
        ·cases bH
        ·exact hs.ap i j y y2 u v b vI g1 g2 p1 p2 bS bH
        ·exact hs.ap i j y _ u _ b vI g1 g2 p5 p4 bS bH
        ·obtain⟨q1,q2⟩:=oy g1 g2 g3 bS;rcases aa8 p3 p4 ((pq.solid ps).1 _ _ bH) with q|q
         ·omega
         ·exact q2 q
       ·rcases nC hz hv with rfl|⟨p1,p2,p3⟩|⟨k',g',nU,gP,adD,aaL,c0',rfl,p2,rfl,p4,p5,p6,p7,_⟩|⟨k',p0,ps,p2,p3,p4,pq⟩
        ·cases bH
        ·exact hs.ap i j _ y2 _ v b vI g5 g4 p1 p2 bS bH
        ·exact hs.ap i j _ _ _ _ b vI g5 g4 p5 p4 bS bH
        ·have uy:k≠k':=λe=>by subst e;rw[g7] at p4;obtain rfl:=aad p4;cases pq;cases ps
         exact eY.ap k k' _ _ _ _ b uy g7 g6 p4 p3 bS ((pq.solid ps).1 _ _ bH)
       ·rcases nC hz hv with rfl|⟨p1,p2,p3⟩|⟨k',g',nU,gP,adD,aaL,c0',rfl,p2,rfl,p4,p5,p6,p7,_⟩|⟨k',p0,ps,p2,p3,p4,pq⟩
        ·cases bH
        ·obtain⟨q1,q2⟩:=oy p1 p2 p3 bH;rcases aa8 g3 g4 ((gq.solid gs).1 _ _ bS) with q|q
         ·omega
         ·exact q2 q
        ·have uy:k≠k':=λe=>by subst e;rw[p7] at g4;obtain rfl:=aad g4;cases gq;cases gs
         exact eY.ap k k' _ _ _ _ b uy g4 g3 p7 p6 ((gq.solid gs).1 _ _ bS) bH
        ·exact eY.ap k k' _ _ _ _ b (λe=>vI (by omega)) g4 g3 p4 p3 ((gq.solid gs).1 _ _ bS) ((pq.solid ps).1 _ _ bH)
      ·intro i y u b hy hu hb;have adq:M b->cx.w0.heap.size<=b\/cx.M b:=λhm=>by
        obtain⟨k,p,y',u',_,q2,q3,_,q5⟩:=hM b hm;exact(hs.nw p y' u' b q2 q3 q5).1
       rcases nC hy hu with rfl|⟨g1,g2,g3⟩|⟨k,g,ty,cs,uT,PE,c0,rfl,g2,rfl,g4,g5,g6,g7,_⟩|⟨k,g0,gs,g2,g3,g4,gq⟩
       ·cases hb
       ·refine⟨(hs.nw i y u b g1 g2 hb).1,λq=>?_⟩;obtain⟨p1,_⟩:=oy g1 g2 g3 hb;rcases(eY.s b q).2 with q|q|q
        ·exact(hs.nw i y u b g1 g2 hb).2 q
        ·have:w.heap.size<=b:=q;omega
        ·exact(oy g1 g2 g3 hb).2 q
       ·exact⟨(hs.nw i _ _ b g5 g4 hb).1,(eY.nw k _ _ b g7 g6 hb).2⟩
       ·obtain⟨q1,q2⟩:=eY.nw k _ _ b g4 g3 ((gq.solid gs).1 _ _ hb);refine⟨?_,q2⟩;rcases q1 with q1|q1
        ·exact .inl (aao hs.size q1)
        ·exact adq q1
      ·obtain⟨q1,q2⟩:=eY.s b q;refine⟨q1,?_⟩;rcases q2 with q2|q2|⟨k,y,u,p1,p2,p3⟩
       ·exact(hs.s b q2).2
       ·exact .inr (.inl (aao hs.size q2))
       ·obtain⟨_,p,y',u',_,p4,p5,_,p6⟩:=hM b ⟨k,y,u,p1,p2,p3⟩;exact .inr (hs.nw p y' u' b p4 p5 p6).1
      ·refine(hold b (aay q1 hs.size) λhm=>?_).trans (hs.old b q1 q2);obtain⟨k,p,y',u',_,g2,g3,_,g5⟩:=hM b hm;rcases(hs.nw p y' u' b g2 g3 g5).1 with g|g
       ·omega
       ·exact q2 g
     exact hK v w' (bs++aU) S' dG UZ bC uF (XR.free uB hr)
    ·exact h2.elim
   ·exact h.elim
  ·exact h.elim
 ·exact h.elim
end
def Un (ys:List ah):Bool:=ys.all λ
 | .cells _ _=>true
 | .dead=>true
 | _=>false
def We (ys:List ah):List Nat:=(List.range ys.length).filter λi=>match ys[i]? with
 | some (.row _ _ _)=>false
 | some _=>true
 | _=>false
def Gw:AV->Option Nat
 | .any j=>some j
 | _=>none
def Cs (pb:List Nat):List AV->List AV->Bool
 | [],[]=>true
 | a::l,b::m=>(match Gw b with
  | some j=>Gw a==some j&&pb.contains j
  | none=>b.free)&&Cs pb l m
 | _,_=>false
def mrg:List AV->List AV->List AV
 | a::l,b::m=>(match Gw b with
  | some _=>a
  | none=>b)::mrg l m
 | _,_=>[]
def setL (pb:List Nat) (H:List ah):List (Option Nat)->List ah->List ah->Option (List (Nat×ah))
 | [],[],[]=>some []
 | i::ids,x::xs,y::ys=>match x,y with
  | .dead,.dead=>setL pb H ids xs ys
  | .cells ty cs,.cells nU gP=>match i.bind (H[·]?),i with
   | some (.cells _ c0),some o=>if nU=ty/\Cs pb cs gP=true then(setL pb H ids xs ys).map λl=>(o,.cells ty (mrg c0 gP))::l else none
   | _,_=>none
  | _,_=>none
 | _,_,_=>none
def Mb:CS->Bool
 | .d _=>true
 | .any=>true
 | _=>false
def abA (l:List (Nat×SS)):Bool:=l.all λp=>match p.2 with
 | .c s=>Mb s
 | .box _ cs=>cs.all Mb
 | .st _=>true
 | .fn _=>true
 | .rf _=>true
 | .cl _ _=>true
 | .sb _ _=>false
def EK {P:Program} (E:Em P) (_:Env) (H:List ah) (xs:Option (List XV)):T (XV×List (Nat×ah)):=match xs with
 | some xs=>match AH H (pc 0 xs) E.l0 with
  | some (x,ids)=>if Oh P E.f&&GV ids&&xs.length==E.l0.length&&We (cH E.l0 x).heap==E.pb&&Un (cH E.l0 x).heap then (E.F x).bind λq=>if q.1.free then T.op ((setL E.pb H ids (cH E.l0 x).heap (cH E.lr q.2).heap).map λl=>(q.1,l)) else .bad
   else .bad
  | none=>.bad
 | none=>.bad
section
variable {P:Program} {o:Oper} {cx:Cx} {bs:List Value} {w:World} {S:Nat->Prop} {H Hv:List ah} {m:Nat} {env:Env} {a:Act} {K:Act->World->Prop} {Q:Exit->Act->World->Prop}
theorem FP (hv:vi Hv H) {t:Ty} {e:TypeId} {b:AV} {r:List (El t)×List (Option Nat)} (h:V8 Hv t e b=some r):V8 H t e b=some r:=by
 unfold V8 at h ⊢;split at h
 ·split at h
  ·rename_i hH;rcases hv.2 _ _ hH with q|q
   ·cases q
   ·simp only[q];exact h
  ·cases h
 ·exact h
 ·cases h
theorem AF (hv:vi Hv H):∀{l:List ZS} {qs:List AV} {r:zy l×List (Option Nat)},AG Hv l qs=some r->AG H l qs=some r
 | [],[],_,h=>h
 | s::l,b::qs,r,h=>by
  have one:∀{x:ZV s×List (Option Nat)},rdZ Hv s b=some x->rdZ H s b=some x:=λ{x} h=>by
   cases s with
   | d t=>exact h
   | own t e=>exact FP hv h
   | any=>exact h
  unfold AG at h ⊢;cases e1:rdZ Hv s b with
  | none=>rw[e1] at h;cases h
  | some x=>
   cases e2:AG Hv l qs with
   | none=>rw[e1,e2] at h;cases h
   | some y=>
    rw[e1,e2] at h;rw[one e1,AF hv e2];exact h
 | [],_::_,_,h=>by cases h
 | _::_,[],_,h=>by cases h
theorem FV (hv:vi Hv H) {s:CS} {b:AV} {r:CV s×List (Option Nat)} (h:ZM Hv s b=some r):ZM H s b=some r:=by
 cases s with
 | d t=>exact h
 | own t e=>exact FP hv h
 | any=>exact h
 | zc t tn e=>
  have h:IF Hv t tn e b=some r:=h;show IF H t tn e b=some r;unfold IF at h ⊢;split at h
  ·split at h
   ·rename_i hH;rcases hv.2 _ _ hH with q|q
    ·cases q
    ·simp only[q];exact h
   ·cases h
  ·cases h
 | zip t tn e zs=>
  have h:wJ Hv t tn e zs b=some r:=h;show wJ H t tn e zs b=some r;unfold wJ at h ⊢;split at h
  ·split at h
   ·rename_i hH;rcases hv.2 _ _ hH with q|q
    ·cases q
    ·simp only[q];split at h
     ·rename_i hp;simp only[*,AF hv hp];rfl
     ·cases h
   ·cases h
  ·cases h
 | mp kt t=>
  have h:IH Hv kt t b=some r:=h;show IH H kt t b=some r;unfold IH at h ⊢;split at h
  ·split at h
   ·rename_i hH;simp only[kW hv hH (λe=>by cases e)];exact h
   ·cases h
  ·cases h
 | mr kt t e=>
  have h:IG Hv kt t e b=some r:=h;show IG H kt t e b=some r;unfold IG at h ⊢;split at h
  ·split at h
   ·rename_i hH;simp only[kW hv hH (λe=>by cases e)];split at h
    ·rename_i hQ;simp only[kW hv hQ (λe=>by cases e)];exact h
    ·cases h
   ·cases h
  ·cases h
theorem AI (hv:vi Hv H):∀{l:List CS} {qs:List AV} {r:dZ l×List (Option Nat)},vV Hv l qs=some r->vV H l qs=some r
 | [],[],_,h=>h
 | s::l,b::qs,r,h=>by
  unfold vV at h ⊢;cases e1:ZM Hv s b with
  | none=>rw[e1] at h;cases h
  | some x=>
   cases e2:vV Hv l qs with
   | none=>rw[e1,e2] at h;cases h
   | some y=>
    rw[e1,e2] at h;rw[FV hv e1,AI hv e2];exact h
 | [],_::_,_,h=>by cases h
 | _::_,[],_,h=>by cases h
theorem QK (hv:vi Hv H) {s:SS} {b:XV} {r:SW s×List (Option Nat)} (h:QM Hv s b=some r):QM H s b=some r:=by
 cases s with
 | c s=>
  cases b with
  | one c=>exact FV hv (s:=s) (r:=r) h
  | _=>cases h
 | st k=>exact h
 | fn k=>exact h
 | rf k=>exact h
 | cl k t=>exact h
 | sb o o2=>exact h
 | box ty cs=>
  have h:ZN Hv ty cs b=some r:=h;show ZN H ty cs b=some r;unfold ZN at h ⊢;split at h
  ·split at h
   ·rename_i hH;rcases hv.2 _ _ hH with q|q
    ·cases q
    ·simp only[q];split at h
     ·rename_i e;rw[if_pos e];cases e2:vV Hv cs _ with
      | none=>rw[e2] at h;cases h
      | some y=>rw[e2] at h;rw[AI hv e2];exact h
     ·cases h
   ·cases h
  ·cases h
theorem FS (hv:vi Hv H):∀{l:List (Nat×SS)} {r:bM l×List (Option Nat)},FT Hv env l=some r->FT H env l=some r
 | [],_,h=>h
 | p::l,r,h=>by
  unfold FT at h ⊢;cases e1:env.lookup p.1 with
  | none=>rw[e1] at h;cases h
  | some b=>
   rw[e1] at h;cases e2:QM Hv p.2 b with
   | none=>
    have h:(match QM Hv p.2 b,FT Hv env l with|some x,some y=>some (((x.1,y.1),x.2++y.2):bM (p::l)×List (Option Nat))|_,_=>none)=some r:=h;rw[e2] at h;cases h
   | some x=>
    have h:(match QM Hv p.2 b,FT Hv env l with|some x,some y=>some (((x.1,y.1),x.2++y.2):bM (p::l)×List (Option Nat))|_,_=>none)=some r:=h;show(match QM H p.2 b,FT H env l with|some x,some y=>some (((x.1,y.1),x.2++y.2):bM (p::l)×List (Option Nat))|_,_=>none)=some r;cases e3:FT Hv env l with
    | none=>rw[e2,e3] at h;cases h
    | some y=>
     rw[e2,e3] at h;rw[QK hv e2,FS hv e3];exact h
theorem tu (hv:vi Hv H) {pb:List Nat}:∀{ids:List (Option Nat)} {xs ys:List ah} {l:List (Nat×ah)},setL pb Hv ids xs ys=some l->setL pb H ids xs ys=some l
 | [],[],[],_,h=>h
 | i::ids,x::xs,y::ys,l,h=>by
  unfold setL at h ⊢;split at h
  ·exact tu hv h
  ·rename_i ty cs nU gP;split at h
   ·rename_i t0 c0 o hi;have GF:H[o]?=some (.cells t0 c0):=by
     rcases hv.2 o _ hi with q|q
     ·cases q
     ·exact q
    have:((some o:Option Nat).bind λx=>H[x]?)=some (.cells t0 c0):=GF;simp only[this];split at h
    ·rename_i hc;rw[if_pos hc];cases e:setL pb Hv ids xs ys with
     | none=>rw[e] at h;cases h
     | some q=>rw[e] at h;rw[tu hv e];exact h
    ·cases h
   ·cases h
  ·cases h
 | [],[],_::_,_,h=>by cases h
 | [],_::_,_,_,h=>by cases h
 | _::_,[],_,_,h=>by cases h
 | _::_,_::_,[],_,h=>by cases h
theorem LO (hv:vi Hv H) {l:List (Nat×SS)} {r:bM l×List (Option Nat)} (h:AH Hv env l=some r):AH H env l=some r:=by
 unfold AH at h ⊢;split at h
 ·rename_i hl;rw[if_pos hl];exact FS hv h
 ·cases h
theorem Oz (hv:vi Hv H) {E:Em P} {xs:Option (List XV)} {r:XV×List (Nat×ah)} (h:(EK E env Hv xs).hit r):(EK E env H xs).hit r:=by
 unfold EK at h ⊢;cases xs with
 | none=>exact h.elim
 | some xs=>
  simp only at h ⊢;cases e:AH Hv (pc 0 xs) E.l0 with
  | none=>rw[e] at h;exact h.elim
  | some p=>
   rw[e] at h;rw[LO hv e];obtain⟨x,ids⟩:=p;simp only at h ⊢;split at h
   ·rename_i hc;rw[if_pos hc];have key:∀{t:T (XV×bM E.lr)},(t.bind λq=>if q.1.free then T.op ((setL E.pb Hv ids (cH E.l0 x).heap (cH E.lr q.2).heap).map λl=>(q.1,l)) else .bad).hit r->(t.bind λq=>if q.1.free then T.op ((setL E.pb H ids (cH E.l0 x).heap (cH E.lr q.2).heap).map λl=>(q.1,l)) else .bad).hit r:=by
     intro t;induction t with
     | lf q=>
      intro h;have h:(if q.1.free then T.op ((setL E.pb Hv ids (cH E.l0 x).heap (cH E.lr q.2).heap).map λl=>(q.1,l)) else .bad).hit r:=h;show(if q.1.free then T.op ((setL E.pb H ids (cH E.l0 x).heap (cH E.lr q.2).heap).map λl=>(q.1,l)) else .bad).hit r;split at h
      ·rename_i hf;rw[if_pos hf];cases e2:setL E.pb Hv ids (cH E.l0 x).heap (cH E.lr q.2).heap with
       | none=>rw[e2] at h;exact h.elim
       | some l=>rw[e2] at h;rw[tu hv e2];exact h
      ·exact h.elim
     | br b x y hx hy=>exact λh=>⟨λq=>hx (h.1 q),λq=>hy (h.2 q)⟩
     | nd p t ht=>exact λh=>⟨h.1,ht h.2⟩
     | bad=>exact λh=>h
    exact key h
   ·exact h.elim
theorem tv {pb:List Nat}:∀{ids:List (Option Nat)} {xs ys:List ah} {l:List (Nat×ah)},setL pb H ids xs ys=some l->ids.length=xs.length/\ids.length=ys.length/\(∀p∈l,∃(k:Nat) (ty t0:TypeId) (cs gP c0:List AV),ids[k]?=some (some p.1)/\xs[k]?=some (.cells ty cs)/\ys[k]?=some (.cells ty gP)/\H[p.1]?=some (.cells t0 c0)/\Cs pb cs gP=true/\p.2=.cells ty (mrg c0 gP))/\ ∀(k:Nat) (ty:TypeId) (cs:List AV),xs[k]?=some (.cells ty cs)->∃p∈l,ids[k]?=some (some p.1)
 | [],[],[],l,h=>by
  injection h with h
  subst h;exact⟨rfl,rfl,(λp hp=>by cases hp),λk ty cs hk=>by cases hk⟩
 | i::ids,x::xs,y::ys,l,h=>by
  unfold setL at h;split at h
  ·obtain⟨h1,h2,h3,h4⟩:=tv h;refine⟨by simp[h1],by simp[h2],λp hp=>?_,λk ty cs hk=>?_⟩
   ·obtain⟨k,ty,t0,cs,gP,c0,q1,q2,q3,q⟩:=h3 p hp;exact⟨k+1,ty,t0,cs,gP,c0,by simpa using q1,by simpa using q2,by simpa using q3,q⟩
   ·cases k with
    | zero=>cases hk
    | succ k=>
     obtain⟨p,hp,hq⟩:=h4 k ty cs (by simpa using hk);exact⟨p,hp,by simpa using hq⟩
  ·rename_i ty cs nU gP;split at h
   ·rename_i t0 c0 o hi;split at h
    ·rename_i hc;obtain⟨rfl,hc⟩:=hc;cases e:setL pb H ids xs ys with
     | none=>rw[e] at h;cases h
     | some q=>
      rw[e] at h;injection h with h
      subst h;obtain⟨h1,h2,h3,h4⟩:=tv e;have hi:H[o]?=some (.cells t0 c0):=hi;refine⟨by simp[h1],by simp[h2],λp hp=>?_,λk ty cs hk=>?_⟩
      ·rcases aas.1 hp with rfl|hp
       ·exact⟨0,nU,t0,cs,gP,c0,rfl,rfl,rfl,hi,hc,rfl⟩
       ·obtain⟨k,ty,t0,cs,gP,c0,q1,q2,q3,q⟩:=h3 p hp;exact⟨k+1,ty,t0,cs,gP,c0,by simpa using q1,by simpa using q2,by simpa using q3,q⟩
      ·cases k with
       | zero=>exact⟨_,aah,rfl⟩
       | succ k=>
        obtain⟨p,hp,hq⟩:=h4 k ty cs (by simpa using hk);exact⟨p,aap _ hp,by simpa using hq⟩
    ·cases h
   ·cases h
  ·cases h
 | [],[],_::_,_,h=>by cases h
 | [],_::_,_,_,h=>by cases h
 | _::_,[],_,_,h=>by cases h
 | _::_,_::_,[],_,h=>by cases h
theorem Mm {bs aU us:List Value} {w w':World} {S S':Nat->Prop} {pb:List Nat} (hS:∀b,S b->S' b) (hk:aw S w w') (han:∀(i:Nat) (v:Value),i∈pb->us[i]?=some v->uu v=true->aU[i]?=some v) : ∀{c0 cs gP:List AV} {vs Qe:List Value},Cs pb cs gP=true->F2 (VR bs w S) c0 vs->F2 (VR us w S) cs vs->F2 (VR aU w' S') gP Qe->F2 (VR bs w' S') (mrg c0 gP) Qe
 | c0,[],[],vs,Qe,_,h1,h2,h3=>by
  cases h2;cases h1;cases h3;exact .nil
 | c0,x::cs,y::gP,vs,Qe,h,h1,h2,h3=>by
  cases h2 with
  | @cons _ v _ vs g1 g2=>
   cases h1 with
   | @cons z _ c0 _ f1 f2=>
    cases h3 with
    | @cons _ v' _ Qe k1 k2=>
     unfold Cs at h;rw[aal] at h;refine .cons ?_ (Mm hS hk han h.2 f2 g2 k2);have h:=h.1;cases e:Gw y with
     | some j=>
      rw[e] at h;simp only[aal,beq_iff_eq] at h;obtain⟨h0,hp⟩:=h;obtain rfl:y=.any j:=by cases y<;>first|(injection e with e;subst e;rfl)|cases e
      obtain rfl:x=.any j:=by cases x<;>first|(injection h0 with h0;subst h0;rfl)|cases h0
      have e1:=han j v (by simpa using hp) g1.1 (Hh g1.2);rw[k1.1] at e1;obtain rfl:=aad e1;exact f1.keep hS hk (iC.refl _)
     | none=>
      rw[e] at h;exact VR.free h k1
 | _,[],_::_,_,_,h,_,_,_=>by cases h
 | _,_::_,[],_,_,h,_,_,_=>by cases h
theorem LV {ys:List ah} (hn:Un ys=true) {i:Nat} (hi:i<ys.length):i∈We ys:=by
 unfold We;rw[adv,aaI];refine⟨hi,?_⟩;rw[aaa hi];have:=aau.1 hn _ (aaG hi);split
 ·rename_i e;injection e with e;rw[e] at this;cases this
 ·rfl
 ·rename_i h1 h2;exact(h2 _ rfl).elim
theorem Bg {i:Nat} {y:ah}:∀{l:List (Nat×ah)},eB l i=some y->(i,y)∈l
 | p::l,h=>by
  have h:(match eB l i with|some y=>some y|none=>if p.1=i then some p.2 else none)=some y:=h;cases e:eB l i with
  | some u=>rw[e] at h;obtain rfl:=aad h;exact aap _ (Bg e)
  | none=>
   rw[e] at h;simp only at h;split at h
   ·rename_i e2;have h:=aad h;rw[<-e2,<-h];exact aah
   ·cases h
theorem Bf {i:Nat}:∀{l:List (Nat×ah)},eB l i=none->∀p∈l,p.1≠i
 | q::l,h,p,hp=>by
  have h:(match eB l i with|some y=>some y|none=>if q.1=i then some q.2 else none)=none:=h;cases e:eB l i with
  | some u=>rw[e] at h;cases h
  | none=>
   rw[e] at h;simp only at h;split at h
   ·cases h
   ·rename_i eM;rcases aas.1 hp with rfl|hp
    ·exact eM
    ·exact Bf e p hp
theorem GR (hs:HS cx bs w S H) (he:ER m bs w S env a) {E:Em P} {args:Array Operand} {ts:Array TypeId} (hop:o.op=.call { callee:=.value (.func E.f),args:=args,argTypes:=ts }) {r:XV×List (Nat×ah)} (h:(EK E env H (i9 env args.toList)).hit r) (hK:∀v w' S',HS cx bs w' S' (ig r.2 H)->(∀b,S b->S' b)->aw S w w'->XR bs w' S' r.1 v->K (a.put o.dst v) w'):o.wp P a w K Q:=by
 unfold EK at h;split at h
 ·rename_i xs Ng;split at h
  ·rename_i x ids PT;split at h
   ·rename_i hc;simp only[aal,beq_iff_eq] at hc;obtain⟨⟨⟨⟨XP,kF⟩,bm⟩,lQ⟩,hnr⟩:=hc;obtain⟨q,h1,h2⟩:=T.hit_bind h;split at h2
    ·rename_i uB;obtain⟨r0,z⟩:=q;have h2:=T.hit_op h2;cases pf:setL E.pb H ids (cH E.l0 x).heap (cH E.lr z).heap with
     | none=>
      have h2:Option.map _ (setL E.pb H ids (cH E.l0 x).heap (cH E.lr z).heap)=some r:=h2;rw[pf] at h2;cases h2
     | some l=>
     have h2:Option.map _ (setL E.pb H ids (cH E.l0 x).heap (cH E.lr z).heap)=some r:=h2;rw[pf] at h2;have h2:(r0,l)=r:=aad h2;subst h2;have uB:r0.free=true:=uB;obtain⟨sl1,sl2,sl3,sl4⟩:=tv pf;have ha:=iO he Ng;have UQ:ER xs.length bs w S (pc 0 xs) ⟨(args.toList.map a.eval).toArray,[]⟩:=by
      refine⟨rfl,by show(args.toList.map a.eval).toArray.size=_;rw[aa5,ha.length],su ha λj v hj=>?_⟩;rw[aa6];simpa using hj
     obtain⟨PT,PS⟩:=FQ PT;obtain⟨us,re,kk⟩:=yq hs UQ PT 0;obtain⟨k1,k2⟩:=kk us (λj u hj=>by rw[aa6];exact hj) (PS _ _);have rl:=re.len
     let M:Nat->Prop:=λb=>∃(k:Nat) (y:ah) (u:Value),(cH E.l0 x).heap[k]?=some y/\us[k]?=some u/\Bk y u b
     have hM:∀b,M b->∃(k p:Nat) (y:ah) (u:Value),ids[k]?=some (some p)/\(∃ty cs,(cH E.l0 x).heap[k]?=some (.cells ty cs))/\H[p]?=some y/\bs[p]?=some u/\us[k]?=some u/\Bk y u b:=by
      rintro b ⟨k,y,u,g1,g2,g3⟩;have rY:∃ty cs,(cH E.l0 x).heap[k]?=some (.cells ty cs):=by
       have:=aau.1 hnr y (abL g1);cases y with
       | cells ty cs=>exact⟨ty,cs,g1⟩
       | dead=>cases g3
       | _=>cases this
      rcases re.get k y u g1 g2 with⟨p,x1,q1,q2,q3,q4⟩|⟨_,q⟩
      ·exact⟨k,p,x1,u,q1,rY,q2,q3,g2,zt q4 g3⟩
      ·exact absurd g3 (q b)
     have hMS:∀b,M b->¬S b:=λb hb=>by
      obtain⟨k,p,y,u,_,_,g2,g3,_,g5⟩:=hM b hb;exact(hs.nw p y u b g2 g3 g5).2
     have hM0:∀b,M b->cx.w0.heap.size<=b\/cx.M b:=λb hb=>by
      obtain⟨k,p,y,u,_,_,g2,g3,_,g5⟩:=hM b hb;exact(hs.nw p y u b g2 g3 g5).1
     let cx':Cx:=⟨w,S,M,us,E.pb,λw2 h1 h2 h3 h4 h5=>cx.wk w2 (aao hs.size h1) (h2.trans hs.os) (h3.trans hs.tape) (h4.trans hs.output) λb hb hm=>(h5 b (aay hb hs.size) λq=>(hM0 b q).elim (λq=>by omega) hm).trans (hs.old b hb hm)⟩
     have hsc:HS cx' us w S (cH E.l0 x).heap:=by
      refine⟨rl.2,λi y v hy hv=>k2 i y v hy hv,?_,?_,λb q=>⟨(hs.s b q).1,.inl q⟩,λ_ h=>h,rfl,rfl,rfl,aam _,λ_ _ _=>rfl,λ_ _ _ h _=>h⟩
      ·intro i j y y2 u v b vI hy hu hz hv bS bH;rcases re.get i y u hy hu with⟨p,x1,q1,q2,q3,q4⟩|⟨_,q⟩
       ·rcases re.get j y2 v hz hv with⟨p',x2,q5,q6,q7,q8⟩|⟨_,q⟩
        ·exact hs.ap p p' x1 x2 u v b (λep=>vI (BL kF q1 (ep▸q5))) q2 q3 q6 q7 (zt q4 bS) (zt q8 bH)
        ·exact absurd bH (q b)
       ·exact absurd bS (q b)
      ·intro i y u b hy hu hb;exact⟨.inr ⟨i,y,u,hy,hu,hb⟩,hMS b ⟨i,y,u,hy,hu,hb⟩⟩
     have NM:∀i y,(i,y)∈(cH E.l0 x).env->∃v,(args.toList.map a.eval)[i]?=some v/\XR us w S y v:=λi y hy=>by
      obtain⟨v,q1,q2⟩:=k1 i y hy;exact⟨v,by simpa using q1,q2⟩
     have bw:=E.ok cx' us S _ x r0 z rfl (λ_ h=>h) hsc NM (by rw[<-ha.length];exact bm) h1;unfold Oper.wp execOp;have hev:a.eval (.func E.f)=.func (.func E.f) #[] #[]:=rfl;have pg:(args.toList.map a.eval).toArray=args.map a.eval:=by rw[<-adH]
     simp only[hop,resolve,hev,Deferred.ofValue,Sem.run_bind,Sem.run_pure,Result.andThen_ok,invoke,Array.empty_append,Array.append_empty,k8 XP,Oper.upon_enter];rw[<-pg];refine bw.mono λe w' xw=>?_;obtain⟨v,aU,S',rfl,eY,hr⟩:=xw;have UZ:∀b,S b->S' b:=eY.s0;have hold:∀b,b<w.heap.size->¬M b->w'.heap[b]?=w.heap[b]?:=eY.old;have bC:aw S w w':=λp hp=>hold p (hs.s _ hp).1 λhm=>hMS _ hm hp;have han:∀(i:Nat) (v:Value),i∈E.pb->us[i]?=some v->uu v=true->aU[i]?=some v:=eY.an;have N3:∀{p:Nat×ah},p∈l->∃(k g:Nat) (ty t0:TypeId) (cs gP c0:List AV),ids[k]?=some (some p.1)/\p.2=.cells ty (mrg c0 gP)/\bs[p.1]?=some (.pointer (some ⟨g,0,none⟩))/\aU[k]?=some (.pointer (some ⟨g,0,none⟩))/\H[p.1]?=some (.cells t0 c0)/\(cH E.l0 x).heap[k]?=some (.cells ty cs)/\us[k]?=some (.pointer (some ⟨g,0,none⟩))/\(cH E.lr z).heap[k]?=some (.cells ty gP)/\OR bs w' S' p.2 (.pointer (some ⟨g,0,none⟩)):=by
      intro p hp;obtain⟨k,ty,t0,cs,gP,c0,g1,g2,g3,g4,g5,g6⟩:=sl3 p hp;have Ny:k<us.length:=by rw[rl.2];exact(aab.1 g2).1
      obtain⟨g,vs,hu,bS,Jo⟩:=k2 k _ _ g2 (aaa Ny);have ZZ:us[k]?=some (.pointer (some ⟨g,0,none⟩)):=by rw[aaa Ny,hu]
      have ux:k∈E.pb:=by rw[<-lQ];exact LV hnr (aab.1 g2).1
      have bH:=han k _ ux ZZ rfl;obtain⟨g',Qe,e2,jF,hf2⟩:=eY.o k _ _ g3 bH;injection e2 with e2
      injection e2 with e2
      injection e2 with e2
      subst e2;rcases re.get k _ _ g2 ZZ with⟨p',x1,q1,q2,q3,q4⟩|⟨q1,_⟩
      ·rw[g1] at q1;obtain rfl:=aad (aad q1);obtain⟨g',vs0,e2,hb0,hf0⟩:=hs.o _ _ _ g4 q3;injection e2 with e2
       injection e2 with e2
       injection e2 with e2
       subst e2;have:vs0=vs:=by
        have h1:cO w g t0 vs0.toArray:=hb0;have h2:cO w g ty vs.toArray:=bS;have h1:w.heap[g]?=_:=h1;have h2:w.heap[g]?=_:=h2;rw[h1] at h2;injection h2 with h2
        injection h2 with h2
        injection h2 with h2
       subst this;exact⟨k,g,ty,t0,cs,gP,c0,g1,g6,q3,bH,g4,g2,ZZ,g3,by rw[g6];exact⟨g,Qe,rfl,jF,Mm UZ bC han g5 hf0 Jo hf2⟩⟩
      ·rw[g1] at q1;cases q1
     have nC:∀{i:Nat} {y:ah},(ig l H)[i]?=some y->(H[i]?=some y/\∀p∈l,p.1≠i)\/(i,y)∈l:=by
      intro i y hy;have Ko:i<H.length:=by have:=(aab.1 hy).1;rwa [fG] at this
      rw[kx (aaa Ko)] at hy;cases e:eB l i with
      | none=>rw[e] at hy;left;exact⟨by rw[aaa Ko];exact hy,Bf e⟩
      | some u=>
       rw[e] at hy;right;have:u=y:=by simpa using hy
       subst this;exact Bg e
     have oy:∀{i:Nat} {y:ah} {u:Value} {b:Nat},H[i]?=some y->bs[i]?=some u->(∀p∈l,p.1≠i)->Bk y u b->b<w.heap.size/\¬M b:=by
      intro i y u b g1 g2 g3 g4;refine⟨(hs.o i y u g1 g2).lt g4,λhm=>?_⟩;obtain⟨k,p,y',u',q1,⟨ty,cs,qc⟩,q2,q3,_,q5⟩:=hM b hm;refine hs.ap i p y y' u u' b (λe=>?_) g1 g2 q2 q3 g4 q5;subst e;obtain⟨p',hp',Kk⟩:=sl4 k ty cs qc;rw[q1] at Kk;exact g3 p' hp' (aad (aad Kk)).symm
     have dG:HS cx bs w' S' (ig l H):=by
      refine⟨by rw[fG];exact hs.len,?_,?_,?_,λb q=>?_,λb q=>UZ b (hs.s0 b q),eY.os.trans hs.os,eY.tape.trans hs.tape,eY.output.trans hs.output,aao hs.size eY.size,λb q1 q2=>?_,hs.an⟩
      ·intro i y u hy hu;rcases nC hy with⟨g1,g3⟩|g
       ·exact(hs.o i y u g1 hu).same (λb hb=>hold b (oy g1 hu g3 hb).1 (oy g1 hu g3 hb).2) eY.size bC UZ (λb q=>⟨(eY.s b q).1,λe=>by
         obtain⟨p1,_⟩:=oy g1 hu g3 e;rcases(eY.s b q).2 with q|q|q
         ·exact(hs.nw i y u b g1 hu e).2 q
         ·have:w.heap.size<=b:=q;omega
         ·exact(oy g1 hu g3 e).2 q⟩) (iC.refl _)
       ·obtain⟨k,g,ty,t0,cs,gP,c0,_,_,q3,_,_,_,_,_,q8⟩:=N3 g;have q3:bs[i]?=_:=q3;rw[hu] at q3;obtain rfl:=aad q3;exact q8
      ·intro i j y y2 u v b vI hy hu hz hv bS bH;have old:∀{i:Nat} {y:ah} {u:Value},(ig l H)[i]?=some y->bs[i]?=some u->Bk y u b->∃y',H[i]?=some y'/\Bk y' u b:=by
        intro i y u hy hu hb;rcases nC hy with⟨g1,_⟩|g
        ·exact⟨y,g1,hb⟩
        ·obtain⟨k,g,ty,t0,cs,gP,c0,_,q2,q3,_,q5,_⟩:=N3 g;have q2:y=_:=q2;have q3:bs[i]?=_:=q3;rw[hu] at q3;obtain rfl:=aad q3;subst q2;exact⟨_,q5,hb⟩
       obtain⟨y',g1,g2⟩:=old hy hu bS;obtain⟨y2',g3,g4⟩:=old hz hv bH;exact hs.ap i j y' y2' u v b vI g1 hu g3 hv g2 g4
      ·intro i y u b hy hu hb;rcases nC hy with⟨g1,g3⟩|g
       ·refine⟨(hs.nw i y u b g1 hu hb).1,λq=>?_⟩;obtain⟨p1,_⟩:=oy g1 hu g3 hb;rcases(eY.s b q).2 with q|q|q
        ·exact(hs.nw i y u b g1 hu hb).2 q
        ·have:w.heap.size<=b:=q;omega
        ·exact(oy g1 hu g3 hb).2 q
       ·obtain⟨k,g,ty,t0,cs,gP,c0,_,q2,q3,q4,q5,_,_,q7,_⟩:=N3 g;have q2:y=_:=q2;have q3:bs[i]?=_:=q3;rw[hu] at q3;obtain rfl:=aad q3;subst q2;exact⟨(hs.nw i _ _ b q5 hu hb).1,(eY.nw k _ _ b q7 q4 hb).2⟩
      ·obtain⟨q1,q2⟩:=eY.s b q;refine⟨q1,?_⟩;rcases q2 with q2|q2|⟨k,y,u,p1,p2,p3⟩
       ·exact(hs.s b q2).2
       ·exact .inr (.inl (aao hs.size q2))
       ·obtain⟨_,p,y',u',_,_,p4,p5,_,p6⟩:=hM b ⟨k,y,u,p1,p2,p3⟩;exact .inr (hs.nw p y' u' b p4 p5 p6).1
      ·refine(hold b (aay q1 hs.size) λhm=>?_).trans (hs.old b q1 q2);obtain⟨k,p,y',u',_,_,g2,g3,_,g5⟩:=hM b hm;rcases(hs.nw p y' u' b g2 g3 g5).1 with g|g
       ·omega
       ·exact q2 g
     exact hK v w' S' dG UZ bC (XR.free uB hr)
    ·exact h2.elim
   ·exact h.elim
  ·exact h.elim
 ·exact h.elim
end
def fOf (o:Oper):Option FuncId:=match o.op with
 | .call { callee:=.value (.func f), .. }=>some f
 | _=>none
def YG {P:Program} (Es:List (Em P)) (f:FuncId):Option (Em P):=Es.find? λE=>E.f==f
def tJ:List (Nat×SS)->List Operand->List Nat
 | (_,.c (.d _))::l,.tmp t::r=>t::tJ l r
 | (_,.st _)::l,.tmp t::r=>t::tJ l r
 | _::l,_::r=>tJ l r
 | _,_=>[]
def ci {P:Program} [hP:IsP P] (ty:TypeId->Option Ty) (D:List (Sm P)) (Es:List (Em P)):gb P where
 ty:=ty
 D:=D
 isP:=hP
 eff o:=((fOf o).bind (YG Es)).isSome
 x m o st:=match o.op with
  | .call { callee:=.value (.func f),args:=args, .. }=>match YG Es f with
   | some E=>(λst=>if abA E.l0 then(EK E st.env st.heap (i9 st.env args.toList)).bind λr=>.lf ⟨oV st.env o.dst (some r.1),ig r.2 st.heap⟩ else(YJ E st.env st.heap (i9 st.env args.toList)).bind λr=>.lf ⟨oV st.env o.dst (some r.1),r.2⟩) ((tJ E.l0 args.toList).foldl ze st)
   | none=>.bad
  | _=>.bad
 xok m o cx st cQ a w K Q _ hd h bL hK:=by
  split at h
  ·rename_i f args ts hop;split at h
   ·rename_i E hE;have hf:E.f=f:=by have:=List.find?_some hE;simpa using this
    subst hf;obtain⟨bs,S,hs,he⟩:=zf (l:=tJ E.l0 args.toList) bL;simp only at h;split at h
    ·obtain⟨r,h1,h2⟩:=T.hit_bind h;have h2:(⟨oV ((tJ E.l0 args.toList).foldl ze st).env o.dst (some r.1),ig r.2 ((tJ E.l0 args.toList).foldl ze st).heap⟩:dw)=cQ:=h2;subst h2;exact GR hs he hop h1 λv w' S' q1 qS qk q3=>hK _ _ ⟨bs,S',q1,(he.keep qS qk (iC.refl _)).put o.dst (some r.1) v hd λy hy=>by obtain rfl:=aad hy;exact q3⟩
    ·obtain⟨r,h1,h2⟩:=T.hit_bind h;have h2:(⟨oV ((tJ E.l0 args.toList).foldl ze st).env o.dst (some r.1),r.2⟩:dw)=cQ:=h2;subst h2;exact SQ hs he hop h1 λv w' aU S' q1 qS qk qa q3=>hK _ _ ⟨aU,S',q1,(he.keep qS qk qa).put o.dst (some r.1) v hd λy hy=>by obtain rfl:=aad hy;exact q3⟩
   ·exact h.elim
  ·exact h.elim
 d o env H:=match o.op with
  | .call { callee:=.value (.func f),args:=args, .. }=>match YG Es f with
   | some E=>EK E env H (i9 env args.toList)
   | none=>.bad
  | _=>.bad
 dok m o cx bs S env Hv Hf a w r K Q _ hv hs he h hK:=by
  split at h
  ·rename_i f args ts hop;split at h
   ·rename_i E hE;have hf:E.f=f:=by have:=List.find?_some hE;simpa using this
    subst hf;exact GR hs he hop (Oz hv h) hK
   ·exact h.elim
  ·exact h.elim
section
variable {P:Program} {m:Nat} {loops:List Code} (R:Rg P m) (L:zz P R.fn m R.pb loops)
def fnE (n:Nat) (body:Code) (l0 lr:List (Nat×SS)) (x:bM l0):T (XV×bM lr):=(run R L n [.code 0 body] (cH l0 x)).bind λq=>match q with
 | .ret r st=>T.op ((nr R.pb lr st).map λz=>(Qj r,z))
 | .nrm st=>if R.fn.results.toList.isEmpty then T.op ((nr R.pb lr st).map λz=>(.tup [],z)) else .bad
 | _=>.bad
end
theorem EJ {P:Program} {fn:Func} {f:FuncId} {body:Code} {loops:List Code} (R:Rg P fn.ntmps) (L:zz P R.fn fn.ntmps R.pb loops) (Sx:R.fn=fn) (ahJ:R.pb≠[]) (hf:P.funcs[f]?=some fn) (hb:fn.body=some body) (hl:loops=jE body) (n:Nat) (l0 lr:List (Nat×SS)) (F:bM l0->T (XV×bM lr)) (yV:l0.length<=fn.ntmps) (h:∀x r,Kx l0 x->(F x).hit r->(fnE R L n body l0 lr x).hit r):fk P f R.pb l0 lr F:=by
 intro cx bs S vs x r z lQ hS hs NM zJ hr;have he:ER fn.ntmps bs cx.w0 S (cH l0 x).env { tmps:=vs.toArray++Array.replicate (fn.ntmps-vs.toArray.size) undef,defers:=[] }:=by
  refine⟨rfl,?_,λt y hy=>?_⟩
  ·show(vs.toArray++Array.replicate (fn.ntmps-vs.toArray.size) undef).size=_;rw[Array.size_append,Array.size_replicate,aa5];omega
  ·obtain⟨v,hv,hx⟩:=NM t y hy;refine⟨v,?_,hx⟩;show(vs.toArray++Array.replicate (fn.ntmps-vs.toArray.size) undef)[t]?=_;rw[Array.getElem?_append,if_pos (by rw[aa5];exact(aab.1 hv).1)];simpa using hv
 obtain⟨q,h3,h4⟩:=T.hit_bind (h x (r,z) (O4 ⟨bs,S,hs,he⟩) hr);refine calls_of_wp hf hb (wp_mono (xY (cx:=cx) lQ h3 ⟨bs,S,hs,he⟩ λj z hz=>by rw[hl,aa6];exact hz) λe a' w' hq=>?_);cases e with
 | ret=>
  obtain⟨r',cQ,rfl,aU,S1,S',eY,xw,k1,k4,v,k2,k3⟩:=hq;have h4:=T.hit_op h4;cases e2:nr R.pb lr cQ with
  | none=>rw[e2] at h4;cases h4
  | some z'=>
   rw[e2] at h4;injection h4 with h4
   injection h4 with e3 e4
   subst e3 e4;rw[Sx] at k2;rw[<-lQ] at e2;obtain⟨us,q1,_⟩:=mb e2 eY xw;refine⟨xw.d,v,k2,v,us,S1,rfl,q1,(FA k3).keep (λb hb=>?_) (aw.refl _ _) (iC.refl _)⟩;rcases k4 with k4|k4
   ·exact absurd (lQ▸k4) ahJ
   ·exact k4 b hb
 | normal=>
  obtain⟨cQ,rfl,aU,S1,eY,xw⟩:=hq;simp only at h4;split at h4
  ·rename_i pg;have h4:=T.hit_op h4;cases e2:nr R.pb lr cQ with
   | none=>rw[e2] at h4;cases h4
   | some z'=>
    rw[e2] at h4;injection h4 with h4
    injection h4 with e3 e4
    subst e3 e4;rw[Sx] at pg;rw[<-lQ] at e2;obtain⟨us,q1,_⟩:=mb e2 eY xw;have Nm:fn.results=#[]:=by
     have:fn.results.toList=[]:=List.isEmpty_iff.1 pg;rw[<-abs (xs:=fn.results),this]
    exact⟨xw.d,_,results_none Nm _ _ _,_,us,S1,rfl,q1,[],rfl,.nil⟩
  ·exact h4.elim
 | exit id=>
  obtain⟨cQ,rfl,_⟩:=hq;exact h4.elim
 | _=>exact hq.elim
end Go.Proofs.YtdbpbfglhbiadaaGreatDoor
