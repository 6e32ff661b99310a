/- MEff MEfb -/
import Derived.Test.YtjlhbfbdcfajfaaGreatDoorV00
import Derived.Test.YtjlhbfbdcfajfaaGreatDoorV30
set_option maxHeartbeats 8000000
set_option maxRecDepth 100000
namespace Go.Proofs.YtjlhbfbdcfajfaaGreatDoor
open Go Go.RowKit
def fV (P:Program) (f:FuncId) (pb:List Nat) (l0 lr:List (Nat×SS)) (F:ct l0→T (XV×ct lr)):Prop:=
 ∀(cx:Cx) (bs:List Value) (S:Nat→Prop) (vs:List Value) (x:ct l0) (r:XV) (z:ct lr),cx.pb=pb→(∀b,S b→cx.S0 b)→HS cx bs cx.w0 S (di l0 x).heap→(∀i y,(i,y)∈(di l0 x).env→∃v,vs[i]?=some v∧XR bs cx.w0 S y v)→vs.length=l0.length→(F x).hit (r,z)→
  Calls P f vs.toArray cx.w0 fun e w'=>∃v bm S',e=.returned v∧HS cx bm w' S' (di lr z).heap∧XR [] w' S' r v
structure Em (P:Program) where
 f:FuncId
 pb:List Nat
 l0:List (Nat×SS)
 lr:List (Nat×SS)
 F:ct l0→T (XV×ct lr)
 ok:fV P f pb l0 lr F
def vY:List (Option Nat)→List ai→List ai
 | [],H=>H
 | some o::l,H=>vY l (H.set o .dead)
 | none::l,H=>vY l H
def setB:List (Option Nat)→List ai→List ai→List ai
 | some o::ids,.cells ty cs::ys,H=>setB ids ys (H.set o (.cells ty cs))
 | _::ids,_::ys,H=>setB ids ys H
 | _,_,H=>H
def ai.solid:ai→Bool
 | .row _ _ _=>true
 | .zc _ _ _ _ _ _=>true
 | .mp _ _ _ _=>true
 | .mq _=>true
 | .mr _ _ _ _ _ _=>true
 | _=>false
def ye:List ai→List ai
 | []=>[]
 | y::l=>(bif y.solid then y else .dead)::ye l
def OP (ids:List (Option Nat)) (H ys:List ai):List ai:=setB ids ys (vY ids H)++ye ys
section
variable {cx:Cx} {bs bm us:List Value} {w w':World} {S S':Nat→Prop} {H:List ai}
theorem oE:∀{ids:List (Option Nat)} {H:List ai},(vY ids H).length=H.length
 | [],_=>rfl
 | some o::l,H=>by show(vY l _).length=_;rw[oE,abN]
 | none::l,H=>oE (ids:=l)
theorem sC:∀{ids:List (Option Nat)} {H:List ai} {i:Nat} {x:ai},(vY ids H)[i]?=some x→x=.dead∨(H[i]?=some x∧some i∉ids)
 | [],_,_,_,h=>.inr ⟨h,by simp⟩
 | some o::l,H,i,x,h=>by
  rcases sC (ids:=l) h with h|⟨h,hn⟩
  ·exact .inl h
  ·by_cases e:o=i
   ·subst e;have hl:=(aab.1 h).1;rw[abN] at hl;rw[abc hl] at h;exact .inl (aae h).symm
   ·rw[aaY e] at h;exact .inr ⟨h,fun hm=>by rcases aba.1 hm with q|q;(· injection q with q;exact e q.symm);exact hn q⟩
 | none::l,H,i,x,h=>by
  rcases sC (ids:=l) (H:=H) h with h|⟨h,hn⟩
  ·exact .inl h
  ·exact .inr ⟨h,fun hm=>by rcases aba.1 hm with q|q;(· cases q);exact hn q⟩
theorem fP:∀{ids:List (Option Nat)} {ys H:List ai},(setB ids ys H).length=H.length
 | some o::ids,.cells ty cs::ys,H=>by show(setB ids ys _).length=_;rw[fP,abN]
 | some o::ids,.row t e rs::ys,H=>fP (ids:=ids) (ys:=ys)
 | some o::ids,.dead::ys,H=>fP (ids:=ids) (ys:=ys)
 | some o::ids,.zc _ _ _ _ _ _::ys,H=>fP (ids:=ids) (ys:=ys)
 | some o::ids,.zip _ _ _ _ _ _ _ _::ys,H=>fP (ids:=ids) (ys:=ys)
 | some o::ids,.mp _ _ _ _::ys,H=>fP (ids:=ids) (ys:=ys)
 | some o::ids,.mq _::ys,H=>fP (ids:=ids) (ys:=ys)
 | some o::ids,.mr _ _ _ _ _ _::ys,H=>fP (ids:=ids) (ys:=ys)
 | some o::ids,.mx _ _ _ _ _ _ _::ys,H=>fP (ids:=ids) (ys:=ys)
 | none::ids,_::ys,H=>fP (ids:=ids) (ys:=ys)
 | [],_,H=>by unfold setB;rfl
 | some _::_,[],H=>by unfold setB;rfl
 | none::_,[],H=>by unfold setB;rfl
theorem gn:∀{ids:List (Option Nat)} {ys H:List ai} {i:Nat} {x:ai},(setB ids ys H)[i]?=some x→H[i]?=some x∨∃(k:Nat) (ty:TypeId) (cs:List AV),x=.cells ty cs∧ids[k]?=some (some i)∧ys[k]?=some (.cells ty cs)
 | some o::ids,.cells ty cs::ys,H,i,x,h=>by
  rcases gn (ids:=ids) (ys:=ys) h with h|⟨k,pk,iG,e,h1,h2⟩
  ·by_cases e:o=i
   ·subst e;have hl:=(aab.1 h).1;rw[abN] at hl;rw[abc hl] at h;exact .inr ⟨0,ty,cs,(aae h).symm,rfl,rfl⟩
   ·rw[aaY e] at h;exact .inl h
  ·exact .inr ⟨k+1,pk,iG,e,h1,h2⟩
 | some o::ids,.row t e rs::ys,H,i,x,h=>by
  rcases gn (ids:=ids) (ys:=ys) (H:=H) h with h|⟨k,pk,iG,e,h1,h2⟩
  ·exact .inl h
  ·exact .inr ⟨k+1,pk,iG,e,h1,h2⟩
 | some o::ids,.dead::ys,H,i,x,h=>by
  rcases gn (ids:=ids) (ys:=ys) (H:=H) h with h|⟨k,pk,iG,e,h1,h2⟩
  ·exact .inl h
  ·exact .inr ⟨k+1,pk,iG,e,h1,h2⟩
 | some o::ids,.zc _ _ _ _ _ _::ys,H,i,x,h=>by
  rcases gn (ids:=ids) (ys:=ys) (H:=H) h with h|⟨k,pk,iG,e,h1,h2⟩
  ·exact .inl h
  ·exact .inr ⟨k+1,pk,iG,e,h1,h2⟩
 | some o::ids,.zip _ _ _ _ _ _ _ _::ys,H,i,x,h=>by
  rcases gn (ids:=ids) (ys:=ys) (H:=H) h with h|⟨k,pk,iG,e,h1,h2⟩
  ·exact .inl h
  ·exact .inr ⟨k+1,pk,iG,e,h1,h2⟩
 | some o::ids,.mp _ _ _ _::ys,H,i,x,h=>by
  rcases gn (ids:=ids) (ys:=ys) (H:=H) h with h|⟨k,pk,iG,e,h1,h2⟩
  ·exact .inl h
  ·exact .inr ⟨k+1,pk,iG,e,h1,h2⟩
 | some o::ids,.mq _::ys,H,i,x,h=>by
  rcases gn (ids:=ids) (ys:=ys) (H:=H) h with h|⟨k,pk,iG,e,h1,h2⟩
  ·exact .inl h
  ·exact .inr ⟨k+1,pk,iG,e,h1,h2⟩
 | some o::ids,.mr _ _ _ _ _ _::ys,H,i,x,h=>by
  rcases gn (ids:=ids) (ys:=ys) (H:=H) h with h|⟨k,pk,iG,e,h1,h2⟩
  ·exact .inl h
  ·exact .inr ⟨k+1,pk,iG,e,h1,h2⟩
 | some o::ids,.mx _ _ _ _ _ _ _::ys,H,i,x,h=>by
  rcases gn (ids:=ids) (ys:=ys) (H:=H) h with h|⟨k,pk,iG,e,h1,h2⟩
  ·exact .inl h
  ·exact .inr ⟨k+1,pk,iG,e,h1,h2⟩
 | none::ids,_::ys,H,i,x,h=>by
  rcases gn (ids:=ids) (ys:=ys) (H:=H) (by simpa[setB] using h) with h|⟨k,pk,iG,e,h1,h2⟩
  ·exact .inl h
  ·exact .inr ⟨k+1,pk,iG,e,h1,h2⟩
 | [],_,H,i,x,h=>by unfold setB at h;exact .inl h
 | some _::_,[],H,i,x,h=>by unfold setB at h;exact .inl h
 | none::_,[],H,i,x,h=>by unfold setB at h;exact .inl h
theorem yc:∀{ys:List ai},(ye ys).length=ys.length
 | []=>rfl
 | _::l=>by show(ye l).length+1=_;rw[yc];rfl
theorem yd:∀{ys:List ai} {i:Nat} {x:ai},(ye ys)[i]?=some x→x=.dead∨(ys[i]?=some x∧x.solid=true)
 | y::l,0,x,h=>by
  have h:(bif y.solid then y else .dead)=x:=aae h;cases e:y.solid with
  | true=>rw[e] at h;have h:y=x:=h;subst h;exact .inr ⟨rfl,e⟩
  | false=>rw[e] at h;exact .inl h.symm
 | _::l,i+1,x,h=>yd (ys:=l) (i:=i) (by simpa[ye] using h)
 | [],_,_,h=>by cases h
theorem uE.same {p n:Nat} {kt:Kt} {t:Ty} {e:TypeId} {f:kt.K→Option (List (El t))} {x:kt.K→Prop} {v:Value} (h:uE bs w S p kt t e n f x v) (hb:∀c,xi kt x v c→w'.heap[c]?=w.heap[c]?) (hk:aA S w w') (hS:∀b,S b→S' b) (hn:∀c,S' c→c<w'.heap.size∧¬xi kt x v c) (Fs:jq bs bm):uE bm w' S' p kt t e n f x v:=by
 obtain⟨b,l,g,rfl,h1,h2,h3,h4,h5,h6⟩:=h;have xl:∀k u c,¬x k→g k=some u→u.ownBlock=some c→xi kt x (tf b l) c:=fun k u c hx hu hc=>⟨b,l,rfl,.inr ⟨k,u,hx,(h3 k u).1 hu,hc⟩⟩;refine⟨b,l,g,rfl,Fs _ _ h1 rfl,h2.same (hb b ⟨b,l,rfl,.inl rfl⟩),h3,fun k hx=>?_,h5,h6⟩;have:=h4 k hx;cases hf:f k with
 | none=>rw[hf] at this;exact this
 | some xs=>
  rw[hf] at this;obtain⟨u,hu,cs,⟨q1,q2⟩,q3,q4⟩:=this;refine⟨u,hu,cs,⟨q1,?_⟩,q3.keep hS hk,fun c hc=>⟨(hn c hc).1,fun e=>(hn c hc).2 (xl k u c hx hu e.symm)⟩⟩;rcases q2 with q2|⟨g',cap,cur,rfl,r3,r4,r5⟩
  ·exact .inl q2
  ·exact .inr ⟨g',cap,cur,rfl,r3,(hb g' (xl k _ g' hx hu rfl)).trans r4,r5⟩
theorem OR.same {x:ai} {v:Value} (h:OR bs w S x v) (hb:∀b,Bk x v b→w'.heap[b]?=w.heap[b]?) (_:w.heap.size≤w'.heap.size) (hk:aA S w w') (hS:∀b,S b→S' b) (hn:∀b,S' b→b<w'.heap.size∧¬Bk x v b) (Fs:jq bs bm):OR bm w' S' x v:=by
 cases x with
 | cells ty cs=>
  obtain⟨g,vs,rfl,h1,h2⟩:=h;exact⟨g,vs,rfl,(hb g rfl).trans h1,h2.mono fun _ _ h=>h.keep hS hk Fs⟩
 | row t e rs=>
  obtain⟨cs,⟨q1,q2⟩,h2,h3⟩:=h;refine⟨cs,⟨q1,?_⟩,h2.keep hS hk,fun b ni=>⟨(hn b ni).1,fun e=>(hn b ni).2 e.symm⟩⟩;rcases q2 with q2|⟨g,cap,cur,rfl,q3,q4,q5⟩
  ·exact .inl q2
  ·exact .inr ⟨g,cap,cur,rfl,q3,(hb g rfl).trans q4,q5⟩
 | zc e t tn hJ done rest=>
  obtain⟨bN,⟨cs,⟨q1,q2⟩,h2,h3⟩,hz⟩:=h;refine⟨bN,⟨cs,⟨q1,?_⟩,h2.keep hS hk,fun b ni=>⟨(hn b ni).1,fun e=>(hn b ni).2 e.symm⟩⟩,hz.keep hS hk⟩;rcases q2 with q2|⟨g,cap,cur,rfl,q3,q4,q5⟩
  ·exact .inl q2
  ·exact .inr ⟨g,cap,cur,rfl,q3,(hb g rfl).trans q4,q5⟩
 | zip o2 e t tn hJ done cur rest=>
  obtain⟨bN,⟨cs,⟨q1,q2⟩,h2,h3⟩,hz,hl,u,sH,rF,hu3⟩:=h;refine⟨bN,⟨cs,⟨q1,?_⟩,h2.keep hS hk,fun b ni=>⟨(hn b ni).1,fun e=>(hn b ni).2 e.symm⟩⟩,hz.keep hS hk Fs,hl,u,Fs _ _ sH rF,rF,hu3⟩;rcases q2 with q2|⟨g,cap,cur,rfl,q3,q4,q5⟩
  ·exact .inl q2
  ·exact .inr ⟨g,cap,cur,rfl,q3,(hb g rfl).trans q4,q5⟩
 | dead=>exact trivial
 | mp kt t n f=>obtain⟨b',g,rfl,h1,h2⟩:=h;exact⟨b',g,rfl,h1.same (hb b' rfl),fun k=>(h2 k).keep hS hk⟩
 | mq q=>exact h
 | mr p kt t e n f=>exact uE.same h hb hk hS hn Fs
 | mx p kt t e n f k=>exact uE.same h hb hk hS hn Fs
end
inductive Sh (n:Nat):ai→ai→Prop where
 | row {t:Ty} {e:TypeId} {rs:List (El t)}:Sh n (.row t e rs) (.row t e rs)
 | cells {ty:TypeId} {cs iG:List AV}:(∀(bs bm:List Value) (w:World) (S:Nat→Prop) (vs:List Value),bs.length=n→F2 (VR bm w S) cs vs→F2 (VR (bs++bm) w S) iG vs)→Sh n (.cells ty cs) (.cells ty iG)
 | dead:Sh n .dead .dead
 | zc {e:TypeId} {t tn:Ty} {hJ:Nat} {done:List (El t)} {rest:List (El tn)}:Sh n (.zc e t tn hJ done rest) (.zc e t tn hJ done rest)
 | zip {o o':Nat} {e:TypeId} {t tn:Ty} {hJ:Nat} {done:List (El t)} {cur acu:List AV} {rest:List (El tn)}:Sh n (.zip o e t tn hJ done cur rest) (.zip o' e t tn hJ done acu rest)
 | mp {kt:Kt} {t:Ty} {m:Nat} {f:kt.K→Option (El t)}:Sh n (.mp kt t m f) (.mp kt t m f)
 | mq {q q':Nat}:Sh n (.mq q) (.mq q')
 | mr {p:Nat} {kt:Kt} {t:Ty} {e:TypeId} {m:Nat} {f:kt.K→Option (List (El t))}:Sh n (.mr p kt t e m f) (.mr (n+p) kt t e m f)
theorem Sh.solid {n:Nat} {y0 y:ai} (h:Sh n y0 y) (hs:y.solid=true):(∀u b,Bk y u b→Bk y0 u b)∧∀(bs bm:List Value) (w:World) (S:Nat→Prop) (u:Value),bs.length=n→OR bm w S y0 u→OR (bs++bm) w S y u:=by
 cases h with
 | row=>exact⟨fun _ _ h=>h,fun _ _ _ _ _ _ h=>h⟩
 | zc=>exact⟨fun _ _ h=>h,fun _ _ _ _ _ _ h=>h⟩
 | mp=>exact⟨fun _ _ h=>h,fun _ _ _ _ _ _ h=>h⟩
 | mq=>exact⟨fun _ _ h=>h,fun _ _ _ _ _ _ h=>h⟩
 | mr=>
  refine⟨fun _ _ h=>h,fun bs bm w S u hl ⟨b,l,g,e,h1,r⟩=>⟨b,l,g,e,?_,r⟩⟩;rw[←hl,aag (by omega),abH];exact h1
 | _=>cases hs
section
variable {n:Nat}
theorem Wa {bs bm:List Value} {w:World} {S:Nat→Prop} {t:Ty} {x:El t} {v:Value} (h:VR bs w S (one t x) v):VR bm w S (one t x) v:=by
 cases t<;>exact h
theorem GP {s:ZS} {x:ZV s} {k j:Nat}:(Cb k s x).2.length=(Cb j s x).2.length:=by cases s<;>rfl
theorem Ca:∀{l:List ZS} {x:AT l} {k j:Nat},(sr k l x).2.length=(sr j l x).2.length
 | [],_,_,_=>rfl
 | s::l,x,k,j=>by
  show((Cb k s x.1).2++_).length=((Cb j s x.1).2++_).length;rw[aa8,aa8,GP (k:=k) (j:=j),Ca (l:=l)]
theorem GO:∀{l:List ZS} {x:AT l} {k:Nat},F2 (Sh n) (sr k l x).2 (sr (n+k) l x).2
 | [],_,_=>.nil
 | s::l,x,k=>by
  have h1:F2 (Sh n) (Cb k s x.1).2 (Cb (n+k) s x.1).2:=by
   cases s with
   | d t=>exact .nil
   | own t e=>exact .cons .row .nil
   | any=>exact .cons .dead .nil
  have h3:=GO (l:=l) (x:=x.2) (k:=k+(Cb k s x.1).2.length);have e:n+(k+(Cb k s x.1).2.length)=n+k+(Cb (n+k) s x.1).2.length:=by rw[GP (k:=k) (j:=n+k)];omega
  rw[e] at h3;exact h1.append h3
theorem MX {s:CS} {x:CV s} {k:Nat}:F2 (Sh n) (ue k s x).2 (ue (n+k) s x).2∧∀(bs bm:List Value) (w:World) (S:Nat→Prop) (v:Value),bs.length=n→VR bm w S (ue k s x).1 v→VR (bs++bm) w S (ue (n+k) s x).1 v:=by
 cases s with
 | d t=>exact⟨.nil,fun bs bm w S v _ h=>Wa h⟩
 | own t e=>
  refine⟨.cons .row .nil,fun bs bm w S v hl h=>⟨?_,h.2⟩⟩;rw[←hl,aag (by omega),abH];exact h.1
 | any=>
  refine⟨.cons .dead .nil,fun bs bm w S v hl h=>⟨?_,h.2⟩⟩;rw[←hl,aag (by omega),abH];exact h.1
 | zc t tn e=>
  refine⟨.cons .zc .nil,fun bs bm w S v hl h=>⟨?_,h.2⟩⟩;rw[←hl,aag (by omega),abH];exact h.1
 | zip t tn e zs=>
  refine⟨.cons .zip (.cons .dead ?_),fun bs bm w S v hl h=>⟨?_,h.2⟩⟩
  ·have:=GO (n:=n) (l:=zs) (x:=x.2.2.1) (k:=k+2)
   rwa [←act] at this
  ·rw[←hl,aag (by omega),abH];exact h.1
 | mp kt t=>
  refine⟨.cons .mp .nil,fun bs bm w S v hl h=>⟨?_,h.2⟩⟩;rw[←hl,aag (by omega),abH];exact h.1
 | mr kt t e=>
  refine⟨.cons .mq (.cons .mr .nil),fun bs bm w S v hl h=>⟨?_,h.2⟩⟩;rw[←hl,aag (by omega),abH];exact h.1
theorem Rq {s:CS} {x:CV s} {k j:Nat}:(ue k s x).2.length=(ue j s x).2.length:=by
 cases s with
 | zip t tn e zs=>
  show(sr (k+2) zs x.2.2.1).2.length+1+1=(sr (j+2) zs x.2.2.1).2.length+1+1;rw[Ca]
 | _=>rfl
theorem GR:∀{l:List CS} {x:fc l} {k:Nat},F2 (Sh n) (sw k l x).2 (sw (n+k) l x).2∧∀(bs bm:List Value) (w:World) (S:Nat→Prop) (vs:List Value),bs.length=n→F2 (VR bm w S) (sw k l x).1 vs→F2 (VR (bs++bm) w S) (sw (n+k) l x).1 vs
 | [],_,_=>⟨.nil,fun _ _ _ _ _ _ h=>by cases h;exact .nil⟩
 | s::l,x,k=>by
  obtain⟨h1,h2⟩:=MX (n:=n) (s:=s) (x:=x.1) (k:=k);obtain⟨h3,h4⟩:=GR (l:=l) (x:=x.2) (k:=k+(ue k s x.1).2.length);have e:n+(k+(ue k s x.1).2.length)=n+k+(ue (n+k) s x.1).2.length:=by rw[Rq (k:=k) (j:=n+k)];omega
  rw[e] at h3 h4;refine⟨h1.append h3,fun bs bm w S vs hl h=>?_⟩;cases h with
  | cons q1 q2=>exact .cons (h2 bs bm w S _ hl q1) (h4 bs bm w S _ hl q2)
theorem Wo {s:SS} {x:SW s} {k:Nat}:F2 (Sh n) (xj k s x).2 (xj (n+k) s x).2:=by
 cases s with
 | c s=>exact(MX (n:=n) (s:=s) (x:=x) (k:=k)).1
 | st q=>exact .nil
 | fn k=>exact .nil
 | rf k=>exact .nil
 | cl k t=>exact .nil
 | sb o o2=>exact .nil
 | box ty cs=>
  obtain⟨h3,h4⟩:=GR (n:=n) (l:=cs) (x:=x) (k:=k+1);exact .cons (.cells h4) h3
theorem MW:∀{l:List (Nat×SS)} {x:ct l} {k:Nat},F2 (Sh n) (su k l x).2 (su (n+k) l x).2
 | [],_,_=>.nil
 | p::l,x,k=>by
  have h1:=Wo (n:=n) (s:=p.2) (x:=x.1) (k:=k);have h2:=MW (l:=l) (x:=x.2) (k:=k+(xj k p.2 x.1).2.length);have e:n+(k+(xj k p.2 x.1).2.length)=n+k+(xj (n+k) p.2 x.1).2.length:=by rw[h1.length];omega
  rw[e] at h2;exact h1.append h2
end
def Im (ys:List ai):List Nat:=(List.range ys.length).filter fun i=>match ys[i]? with
 | some (.cells _ _)=>true
 | _=>false
def If (ids:List (Option Nat)):Bool:=Ct [] ids
def X5 {P:Program} (E:Em P) (_:Env) (H:List ai) (xs:Option (List XV)):T (XV×List ai):=match xs with
 | some xs=>match BN H (qM 0 xs) E.l0 with
  | some (x,ids)=>if OD P E.f&&If ids&&xs.length==E.l0.length&&Im (di E.l0 x).heap==E.pb then (E.F x).bind fun q=>if q.1.free&&Im (su H.length E.lr q.2).2==E.pb&&(su H.length E.lr q.2).2.length==ids.length then .lf (q.1,OP ids H (su H.length E.lr q.2).2) else .bad
   else .bad
  | none=>.bad
 | none=>.bad
section
variable {P:Program} {o:Oper} {cx:Cx} {bs:List Value} {w:World} {S:Nat→Prop} {H:List ai} {m:Nat} {env:Env} {a:Act} {K:Act→World→Prop} {Q:Exit→Act→World→Prop}
theorem yZ {ys:List ai} {i:Nat}:i∈Im ys↔∃ty cs,ys[i]?=some (.cells ty cs):=by
 unfold Im;rw[adm,abM];constructor
 ·rintro⟨_,h⟩;split at h
  ·rename_i ty cs e;exact⟨ty,cs,e⟩
  ·cases h
 ·rintro⟨ty,cs,e⟩;exact⟨(aab.1 e).1,by rw[e]⟩
theorem CX {ids:List (Option Nat)} (h:If ids=true) {i j p:Nat} (hi:ids[i]?=some (some p)) (hj:ids[j]?=some (some p)):i=j:=by
 unfold If Ct at h;rw[aaO] at h;have h:=h.1;have KZ:=(aab.1 hi).1;have Xj:=(aab.1 hj).1;rcases Nat.lt_trichotomy i j with hlt|e|hlt
 ·have:=abq.1 (abq.1 h j (abM.2 Xj)) i (abM.2 hlt);rw[hi,hj] at this;simp at this
 ·exact e
 ·have:=abq.1 (abq.1 h i (abM.2 KZ)) j (abM.2 hlt);rw[hi,hj] at this;simp at this
theorem Te (hs:HS cx bs w S H) (he:ER m bs w S env a) {E:Em P} {args:Array Operand} {ts:Array TypeId} (hop:o.op=.call { callee:=.value (.func E.f),args:=args,argTypes:=ts }) {r:XV×List ai} (h:(X5 E env H (mZ env args.toList)).hit r) (hK:∀v w' bm S',HS cx bm w' S' r.2→(∀b,S b→S' b)→aA S w w'→jq bs bm→XR bm w' S' r.1 v→K (a.put o.dst v) w'):o.wp P a w K Q:=by
 unfold X5 at h;split at h
 ·rename_i xs NC;split at h
  ·rename_i x ids P7;split at h
   ·rename_i hc;simp only[aaO,beq_iff_eq] at hc;obtain⟨⟨⟨hfn,lQ⟩,bM⟩,np⟩:=hc;obtain⟨q,h1,h2⟩:=T.hit_bind h;split at h2
    ·rename_i hc2;simp only[aaO,beq_iff_eq] at hc2;obtain⟨⟨wo,agN⟩,Cu⟩:=hc2;obtain⟨r0,z⟩:=q;have h2:(r0,_)=r:=h2;subst h2;have ha:=l9 he NC;have UT:ER xs.length bs w S (qM 0 xs) ⟨(args.toList.map a.eval).toArray,[]⟩:=by
      refine⟨rfl,by show(args.toList.map a.eval).toArray.size=_;rw[abW,ha.length],uy ha fun j v hj=>?_⟩;rw[ace];simpa using hj
     obtain⟨P7,P6⟩:=Gw P7;obtain⟨us,re,kk⟩:=zE hs UT P7 0;obtain⟨k1,k2⟩:=kk us (fun j u hj=>by rw[ace];exact hj) (P6 _ _);have rl:=re.len
     let M:Nat→Prop:=fun b=>∃(k:Nat) (y:ai) (u:Value),(di E.l0 x).heap[k]?=some y∧us[k]?=some u∧Bk y u b
     have hM:∀b,M b→∃(k p:Nat) (y:ai) (u:Value),ids[k]?=some (some p)∧H[p]?=some y∧bs[p]?=some u∧us[k]?=some u∧Bk y u b:=by
      rintro b ⟨k,y,u,g1,g2,g3⟩;rcases re.get k y u g1 g2 with⟨p,x1,q1,q2,q3,q4⟩|⟨_,q⟩
      ·exact⟨k,p,x1,u,q1,q2,q3,g2,AP q4 g3⟩
      ·exact absurd g3 (q b)
     have hMS:∀b,M b→¬S b:=fun b hb=>by
      obtain⟨k,p,y,u,_,g2,g3,_,g5⟩:=hM b hb;exact(hs.nw p y u b g2 g3 g5).2
     have hM0:∀b,M b→cx.w0.heap.size≤b∨cx.M b:=fun b hb=>by
      obtain⟨k,p,y,u,_,g2,g3,_,g5⟩:=hM b hb;exact(hs.nw p y u b g2 g3 g5).1
     let cx':Cx:=⟨w,S,M,us,E.pb,fun w2 h1 h2 h3 h4 h5=>cx.wk w2 (aa7 hs.size h1) (h2.trans hs.os) (h3.trans hs.tape) (h4.trans hs.output) fun b hb hm=>(h5 b (abw hb hs.size) fun q=>(hM0 b q).elim (fun q=>by omega) hm).trans (hs.old b hb hm)⟩
     have hsc:HS cx' us w S (di E.l0 x).heap:=by
      refine⟨rl.2,fun i y v hy hv=>k2 i y v hy hv,?_,?_,fun b q=>⟨(hs.s b q).1,.inl q⟩,fun _ h=>h,rfl,rfl,rfl,aaW _,fun _ _ _=>rfl,fun _ _ _ h _=>h⟩
      ·intro i j y y2 u v b xk hy hu hz hv cI bZ;rcases re.get i y u hy hu with⟨p,x1,q1,q2,q3,q4⟩|⟨_,q⟩
       ·rcases re.get j y2 v hz hv with⟨p',x2,q5,q6,q7,q8⟩|⟨_,q⟩
        ·exact hs.ap p p' x1 x2 u v b (fun ep=>xk (CX lQ q1 (ep▸q5))) q2 q3 q6 q7 (AP q4 cI) (AP q8 bZ)
        ·exact absurd bZ (q b)
       ·exact absurd cI (q b)
      ·intro i y u b hy hu hb;exact⟨.inr ⟨i,y,u,hy,hu,hb⟩,hMS b ⟨i,y,u,hy,hu,hb⟩⟩
     have N9:∀i y,(i,y)∈(di E.l0 x).env→∃v,(args.toList.map a.eval)[i]?=some v∧XR us w S y v:=fun i y hy=>by
      obtain⟨v,q1,q2⟩:=k1 i y hy;exact⟨v,by simpa using q1,q2⟩
     have bO:=E.ok cx' us S _ x r0 z rfl (fun _ h=>h) hsc N9 (by rw[←ha.length];exact bM) h1;unfold Oper.wp execOp;have hev:a.eval (.func E.f)=.func (.func E.f) #[] #[]:=rfl;have qO:(args.toList.map a.eval).toArray=args.map a.eval:=by rw[←adv]
     simp only[hop,resolve,hev,Deferred.ofValue,Sem.run_bind,Sem.run_pure,Result.andThen_ok,invoke,Array.empty_append,Array.append_empty,mB hfn,Oper.upon_enter];rw[←qO];refine bO.mono fun e w' yG=>?_;obtain⟨v,bm,S',rfl,fK,hr⟩:=yG;have U3:∀b,S b→S' b:=fK.s0;have hold:∀b,b<w.heap.size→¬M b→w'.heap[b]?=w.heap[b]?:=fK.old;have bS:aA S w w':=fun p hp=>hold p (hs.s _ hp).1 fun hm=>hMS _ hm hp;have P5:F2 (Sh H.length) (su 0 E.lr z).2 (su H.length E.lr z).2:=by
      have:=MW (n:=H.length) (l:=E.lr) (x:=z) (k:=0)
      rwa [adA] at this
     have xl:bm.length=(su H.length E.lr z).2.length:=by rw[←P5.length];exact fK.len
     have ww:jq bs (bs++bm):=fun i u hu _=>by rw[aaK (aab.1 hu).1];exact hu
     have Oo:∀{k:Nat} {ty:TypeId} {cs:List AV} {i:Nat},ids[k]?=some (some i)→(su H.length E.lr z).2[k]?=some (.cells ty cs)→∃xK g,(di E.lr z).heap[k]?=some (.cells ty xK)∧bm[k]?=some (.pointer (some ⟨g,0,none⟩))∧bs[i]?=some (.pointer (some ⟨g,0,none⟩))∧(∃PU c0,H[i]?=some (.cells PU c0))∧OR (bs++bm) w' S' (.cells ty cs) (.pointer (some ⟨g,0,none⟩)):=by
      intro k ty cs i hk hy;have UN:k∈E.pb:=by rw[←agN];exact yZ.2 ⟨ty,cs,hy⟩
      have Ap:=UN;rw[←np] at Ap;obtain⟨ty1,cs1,cI⟩:=yZ.1 Ap;have J0:k<us.length:=by rw[rl.2];exact(aab.1 cI).1
      obtain⟨g,vs1,hu,_⟩:=k2 k _ _ cI (aac J0);have Y8:us[k]?=some (.pointer (some ⟨g,0,none⟩)):=by rw[aac J0,hu]
      have bZ:=fK.an k _ UN Y8 rfl;obtain⟨xK,abZ,agy⟩:∃xK,(su 0 E.lr z).2[k]?=some (.cells ty xK)∧Sh H.length (.cells ty xK) (.cells ty cs):=by
       have NT:k<(su 0 E.lr z).2.length:=by rw[P5.length];exact(aab.1 hy).1
       obtain⟨y',KV,hq⟩:=P5.get (aac NT);rw[hy] at KV;obtain rfl:=aae KV;cases P1:(su 0 E.lr z).2[k] with
       | cells pk iG=>rw[P1] at hq;cases hq with|cells hq=>exact⟨iG,by rw[aac NT,P1],.cells hq⟩
       | row t e rs=>rw[P1] at hq;cases hq
       | zc e t tn hJ done rest=>rw[P1] at hq;cases hq
       | zip o2 e t tn hJ done cur rest=>rw[P1] at hq;cases hq
       | _=>rw[P1] at hq;cases hq
      obtain⟨g',vs,e2,gR,hf⟩:=fK.o k _ _ abZ bZ;rcases re.get k _ _ cI Y8 with⟨p,x1,q1,q2,q3,q4⟩|⟨q1,_⟩
      ·rw[hk] at q1;obtain rfl:=aae (aae q1);refine⟨xK,g,abZ,bZ,q3,?_,g',vs,e2,gR,?_⟩
       ·cases x1 with
        | cells PU c0=>exact⟨PU,c0,q2⟩
        | row t e rs=>have:=hs.o i _ _ q2 q3;obtain⟨A,n,c,e,_⟩:=Own.slice (α:=El t) this;cases e
        | zc e t tn hJ done rest=>obtain⟨bN,this,_⟩:=hs.o i _ _ q2 q3;obtain⟨A,n,c,e,_⟩:=Own.slice this;cases e
        | zip o2 e t tn hJ done cur rest=>obtain⟨bN,this,_⟩:=hs.o i _ _ q2 q3;obtain⟨A,n,c,e,_⟩:=Own.slice this;cases e
        | dead=>exact absurd (q4 _ rfl) (fun h=>by cases h)
        | mp kt t n f=>obtain⟨_,_,e,_⟩:=hs.o i _ _ q2 q3;cases e
        | mq q=>obtain⟨_,e⟩:=hs.o i _ _ q2 q3;cases e
        | mr p kt t e n f=>obtain⟨_,_,_,e,_⟩:=hs.o i _ _ q2 q3;cases e
        | mx p kt t e n f k=>obtain⟨_,_,_,e,_⟩:=hs.o i _ _ q2 q3;cases e
       ·cases agy with|cells hq=>exact hq bs bm w' S' vs hs.len hf
      ·rw[hk] at q1;cases q1
     have oW:∀{i:Nat} {y:ai} {u:Value},(OP ids H (su H.length E.lr z).2)[i]?=some y→(bs++bm)[i]?=some u→ y=.dead∨(H[i]?=some y∧bs[i]?=some u∧some i∉ids)∨(∃(k g:Nat) (ty:TypeId) (cs:List AV) (xK:List AV) (PU:TypeId) (c0:List AV),y=.cells ty cs∧ids[k]?=some (some i)∧u=.pointer (some ⟨g,0,none⟩)∧bs[i]?=some u∧H[i]?=some (.cells PU c0)∧bm[k]?=some u∧(di E.lr z).heap[k]?=some (.cells ty xK)∧OR (bs++bm) w' S' y u)∨ (∃(k:Nat) (y0:ai),y.solid=true∧i=H.length+k∧bm[k]?=some u∧(di E.lr z).heap[k]?=some y0∧Sh H.length y0 y):=by
      intro i y u hy hu;have fJ:(setB ids (su H.length E.lr z).2 (vY ids H)).length=H.length:=by rw[fP,oE]
      unfold OP at hy;by_cases hi:i<H.length
      ·rw[aaK (by rw[fJ];exact hi)] at hy;rw[aaK (by rw[hs.len];exact hi)] at hu;rcases gn hy with hy|⟨k,ty,cs,rfl,g1,g2⟩
       ·rcases sC hy with hy|⟨hy,hn⟩
        ·exact .inl hy
        ·exact .inr (.inl ⟨hy,hu,hn⟩)
       ·obtain⟨xK,g,q1,q2,q3,⟨PU,c0,q4⟩,q5⟩:=Oo g1 g2;rw[hu] at q3;obtain rfl:=aae q3;exact .inr (.inr (.inl ⟨k,g,ty,cs,xK,PU,c0,rfl,g1,rfl,hu,q4,q2,q1,q5⟩))
      ·rw[aag (by rw[fJ];omega),fJ] at hy;rw[aag (by rw[hs.len];omega),hs.len] at hu;rcases yd hy with hy|⟨hy,Sj⟩
       ·exact .inl hy
       ·have NT:i-H.length<(su 0 E.lr z).2.length:=by rw[P5.length];exact(aab.1 hy).1
        obtain⟨y',KV,hq⟩:=P5.get (aac NT);rw[hy] at KV;obtain rfl:=aae KV;exact .inr (.inr (.inr ⟨i-H.length,_,Sj,by omega,hu,aac NT,hq⟩))
     have pP:∀{i:Nat} {y:ai} {u:Value} {b:Nat},H[i]?=some y→bs[i]?=some u→some i∉ids→Bk y u b→b<w.heap.size∧¬M b:=by
      intro i y u b g1 g2 g3 g4;refine⟨(hs.o i y u g1 g2).lt g4,fun hm=>?_⟩;obtain⟨k,p,y',u',q1,q2,q3,_,q5⟩:=hM b hm;refine hs.ap i p y y' u u' b (fun e=>?_) g1 g2 q2 q3 g4 q5;subst e;exact g3 (acS q1)
     have et:HS cx (bs++bm) w' S' (OP ids H (su H.length E.lr z).2):=by
      refine⟨?_,?_,?_,?_,fun b q=>?_,fun b q=>U3 b (hs.s0 b q),fK.os.trans hs.os,fK.tape.trans hs.tape,fK.output.trans hs.output,aa7 hs.size fK.size,fun b q1 q2=>?_,fun i v p q r=>ww i _ (hs.an i v p q r) r⟩
      ·unfold OP;rw[aa8,aa8,fP,oE,yc,hs.len,xl]
      ·intro i y u hy hu;rcases oW hy hu with rfl|⟨g1,g2,g3⟩|⟨k,g,ty,cs,xK,PU,c0,_,_,_,_,_,_,_,g9⟩|⟨k,g0,gs,_,g3,g4,gq⟩
       ·exact trivial
       ·exact(hs.o i y u g1 g2).same (fun b hb=>hold b (pP g1 g2 g3 hb).1 (pP g1 g2 g3 hb).2) fK.size bS U3 (fun b q=>⟨(fK.s b q).1,fun e=>by
         obtain⟨p1,_⟩:=pP g1 g2 g3 e;rcases(fK.s b q).2 with q|q|q
         ·exact(hs.nw i y u b g1 g2 e).2 q
         ·have:w.heap.size≤b:=q;omega
         ·exact(pP g1 g2 g3 e).2 q⟩) ww
       ·exact g9
       ·exact(gq.solid gs).2 bs bm w' S' u hs.len (fK.o k _ _ g4 g3)
      ·intro i j y y2 u v b xk hy hu hz hv cI bZ;have aaj:∀{k:Nat} {y:ai} {u:Value},bm[k]?=some u→(di E.lr z).heap[k]?=some y→Bk y u b→(w.heap.size≤b∨M b):=fun g1 g2 g3=>(fK.nw _ _ _ b g2 g1 g3).1;rcases oW hy hu with rfl|⟨g1,g2,g3⟩|⟨k,g,ty,cs,xK,PU,c0,rfl,g2,rfl,g4,g5,g6,g7,_⟩|⟨k,g0,gs,g2,g3,g4,gq⟩
       ·cases cI
       ·rcases oW hz hv with rfl|⟨p1,p2,p3⟩|⟨k',g',pk,iG,acw,ZY,c0',rfl,p2,rfl,p4,p5,p6,p7,_⟩|⟨k',p0,ps,p2,p3,p4,pq⟩
        ·cases bZ
        ·exact hs.ap i j y y2 u v b xk g1 g2 p1 p2 cI bZ
        ·exact hs.ap i j y _ u _ b xk g1 g2 p5 p4 cI bZ
        ·obtain⟨q1,q2⟩:=pP g1 g2 g3 cI;rcases aaj p3 p4 ((pq.solid ps).1 _ _ bZ) with q|q
         ·omega
         ·exact q2 q
       ·rcases oW hz hv with rfl|⟨p1,p2,p3⟩|⟨k',g',pk,iG,acw,ZY,c0',rfl,p2,rfl,p4,p5,p6,p7,_⟩|⟨k',p0,ps,p2,p3,p4,pq⟩
        ·cases bZ
        ·exact hs.ap i j _ y2 _ v b xk g5 g4 p1 p2 cI bZ
        ·exact hs.ap i j _ _ _ _ b xk g5 g4 p5 p4 cI bZ
        ·have wj:k≠k':=fun e=>by subst e;rw[g7] at p4;obtain rfl:=aae p4;cases pq;cases ps
         exact fK.ap k k' _ _ _ _ b wj g7 g6 p4 p3 cI ((pq.solid ps).1 _ _ bZ)
       ·rcases oW hz hv with rfl|⟨p1,p2,p3⟩|⟨k',g',pk,iG,acw,ZY,c0',rfl,p2,rfl,p4,p5,p6,p7,_⟩|⟨k',p0,ps,p2,p3,p4,pq⟩
        ·cases bZ
        ·obtain⟨q1,q2⟩:=pP p1 p2 p3 bZ;rcases aaj g3 g4 ((gq.solid gs).1 _ _ cI) with q|q
         ·omega
         ·exact q2 q
        ·have wj:k≠k':=fun e=>by subst e;rw[p7] at g4;obtain rfl:=aae g4;cases gq;cases gs
         exact fK.ap k k' _ _ _ _ b wj g4 g3 p7 p6 ((gq.solid gs).1 _ _ cI) bZ
        ·exact fK.ap k k' _ _ _ _ b (fun e=>xk (by omega)) g4 g3 p4 p3 ((gq.solid gs).1 _ _ cI) ((pq.solid ps).1 _ _ bZ)
      ·intro i y u b hy hu hb;have aci:M b→cx.w0.heap.size≤b∨cx.M b:=fun hm=>by
        obtain⟨k,p,y',u',_,q2,q3,_,q5⟩:=hM b hm;exact(hs.nw p y' u' b q2 q3 q5).1
       rcases oW hy hu with rfl|⟨g1,g2,g3⟩|⟨k,g,ty,cs,xK,PU,c0,rfl,g2,rfl,g4,g5,g6,g7,_⟩|⟨k,g0,gs,g2,g3,g4,gq⟩
       ·cases hb
       ·refine⟨(hs.nw i y u b g1 g2 hb).1,fun q=>?_⟩;obtain⟨p1,_⟩:=pP g1 g2 g3 hb;rcases(fK.s b q).2 with q|q|q
        ·exact(hs.nw i y u b g1 g2 hb).2 q
        ·have:w.heap.size≤b:=q;omega
        ·exact(pP g1 g2 g3 hb).2 q
       ·exact⟨(hs.nw i _ _ b g5 g4 hb).1,(fK.nw k _ _ b g7 g6 hb).2⟩
       ·obtain⟨q1,q2⟩:=fK.nw k _ _ b g4 g3 ((gq.solid gs).1 _ _ hb);refine⟨?_,q2⟩;rcases q1 with q1|q1
        ·exact .inl (aa7 hs.size q1)
        ·exact aci q1
      ·obtain⟨q1,q2⟩:=fK.s b q;refine⟨q1,?_⟩;rcases q2 with q2|q2|⟨k,y,u,p1,p2,p3⟩
       ·exact(hs.s b q2).2
       ·exact .inr (.inl (aa7 hs.size q2))
       ·obtain⟨_,p,y',u',_,p4,p5,_,p6⟩:=hM b ⟨k,y,u,p1,p2,p3⟩;exact .inr (hs.nw p y' u' b p4 p5 p6).1
      ·refine(hold b (abw q1 hs.size) fun hm=>?_).trans (hs.old b q1 q2);obtain⟨k,p,y',u',_,g2,g3,_,g5⟩:=hM b hm;rcases(hs.nw p y' u' b g2 g3 g5).1 with g|g
       ·omega
       ·exact q2 g
     exact hK v w' (bs++bm) S' et U3 bS ww (XR.free wo hr)
    ·exact h2.elim
   ·exact h.elim
  ·exact h.elim
 ·exact h.elim
end
def Ur (ys:List ai):Bool:=ys.all fun
 | .cells _ _=>true
 | .dead=>true
 | _=>false
def V3 (ys:List ai):List Nat:=(List.range ys.length).filter fun i=>match ys[i]? with
 | some (.row _ _ _)=>false
 | some _=>true
 | _=>false
def Hk:AV→Option Nat
 | .any j=>some j
 | _=>none
def Dy (pb:List Nat):List AV→List AV→Bool
 | [],[]=>true
 | a::l,b::m=>(match Hk b with
  | some j=>Hk a==some j&&pb.contains j
  | none=>b.free)&&Dy pb l m
 | _,_=>false
def mrg:List AV→List AV→List AV
 | a::l,b::m=>(match Hk b with
  | some _=>a
  | none=>b)::mrg l m
 | _,_=>[]
def setL (pb:List Nat) (H:List ai):List (Option Nat)→List ai→List ai→Option (List (Nat×ai))
 | [],[],[]=>some []
 | i::ids,x::xs,y::ys=>match x,y with
  | .dead,.dead=>setL pb H ids xs ys
  | .cells ty cs,.cells pk iG=>match i.bind (H[·]?),i with
   | some (.cells _ c0),some o=>if pk=ty∧Dy pb cs iG=true then(setL pb H ids xs ys).map fun l=>(o,.cells ty (mrg c0 iG))::l else none
   | _,_=>none
  | _,_=>none
 | _,_,_=>none
def MI:CS→Bool
 | .d _=>true
 | .any=>true
 | _=>false
def aaE (l:List (Nat×SS)):Bool:=l.all fun p=>match p.2 with
 | .c s=>MI s
 | .box _ cs=>cs.all MI
 | .st _=>true
 | .fn _=>true
 | .rf _=>true
 | .cl _ _=>true
 | .sb _ _=>false
def FA {P:Program} (E:Em P) (_:Env) (H:List ai) (xs:Option (List XV)):T (XV×List (Nat×ai)):=match xs with
 | some xs=>match BN H (qM 0 xs) E.l0 with
  | some (x,ids)=>if OD P E.f&&If ids&&xs.length==E.l0.length&&V3 (di E.l0 x).heap==E.pb&&Ur (di E.l0 x).heap then (E.F x).bind fun q=>if q.1.free then T.op ((setL E.pb H ids (di E.l0 x).heap (di E.lr q.2).heap).map fun l=>(q.1,l)) else .bad
   else .bad
  | none=>.bad
 | none=>.bad
section
variable {P:Program} {o:Oper} {cx:Cx} {bs:List Value} {w:World} {S:Nat→Prop} {H Hv:List ai} {m:Nat} {env:Env} {a:Act} {K:Act→World→Prop} {Q:Exit→Act→World→Prop}
theorem Gv (hv:xa Hv H) {t:Ty} {e:TypeId} {b:AV} {r:List (El t)×List (Option Nat)} (h:VW Hv t e b=some r):VW H t e b=some r:=by
 unfold VW at h ⊢;split at h
 ·split at h
  ·rename_i hH;rcases hv.2 _ _ hH with q|q
   ·cases q
   ·simp only[q];exact h
  ·cases h
 ·exact h
 ·cases h
theorem BL (hv:xa Hv H):∀{l:List ZS} {qs:List AV} {r:AT l×List (Option Nat)},BM Hv l qs=some r→BM H l qs=some r
 | [],[],_,h=>h
 | s::l,b::qs,r,h=>by
  have one:∀{x:ZV s×List (Option Nat)},rdZ Hv s b=some x→rdZ H s b=some x:=fun {x} h=>by
   cases s with
   | d t=>exact h
   | own t e=>exact Gv hv h
   | any=>exact h
  unfold BM at h ⊢;cases e1:rdZ Hv s b with
  | none=>rw[e1] at h;cases h
  | some x=>
   cases e2:BM Hv l qs with
   | none=>rw[e1,e2] at h;cases h
   | some y=>
    rw[e1,e2] at h;rw[one e1,BL hv e2];exact h
 | [],_::_,_,h=>by cases h
 | _::_,[],_,h=>by cases h
theorem GA (hv:xa Hv H) {s:CS} {b:AV} {r:CV s×List (Option Nat)} (h:YW Hv s b=some r):YW H s b=some r:=by
 cases s with
 | d t=>exact h
 | own t e=>exact Gv hv h
 | any=>exact h
 | zc t tn e=>
  have h:Jo Hv t tn e b=some r:=h;show Jo H t tn e b=some r;unfold Jo at h ⊢;split at h
  ·split at h
   ·rename_i hH;rcases hv.2 _ _ hH with q|q
    ·cases q
    ·simp only[q];exact h
   ·cases h
  ·cases h
 | zip t tn e zs=>
  have h:xW Hv t tn e zs b=some r:=h;show xW H t tn e zs b=some r;unfold xW at h ⊢;split at h
  ·split at h
   ·rename_i hH;rcases hv.2 _ _ hH with q|q
    ·cases q
    ·simp only[q];split at h
     ·rename_i hp;simp only[*,BL hv hp];rfl
     ·cases h
   ·cases h
  ·cases h
 | mp kt t=>
  have h:Jq Hv kt t b=some r:=h;show Jq H kt t b=some r;unfold Jq at h ⊢;split at h
  ·split at h
   ·rename_i hH;simp only[mj hv hH (fun e=>by cases e)];exact h
   ·cases h
  ·cases h
 | mr kt t e=>
  have h:Jp Hv kt t e b=some r:=h;show Jp H kt t e b=some r;unfold Jp at h ⊢;split at h
  ·split at h
   ·rename_i hH;simp only[mj hv hH (fun e=>by cases e)];split at h
    ·rename_i hQ;simp only[mj hv hQ (fun e=>by cases e)];exact h
    ·cases h
   ·cases h
  ·cases h
theorem BP (hv:xa Hv H):∀{l:List CS} {qs:List AV} {r:fc l×List (Option Nat)},xv Hv l qs=some r→xv H l qs=some r
 | [],[],_,h=>h
 | s::l,b::qs,r,h=>by
  unfold xv at h ⊢;cases e1:YW Hv s b with
  | none=>rw[e1] at h;cases h
  | some x=>
   cases e2:xv Hv l qs with
   | none=>rw[e1,e2] at h;cases h
   | some y=>
    rw[e1,e2] at h;rw[GA hv e1,BP hv e2];exact h
 | [],_::_,_,h=>by cases h
 | _::_,[],_,h=>by cases h
theorem QS (hv:xa Hv H) {s:SS} {b:XV} {r:SW s×List (Option Nat)} (h:QV Hv s b=some r):QV H s b=some r:=by
 cases s with
 | c s=>
  cases b with
  | one c=>exact GA hv (s:=s) (r:=r) h
  | _=>cases h
 | st k=>exact h
 | fn k=>exact h
 | rf k=>exact h
 | cl k t=>exact h
 | sb o o2=>exact h
 | box ty cs=>
  have h:YX Hv ty cs b=some r:=h;show YX H ty cs b=some r;unfold YX at h ⊢;split at h
  ·split at h
   ·rename_i hH;rcases hv.2 _ _ hH with q|q
    ·cases q
    ·simp only[q];split at h
     ·rename_i e;rw[if_pos e];cases e2:xv Hv cs _ with
      | none=>rw[e2] at h;cases h
      | some y=>rw[e2] at h;rw[BP hv e2];exact h
     ·cases h
   ·cases h
  ·cases h
theorem Gx (hv:xa Hv H):∀{l:List (Nat×SS)} {r:ct l×List (Option Nat)},Gy Hv env l=some r→Gy H env l=some r
 | [],_,h=>h
 | p::l,r,h=>by
  unfold Gy at h ⊢;cases e1:env.lookup p.1 with
  | none=>rw[e1] at h;cases h
  | some b=>
   rw[e1] at h;cases e2:QV Hv p.2 b with
   | none=>
    have h:(match QV Hv p.2 b,Gy Hv env l with|some x,some y=>some (((x.1,y.1),x.2++y.2):ct (p::l)×List (Option Nat))|_,_=>none)=some r:=h;rw[e2] at h;cases h
   | some x=>
    have h:(match QV Hv p.2 b,Gy Hv env l with|some x,some y=>some (((x.1,y.1),x.2++y.2):ct (p::l)×List (Option Nat))|_,_=>none)=some r:=h;show(match QV H p.2 b,Gy H env l with|some x,some y=>some (((x.1,y.1),x.2++y.2):ct (p::l)×List (Option Nat))|_,_=>none)=some r;cases e3:Gy Hv env l with
    | none=>rw[e2,e3] at h;cases h
    | some y=>
     rw[e2,e3] at h;rw[QS hv e2,Gx hv e3];exact h
theorem uX (hv:xa Hv H) {pb:List Nat}:∀{ids:List (Option Nat)} {xs ys:List ai} {l:List (Nat×ai)},setL pb Hv ids xs ys=some l→setL pb H ids xs ys=some l
 | [],[],[],_,h=>h
 | i::ids,x::xs,y::ys,l,h=>by
  unfold setL at h ⊢;split at h
  ·exact uX hv h
  ·rename_i ty cs pk iG;split at h
   ·rename_i t0 c0 o hi;have Hs:H[o]?=some (.cells t0 c0):=by
     rcases hv.2 o _ hi with q|q
     ·cases q
     ·exact q
    have:((some o:Option Nat).bind fun x=>H[x]?)=some (.cells t0 c0):=Hs;simp only[this];split at h
    ·rename_i hc;rw[if_pos hc];cases e:setL pb Hv ids xs ys with
     | none=>rw[e] at h;cases h
     | some q=>rw[e] at h;rw[uX hv e];exact h
    ·cases h
   ·cases h
  ·cases h
 | [],[],_::_,_,h=>by cases h
 | [],_::_,_,_,h=>by cases h
 | _::_,[],_,_,h=>by cases h
 | _::_,_::_,[],_,h=>by cases h
theorem Mo (hv:xa Hv H) {l:List (Nat×SS)} {r:ct l×List (Option Nat)} (h:BN Hv env l=some r):BN H env l=some r:=by
 unfold BN at h ⊢;split at h
 ·rename_i hl;rw[if_pos hl];exact Gx hv h
 ·cases h
theorem OQ (hv:xa Hv H) {E:Em P} {xs:Option (List XV)} {r:XV×List (Nat×ai)} (h:(FA E env Hv xs).hit r):(FA E env H xs).hit r:=by
 unfold FA at h ⊢;cases xs with
 | none=>exact h.elim
 | some xs=>
  simp only at h ⊢;cases e:BN Hv (qM 0 xs) E.l0 with
  | none=>rw[e] at h;exact h.elim
  | some p=>
   rw[e] at h;rw[Mo hv e];obtain⟨x,ids⟩:=p;simp only at h ⊢;split at h
   ·rename_i hc;rw[if_pos hc];have key:∀{t:T (XV×ct E.lr)},(t.bind fun q=>if q.1.free then T.op ((setL E.pb Hv ids (di E.l0 x).heap (di E.lr q.2).heap).map fun l=>(q.1,l)) else .bad).hit r→(t.bind fun q=>if q.1.free then T.op ((setL E.pb H ids (di E.l0 x).heap (di E.lr q.2).heap).map fun l=>(q.1,l)) else .bad).hit r:=by
     intro t;induction t with
     | lf q=>
      intro h;have h:(if q.1.free then T.op ((setL E.pb Hv ids (di E.l0 x).heap (di E.lr q.2).heap).map fun l=>(q.1,l)) else .bad).hit r:=h;show(if q.1.free then T.op ((setL E.pb H ids (di E.l0 x).heap (di E.lr q.2).heap).map fun l=>(q.1,l)) else .bad).hit r;split at h
      ·rename_i hf;rw[if_pos hf];cases e2:setL E.pb Hv ids (di E.l0 x).heap (di E.lr q.2).heap with
       | none=>rw[e2] at h;exact h.elim
       | some l=>rw[e2] at h;rw[uX hv e2];exact h
      ·exact h.elim
     | br b x y hx hy=>exact fun h=>⟨fun q=>hx (h.1 q),fun q=>hy (h.2 q)⟩
     | nd p t ht=>exact fun h=>⟨h.1,ht h.2⟩
     | bad=>exact fun h=>h
    exact key h
   ·exact h.elim
theorem uY {pb:List Nat}:∀{ids:List (Option Nat)} {xs ys:List ai} {l:List (Nat×ai)},setL pb H ids xs ys=some l→ids.length=xs.length∧ids.length=ys.length∧(∀p∈l,∃(k:Nat) (ty t0:TypeId) (cs iG c0:List AV),ids[k]?=some (some p.1)∧xs[k]?=some (.cells ty cs)∧ys[k]?=some (.cells ty iG)∧H[p.1]?=some (.cells t0 c0)∧Dy pb cs iG=true∧p.2=.cells ty (mrg c0 iG))∧ ∀(k:Nat) (ty:TypeId) (cs:List AV),xs[k]?=some (.cells ty cs)→∃p∈l,ids[k]?=some (some p.1)
 | [],[],[],l,h=>by
  injection h with h
  subst h;exact⟨rfl,rfl,(fun p hp=>by cases hp),fun k ty cs hk=>by cases hk⟩
 | i::ids,x::xs,y::ys,l,h=>by
  unfold setL at h;split at h
  ·obtain⟨h1,h2,h3,h4⟩:=uY h;refine⟨by simp[h1],by simp[h2],fun p hp=>?_,fun k ty cs hk=>?_⟩
   ·obtain⟨k,ty,t0,cs,iG,c0,q1,q2,q3,q⟩:=h3 p hp;exact⟨k+1,ty,t0,cs,iG,c0,by simpa using q1,by simpa using q2,by simpa using q3,q⟩
   ·cases k with
    | zero=>cases hk
    | succ k=>
     obtain⟨p,hp,hq⟩:=h4 k ty cs (by simpa using hk);exact⟨p,hp,by simpa using hq⟩
  ·rename_i ty cs pk iG;split at h
   ·rename_i t0 c0 o hi;split at h
    ·rename_i hc;obtain⟨rfl,hc⟩:=hc;cases e:setL pb H ids xs ys with
     | none=>rw[e] at h;cases h
     | some q=>
      rw[e] at h;injection h with h
      subst h;obtain⟨h1,h2,h3,h4⟩:=uY e;have hi:H[o]?=some (.cells t0 c0):=hi;refine⟨by simp[h1],by simp[h2],fun p hp=>?_,fun k ty cs hk=>?_⟩
      ·rcases aba.1 hp with rfl|hp
       ·exact⟨0,pk,t0,cs,iG,c0,rfl,rfl,rfl,hi,hc,rfl⟩
       ·obtain⟨k,ty,t0,cs,iG,c0,q1,q2,q3,q⟩:=h3 p hp;exact⟨k+1,ty,t0,cs,iG,c0,by simpa using q1,by simpa using q2,by simpa using q3,q⟩
      ·cases k with
       | zero=>exact⟨_,aaS,rfl⟩
       | succ k=>
        obtain⟨p,hp,hq⟩:=h4 k ty cs (by simpa using hk);exact⟨p,aa9 _ hp,by simpa using hq⟩
    ·cases h
   ·cases h
  ·cases h
 | [],[],_::_,_,h=>by cases h
 | [],_::_,_,_,h=>by cases h
 | _::_,[],_,_,h=>by cases h
 | _::_,_::_,[],_,h=>by cases h
theorem MS {bs bm us:List Value} {w w':World} {S S':Nat→Prop} {pb:List Nat} (hS:∀b,S b→S' b) (hk:aA S w w') (han:∀(i:Nat) (v:Value),i∈pb→us[i]?=some v→v7 v=true→bm[i]?=some v) : ∀{c0 cs iG:List AV} {vs Qo:List Value},Dy pb cs iG=true→F2 (VR bs w S) c0 vs→F2 (VR us w S) cs vs→F2 (VR bm w' S') iG Qo→F2 (VR bs w' S') (mrg c0 iG) Qo
 | c0,[],[],vs,Qo,_,h1,h2,h3=>by
  cases h2;cases h1;cases h3;exact .nil
 | c0,x::cs,y::iG,vs,Qo,h,h1,h2,h3=>by
  cases h2 with
  | @cons _ v _ vs g1 g2=>
   cases h1 with
   | @cons z _ c0 _ f1 f2=>
    cases h3 with
    | @cons _ v' _ Qo k1 k2=>
     unfold Dy at h;rw[aaO] at h;refine .cons ?_ (MS hS hk han h.2 f2 g2 k2);have h:=h.1;cases e:Hk y with
     | some j=>
      rw[e] at h;simp only[aaO,beq_iff_eq] at h;obtain⟨h0,hp⟩:=h;obtain rfl:y=.any j:=by cases y<;>first|(injection e with e;subst e;rfl)|cases e
      obtain rfl:x=.any j:=by cases x<;>first|(injection h0 with h0;subst h0;rfl)|cases h0
      have e1:=han j v (by simpa using hp) g1.1 (Iv g1.2);rw[k1.1] at e1;obtain rfl:=aae e1;exact f1.keep hS hk (jq.refl _)
     | none=>
      rw[e] at h;exact VR.free h k1
 | _,[],_::_,_,_,h,_,_,_=>by cases h
 | _,_::_,[],_,_,h,_,_,_=>by cases h
theorem Mv {ys:List ai} (hn:Ur ys=true) {i:Nat} (hi:i<ys.length):i∈V3 ys:=by
 unfold V3;rw[adm,abM];refine⟨hi,?_⟩;rw[aac hi];have:=abq.1 hn _ (ab7 hi);split
 ·rename_i e;injection e with e;rw[e] at this;cases this
 ·rfl
 ·rename_i h1 h2;exact(h2 _ rfl).elim
theorem Cm {i:Nat} {y:ai}:∀{l:List (Nat×ai)},fe l i=some y→(i,y)∈l
 | p::l,h=>by
  have h:(match fe l i with|some y=>some y|none=>if p.1=i then some p.2 else none)=some y:=h;cases e:fe l i with
  | some u=>rw[e] at h;obtain rfl:=aae h;exact aa9 _ (Cm e)
  | none=>
   rw[e] at h;simp only at h;split at h
   ·rename_i e2;have h:=aae h;rw[←e2,←h];exact aaS
   ·cases h
theorem Cl {i:Nat}:∀{l:List (Nat×ai)},fe l i=none→∀p∈l,p.1≠i
 | q::l,h,p,hp=>by
  have h:(match fe l i with|some y=>some y|none=>if q.1=i then some q.2 else none)=none:=h;cases e:fe l i with
  | some u=>rw[e] at h;cases h
  | none=>
   rw[e] at h;simp only at h;split at h
   ·cases h
   ·rename_i fv;rcases aba.1 hp with rfl|hp
    ·exact fv
    ·exact Cl e p hp
theorem Ic (hs:HS cx bs w S H) (he:ER m bs w S env a) {E:Em P} {args:Array Operand} {ts:Array TypeId} (hop:o.op=.call { callee:=.value (.func E.f),args:=args,argTypes:=ts }) {r:XV×List (Nat×ai)} (h:(FA E env H (mZ env args.toList)).hit r) (hK:∀v w' S',HS cx bs w' S' (jb r.2 H)→(∀b,S b→S' b)→aA S w w'→XR bs w' S' r.1 v→K (a.put o.dst v) w'):o.wp P a w K Q:=by
 unfold FA at h;split at h
 ·rename_i xs NC;split at h
  ·rename_i x ids P7;split at h
   ·rename_i hc;simp only[aaO,beq_iff_eq] at hc;obtain⟨⟨⟨⟨hfn,lQ⟩,bM⟩,np⟩,hnr⟩:=hc;obtain⟨q,h1,h2⟩:=T.hit_bind h;split at h2
    ·rename_i wo;obtain⟨r0,z⟩:=q;have h2:=T.hit_op h2;cases Al:setL E.pb H ids (di E.l0 x).heap (di E.lr z).heap with
     | none=>
      have h2:Option.map _ (setL E.pb H ids (di E.l0 x).heap (di E.lr z).heap)=some r:=h2;rw[Al] at h2;cases h2
     | some l=>
     have h2:Option.map _ (setL E.pb H ids (di E.l0 x).heap (di E.lr z).heap)=some r:=h2;rw[Al] at h2;have h2:(r0,l)=r:=aae h2;subst h2;have wo:r0.free=true:=wo;obtain⟨sl1,sl2,sl3,sl4⟩:=uY Al;have ha:=l9 he NC;have UT:ER xs.length bs w S (qM 0 xs) ⟨(args.toList.map a.eval).toArray,[]⟩:=by
      refine⟨rfl,by show(args.toList.map a.eval).toArray.size=_;rw[abW,ha.length],uy ha fun j v hj=>?_⟩;rw[ace];simpa using hj
     obtain⟨P7,P6⟩:=Gw P7;obtain⟨us,re,kk⟩:=zE hs UT P7 0;obtain⟨k1,k2⟩:=kk us (fun j u hj=>by rw[ace];exact hj) (P6 _ _);have rl:=re.len
     let M:Nat→Prop:=fun b=>∃(k:Nat) (y:ai) (u:Value),(di E.l0 x).heap[k]?=some y∧us[k]?=some u∧Bk y u b
     have hM:∀b,M b→∃(k p:Nat) (y:ai) (u:Value),ids[k]?=some (some p)∧(∃ty cs,(di E.l0 x).heap[k]?=some (.cells ty cs))∧H[p]?=some y∧bs[p]?=some u∧us[k]?=some u∧Bk y u b:=by
      rintro b ⟨k,y,u,g1,g2,g3⟩;have uh:∃ty cs,(di E.l0 x).heap[k]?=some (.cells ty cs):=by
       have:=abq.1 hnr y (acS g1);cases y with
       | cells ty cs=>exact⟨ty,cs,g1⟩
       | dead=>cases g3
       | _=>cases this
      rcases re.get k y u g1 g2 with⟨p,x1,q1,q2,q3,q4⟩|⟨_,q⟩
      ·exact⟨k,p,x1,u,q1,uh,q2,q3,g2,AP q4 g3⟩
      ·exact absurd g3 (q b)
     have hMS:∀b,M b→¬S b:=fun b hb=>by
      obtain⟨k,p,y,u,_,_,g2,g3,_,g5⟩:=hM b hb;exact(hs.nw p y u b g2 g3 g5).2
     have hM0:∀b,M b→cx.w0.heap.size≤b∨cx.M b:=fun b hb=>by
      obtain⟨k,p,y,u,_,_,g2,g3,_,g5⟩:=hM b hb;exact(hs.nw p y u b g2 g3 g5).1
     let cx':Cx:=⟨w,S,M,us,E.pb,fun w2 h1 h2 h3 h4 h5=>cx.wk w2 (aa7 hs.size h1) (h2.trans hs.os) (h3.trans hs.tape) (h4.trans hs.output) fun b hb hm=>(h5 b (abw hb hs.size) fun q=>(hM0 b q).elim (fun q=>by omega) hm).trans (hs.old b hb hm)⟩
     have hsc:HS cx' us w S (di E.l0 x).heap:=by
      refine⟨rl.2,fun i y v hy hv=>k2 i y v hy hv,?_,?_,fun b q=>⟨(hs.s b q).1,.inl q⟩,fun _ h=>h,rfl,rfl,rfl,aaW _,fun _ _ _=>rfl,fun _ _ _ h _=>h⟩
      ·intro i j y y2 u v b xk hy hu hz hv cI bZ;rcases re.get i y u hy hu with⟨p,x1,q1,q2,q3,q4⟩|⟨_,q⟩
       ·rcases re.get j y2 v hz hv with⟨p',x2,q5,q6,q7,q8⟩|⟨_,q⟩
        ·exact hs.ap p p' x1 x2 u v b (fun ep=>xk (CX lQ q1 (ep▸q5))) q2 q3 q6 q7 (AP q4 cI) (AP q8 bZ)
        ·exact absurd bZ (q b)
       ·exact absurd cI (q b)
      ·intro i y u b hy hu hb;exact⟨.inr ⟨i,y,u,hy,hu,hb⟩,hMS b ⟨i,y,u,hy,hu,hb⟩⟩
     have N9:∀i y,(i,y)∈(di E.l0 x).env→∃v,(args.toList.map a.eval)[i]?=some v∧XR us w S y v:=fun i y hy=>by
      obtain⟨v,q1,q2⟩:=k1 i y hy;exact⟨v,by simpa using q1,q2⟩
     have bO:=E.ok cx' us S _ x r0 z rfl (fun _ h=>h) hsc N9 (by rw[←ha.length];exact bM) h1;unfold Oper.wp execOp;have hev:a.eval (.func E.f)=.func (.func E.f) #[] #[]:=rfl;have qO:(args.toList.map a.eval).toArray=args.map a.eval:=by rw[←adv]
     simp only[hop,resolve,hev,Deferred.ofValue,Sem.run_bind,Sem.run_pure,Result.andThen_ok,invoke,Array.empty_append,Array.append_empty,mB hfn,Oper.upon_enter];rw[←qO];refine bO.mono fun e w' yG=>?_;obtain⟨v,bm,S',rfl,fK,hr⟩:=yG;have U3:∀b,S b→S' b:=fK.s0;have hold:∀b,b<w.heap.size→¬M b→w'.heap[b]?=w.heap[b]?:=fK.old;have bS:aA S w w':=fun p hp=>hold p (hs.s _ hp).1 fun hm=>hMS _ hm hp;have han:∀(i:Nat) (v:Value),i∈E.pb→us[i]?=some v→v7 v=true→bm[i]?=some v:=fK.an;have Oo:∀{p:Nat×ai},p∈l→∃(k g:Nat) (ty t0:TypeId) (cs iG c0:List AV),ids[k]?=some (some p.1)∧p.2=.cells ty (mrg c0 iG)∧bs[p.1]?=some (.pointer (some ⟨g,0,none⟩))∧bm[k]?=some (.pointer (some ⟨g,0,none⟩))∧H[p.1]?=some (.cells t0 c0)∧(di E.l0 x).heap[k]?=some (.cells ty cs)∧us[k]?=some (.pointer (some ⟨g,0,none⟩))∧(di E.lr z).heap[k]?=some (.cells ty iG)∧OR bs w' S' p.2 (.pointer (some ⟨g,0,none⟩)):=by
      intro p hp;obtain⟨k,ty,t0,cs,iG,c0,g1,g2,g3,g4,g5,g6⟩:=sl3 p hp;have J0:k<us.length:=by rw[rl.2];exact(aab.1 g2).1
      obtain⟨g,vs,hu,cI,Fo⟩:=k2 k _ _ g2 (aac J0);have Y8:us[k]?=some (.pointer (some ⟨g,0,none⟩)):=by rw[aac J0,hu]
      have Ap:k∈E.pb:=by rw[←np];exact Mv hnr (aab.1 g2).1
      have bZ:=han k _ Ap Y8 rfl;obtain⟨g',Qo,e2,kD,hf2⟩:=fK.o k _ _ g3 bZ;injection e2 with e2
      injection e2 with e2
      injection e2 with e2
      subst e2;rcases re.get k _ _ g2 Y8 with⟨p',x1,q1,q2,q3,q4⟩|⟨q1,_⟩
      ·rw[g1] at q1;obtain rfl:=aae (aae q1);obtain⟨g',vs0,e2,hb0,hf0⟩:=hs.o _ _ _ g4 q3;injection e2 with e2
       injection e2 with e2
       injection e2 with e2
       subst e2;have:vs0=vs:=by
        have h1:dy w g t0 vs0.toArray:=hb0;have h2:dy w g ty vs.toArray:=cI;have h1:w.heap[g]?=_:=h1;have h2:w.heap[g]?=_:=h2;rw[h1] at h2;injection h2 with h2
        injection h2 with h2
        injection h2 with h2
       subst this;exact⟨k,g,ty,t0,cs,iG,c0,g1,g6,q3,bZ,g4,g2,Y8,g3,by rw[g6];exact⟨g,Qo,rfl,kD,MS U3 bS han g5 hf0 Fo hf2⟩⟩
      ·rw[g1] at q1;cases q1
     have oW:∀{i:Nat} {y:ai},(jb l H)[i]?=some y→(H[i]?=some y∧∀p∈l,p.1≠i)∨(i,y)∈l:=by
      intro i y hy;have KZ:i<H.length:=by have:=(aab.1 hy).1;rwa [gm] at this
      rw[lD (aac KZ)] at hy;cases e:fe l i with
      | none=>rw[e] at hy;left;exact⟨by rw[aac KZ];exact hy,Cl e⟩
      | some u=>
       rw[e] at hy;right;have:u=y:=by simpa using hy
       subst this;exact Cm e
     have pP:∀{i:Nat} {y:ai} {u:Value} {b:Nat},H[i]?=some y→bs[i]?=some u→(∀p∈l,p.1≠i)→Bk y u b→b<w.heap.size∧¬M b:=by
      intro i y u b g1 g2 g3 g4;refine⟨(hs.o i y u g1 g2).lt g4,fun hm=>?_⟩;obtain⟨k,p,y',u',q1,⟨ty,cs,qc⟩,q2,q3,_,q5⟩:=hM b hm;refine hs.ap i p y y' u u' b (fun e=>?_) g1 g2 q2 q3 g4 q5;subst e;obtain⟨p',hp',KW⟩:=sl4 k ty cs qc;rw[q1] at KW;exact g3 p' hp' (aae (aae KW)).symm
     have et:HS cx bs w' S' (jb l H):=by
      refine⟨by rw[gm];exact hs.len,?_,?_,?_,fun b q=>?_,fun b q=>U3 b (hs.s0 b q),fK.os.trans hs.os,fK.tape.trans hs.tape,fK.output.trans hs.output,aa7 hs.size fK.size,fun b q1 q2=>?_,hs.an⟩
      ·intro i y u hy hu;rcases oW hy with⟨g1,g3⟩|g
       ·exact(hs.o i y u g1 hu).same (fun b hb=>hold b (pP g1 hu g3 hb).1 (pP g1 hu g3 hb).2) fK.size bS U3 (fun b q=>⟨(fK.s b q).1,fun e=>by
         obtain⟨p1,_⟩:=pP g1 hu g3 e;rcases(fK.s b q).2 with q|q|q
         ·exact(hs.nw i y u b g1 hu e).2 q
         ·have:w.heap.size≤b:=q;omega
         ·exact(pP g1 hu g3 e).2 q⟩) (jq.refl _)
       ·obtain⟨k,g,ty,t0,cs,iG,c0,_,_,q3,_,_,_,_,_,q8⟩:=Oo g;have q3:bs[i]?=_:=q3;rw[hu] at q3;obtain rfl:=aae q3;exact q8
      ·intro i j y y2 u v b xk hy hu hz hv cI bZ;have old:∀{i:Nat} {y:ai} {u:Value},(jb l H)[i]?=some y→bs[i]?=some u→Bk y u b→∃y',H[i]?=some y'∧Bk y' u b:=by
        intro i y u hy hu hb;rcases oW hy with⟨g1,_⟩|g
        ·exact⟨y,g1,hb⟩
        ·obtain⟨k,g,ty,t0,cs,iG,c0,_,q2,q3,_,q5,_⟩:=Oo g;have q2:y=_:=q2;have q3:bs[i]?=_:=q3;rw[hu] at q3;obtain rfl:=aae q3;subst q2;exact⟨_,q5,hb⟩
       obtain⟨y',g1,g2⟩:=old hy hu cI;obtain⟨y2',g3,g4⟩:=old hz hv bZ;exact hs.ap i j y' y2' u v b xk g1 hu g3 hv g2 g4
      ·intro i y u b hy hu hb;rcases oW hy with⟨g1,g3⟩|g
       ·refine⟨(hs.nw i y u b g1 hu hb).1,fun q=>?_⟩;obtain⟨p1,_⟩:=pP g1 hu g3 hb;rcases(fK.s b q).2 with q|q|q
        ·exact(hs.nw i y u b g1 hu hb).2 q
        ·have:w.heap.size≤b:=q;omega
        ·exact(pP g1 hu g3 hb).2 q
       ·obtain⟨k,g,ty,t0,cs,iG,c0,_,q2,q3,q4,q5,_,_,q7,_⟩:=Oo g;have q2:y=_:=q2;have q3:bs[i]?=_:=q3;rw[hu] at q3;obtain rfl:=aae q3;subst q2;exact⟨(hs.nw i _ _ b q5 hu hb).1,(fK.nw k _ _ b q7 q4 hb).2⟩
      ·obtain⟨q1,q2⟩:=fK.s b q;refine⟨q1,?_⟩;rcases q2 with q2|q2|⟨k,y,u,p1,p2,p3⟩
       ·exact(hs.s b q2).2
       ·exact .inr (.inl (aa7 hs.size q2))
       ·obtain⟨_,p,y',u',_,_,p4,p5,_,p6⟩:=hM b ⟨k,y,u,p1,p2,p3⟩;exact .inr (hs.nw p y' u' b p4 p5 p6).1
      ·refine(hold b (abw q1 hs.size) fun hm=>?_).trans (hs.old b q1 q2);obtain⟨k,p,y',u',_,_,g2,g3,_,g5⟩:=hM b hm;rcases(hs.nw p y' u' b g2 g3 g5).1 with g|g
       ·omega
       ·exact q2 g
     exact hK v w' S' et U3 bS (XR.free wo hr)
    ·exact h2.elim
   ·exact h.elim
  ·exact h.elim
 ·exact h.elim
end
def fOf (o:Oper):Option FuncId:=match o.op with
 | .call { callee:=.value (.func f), .. }=>some f
 | _=>none
def X2 {P:Program} (Es:List (Em P)) (f:FuncId):Option (Em P):=Es.find? fun E=>E.f==f
def ve:List (Nat×SS)→List Operand→List Nat
 | (_,.c (.d _))::l,.tmp t::r=>t::ve l r
 | (_,.st _)::l,.tmp t::r=>t::ve l r
 | _::l,_::r=>ve l r
 | _,_=>[]
def d9 {P:Program} [hP:Zv P] (ty:TypeId→Option Ty) (D:List (Sm P)) (Es:List (Em P)):iZ P where
 ty:=ty
 D:=D
 isP:=hP
 eff o:=((fOf o).bind (X2 Es)).isSome
 x m o st:=match o.op with
  | .call { callee:=.value (.func f),args:=args, .. }=>match X2 Es f with
   | some E=>(fun st=>if aaE E.l0 then(FA E st.env st.heap (mZ st.env args.toList)).bind fun r=>.lf ⟨qx st.env o.dst (some r.1),jb r.2 st.heap⟩ else(X5 E st.env st.heap (mZ st.env args.toList)).bind fun r=>.lf ⟨qx st.env o.dst (some r.1),r.2⟩) ((ve E.l0 args.toList).foldl AB st)
   | none=>.bad
  | _=>.bad
 xok m o cx st dA a w K Q _ hd h cj hK:=by
  split at h
  ·rename_i f args ts hop;split at h
   ·rename_i E hE;have hf:E.f=f:=by have:=List.find?_some hE;simpa using this
    subst hf;obtain⟨bs,S,hs,he⟩:=AC (l:=ve E.l0 args.toList) cj;simp only at h;split at h
    ·obtain⟨r,h1,h2⟩:=T.hit_bind h;have h2:(⟨qx ((ve E.l0 args.toList).foldl AB st).env o.dst (some r.1),jb r.2 ((ve E.l0 args.toList).foldl AB st).heap⟩:dX)=dA:=h2;subst h2;exact Ic hs he hop h1 fun v w' S' q1 qS qk q3=>hK _ _ ⟨bs,S',q1,(he.keep qS qk (jq.refl _)).put o.dst (some r.1) v hd fun y hy=>by obtain rfl:=aae hy;exact q3⟩
    ·obtain⟨r,h1,h2⟩:=T.hit_bind h;have h2:(⟨qx ((ve E.l0 args.toList).foldl AB st).env o.dst (some r.1),r.2⟩:dX)=dA:=h2;subst h2;exact Te hs he hop h1 fun v w' bm S' q1 qS qk qa q3=>hK _ _ ⟨bm,S',q1,(he.keep qS qk qa).put o.dst (some r.1) v hd fun y hy=>by obtain rfl:=aae hy;exact q3⟩
   ·exact h.elim
  ·exact h.elim
 d o env H:=match o.op with
  | .call { callee:=.value (.func f),args:=args, .. }=>match X2 Es f with
   | some E=>FA E env H (mZ env args.toList)
   | none=>.bad
  | _=>.bad
 dok m o cx bs S env Hv Hf a w r K Q _ hv hs he h hK:=by
  split at h
  ·rename_i f args ts hop;split at h
   ·rename_i E hE;have hf:E.f=f:=by have:=List.find?_some hE;simpa using this
    subst hf;exact Ic hs he hop (OQ hv h) hK
   ·exact h.elim
  ·exact h.elim
section
variable {P:Program} {m:Nat} {loops:List Code} (R:Rg P m) (L:AU P R.fn m R.pb loops)
def fnE (n:Nat) (body:Code) (l0 lr:List (Nat×SS)) (x:ct l0):T (XV×ct lr):=(run R L n [.code 0 body] (di l0 x)).bind fun q=>match q with
 | .ret r st=>T.op ((oR R.pb lr st).map fun z=>(Qt r,z))
 | .nrm st=>if R.fn.results.toList.isEmpty then T.op ((oR R.pb lr st).map fun z=>(.tup [],z)) else .bad
 | _=>.bad
end
theorem Fz {P:Program} {fn:Func} {f:FuncId} {body:Code} {loops:List Code} (R:Rg P fn.ntmps) (L:AU P R.fn fn.ntmps R.pb loops) (SK:R.fn=fn) (agO:R.pb≠[]) (hf:P.funcs[f]?=some fn) (hb:fn.body=some body) (hl:loops=kC body) (n:Nat) (l0 lr:List (Nat×SS)) (F:ct l0→T (XV×ct lr)) (D5:l0.length≤fn.ntmps) (h:∀x r,La l0 x→(F x).hit r→(fnE R L n body l0 lr x).hit r):fV P f R.pb l0 lr F:=by
 intro cx bs S vs x r z np hS hs N9 Bc hr;have he:ER fn.ntmps bs cx.w0 S (di l0 x).env { tmps:=vs.toArray++Array.replicate (fn.ntmps-vs.toArray.size) undef,defers:=[] }:=by
  refine⟨rfl,?_,fun t y hy=>?_⟩
  ·show(vs.toArray++Array.replicate (fn.ntmps-vs.toArray.size) undef).size=_;rw[Array.size_append,Array.size_replicate,abW];omega
  ·obtain⟨v,hv,hx⟩:=N9 t y hy;refine⟨v,?_,hx⟩;show(vs.toArray++Array.replicate (fn.ntmps-vs.toArray.size) undef)[t]?=_;rw[Array.getElem?_append,if_pos (by rw[abW];exact(aab.1 hv).1)];simpa using hv
 obtain⟨q,h3,h4⟩:=T.hit_bind (h x (r,z) (Pp ⟨bs,S,hs,he⟩) hr);refine calls_of_wp hf hb (wp_mono (zl (cx:=cx) np h3 ⟨bs,S,hs,he⟩ fun j z hz=>by rw[hl,ace];exact hz) fun e a' w' hq=>?_);cases e with
 | ret=>
  obtain⟨r',dA,rfl,bm,S1,S',fK,yG,k1,k4,v,k2,k3⟩:=hq;have h4:=T.hit_op h4;cases e2:oR R.pb lr dA with
  | none=>rw[e2] at h4;cases h4
  | some z'=>
   rw[e2] at h4;injection h4 with h4
   injection h4 with e3 e4
   subst e3 e4;rw[SK] at k2;rw[←np] at e2;obtain⟨us,q1,_⟩:=nJ e2 fK yG;refine⟨yG.d,v,k2,v,us,S1,rfl,q1,(Gg k3).keep (fun b hb=>?_) (aA.refl _ _) (jq.refl _)⟩;rcases k4 with k4|k4
   ·exact absurd (np▸k4) agO
   ·exact k4 b hb
 | normal=>
  obtain⟨dA,rfl,bm,S1,fK,yG⟩:=hq;simp only at h4;split at h4
  ·rename_i qO;have h4:=T.hit_op h4;cases e2:oR R.pb lr dA with
   | none=>rw[e2] at h4;cases h4
   | some z'=>
    rw[e2] at h4;injection h4 with h4
    injection h4 with e3 e4
    subst e3 e4;rw[SK] at qO;rw[←np] at e2;obtain⟨us,q1,_⟩:=nJ e2 fK yG;have NJ:fn.results=#[]:=by
     have:fn.results.toList=[]:=List.isEmpty_iff.1 qO;rw[←acj (xs:=fn.results),this]
    exact⟨yG.d,_,results_none NJ _ _ _,_,us,S1,rfl,q1,[],rfl,.nil⟩
  ·exact h4.elim
 | exit id=>
  obtain⟨dA,rfl,_⟩:=hq;exact h4.elim
 | _=>exact hq.elim
end Go.Proofs.YtjlhbfbdcfajfaaGreatDoor
