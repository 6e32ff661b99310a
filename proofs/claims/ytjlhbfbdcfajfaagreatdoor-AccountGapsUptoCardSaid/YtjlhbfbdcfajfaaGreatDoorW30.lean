/- MEff MEfb -/
import Derived.Test.YtjlhbfbdcfajfaaGreatDoorW00
import Derived.Test.YtjlhbfbdcfajfaaGreatDoorW29
set_option maxHeartbeats 8000000
set_option maxRecDepth 100000
namespace Go.Proofs.YtjlhbfbdcfajfaaGreatDoor
open Go Go.RowKit
def gh (P:Program) (f:FuncId) (pb:List Nat) (l0 lr:List (Nat×SS)) (F:cA l0→T (XV×cA lr)):Prop:=
 ∀(cx:Cx) (bs:List Value) (S:Nat→Prop) (vs:List Value) (x:cA l0) (r:XV) (z:cA lr),cx.pb=pb→(∀b,S b→cx.S0 b)→HS cx bs cx.w0 S (du l0 x).heap→(∀i y,(i,y)∈(du l0 x).env→∃v,vs[i]?=some v∧XR bs cx.w0 S y v)→vs.length=l0.length→(F x).hit (r,z)→
  Calls P f vs.toArray cx.w0 fun e w'=>∃v bn S',e=.returned v∧HS cx bn w' S' (du lr z).heap∧XR [] w' S' r v
structure Em (P:Program) where
 f:FuncId
 pb:List Nat
 l0:List (Nat×SS)
 lr:List (Nat×SS)
 F:cA l0→T (XV×cA lr)
 ok:gh P f pb l0 lr F
def xi:List (Option Nat)→List aj→List aj
 | [],H=>H
 | some o::l,H=>xi l (H.set o .dead)
 | none::l,H=>xi l H
def setB:List (Option Nat)→List aj→List aj→List aj
 | some o::ids,.cells ty cs::ys,H=>setB ids ys (H.set o (.cells ty cs))
 | _::ids,_::ys,H=>setB ids ys H
 | _,_,H=>H
def aj.solid:aj→Bool
 | .row _ _ _=>true
 | .zc _ _ _ _ _ _=>true
 | .mp _ _ _ _=>true
 | .mq _=>true
 | .mr _ _ _ _ _ _=>true
 | _=>false
def zj:List aj→List aj
 | []=>[]
 | y::l=>(bif y.solid then y else .dead)::zj l
def QH (ids:List (Option Nat)) (H ys:List aj):List aj:=setB ids ys (xi ids H)++zj ys
section
variable {cx:Cx} {bs bn us:List Value} {w w':World} {S S':Nat→Prop} {H:List aj}
theorem o4:∀{ids:List (Option Nat)} {H:List aj},(xi ids H).length=H.length
 | [],_=>rfl
 | some o::l,H=>by show(xi l _).length=_;rw[o4,abF]
 | none::l,H=>o4 (ids:=l)
theorem tF:∀{ids:List (Option Nat)} {H:List aj} {i:Nat} {x:aj},(xi ids H)[i]?=some x→x=.dead∨(H[i]?=some x∧some i∉ids)
 | [],_,_,_,h=>.inr ⟨h,by simp⟩
 | some o::l,H,i,x,h=>by
  rcases tF (ids:=l) h with h|⟨h,hn⟩
  ·exact .inl h
  ·by_cases e:o=i
   ·subst e;have hl:=(aad.1 h).1;rw[abF] at hl;rw[abt hl] at h;exact .inl (aaZ h).symm
   ·rw[abj e] at h;exact .inr ⟨h,fun hm=>by rcases abq.1 hm with q|q;(· injection q with q;exact e q.symm);exact hn q⟩
 | none::l,H,i,x,h=>by
  rcases tF (ids:=l) (H:=H) h with h|⟨h,hn⟩
  ·exact .inl h
  ·exact .inr ⟨h,fun hm=>by rcases abq.1 hm with q|q;(· cases q);exact hn q⟩
theorem fZ:∀{ids:List (Option Nat)} {ys H:List aj},(setB ids ys H).length=H.length
 | some o::ids,.cells ty cs::ys,H=>by show(setB ids ys _).length=_;rw[fZ,abF]
 | some o::ids,.row t e rs::ys,H=>fZ (ids:=ids) (ys:=ys)
 | some o::ids,.dead::ys,H=>fZ (ids:=ids) (ys:=ys)
 | some o::ids,.zc _ _ _ _ _ _::ys,H=>fZ (ids:=ids) (ys:=ys)
 | some o::ids,.zip _ _ _ _ _ _ _ _::ys,H=>fZ (ids:=ids) (ys:=ys)
 | some o::ids,.mp _ _ _ _::ys,H=>fZ (ids:=ids) (ys:=ys)
 | some o::ids,.mq _::ys,H=>fZ (ids:=ids) (ys:=ys)
 | some o::ids,.mr _ _ _ _ _ _::ys,H=>fZ (ids:=ids) (ys:=ys)
 | some o::ids,.mx _ _ _ _ _ _ _::ys,H=>fZ (ids:=ids) (ys:=ys)
 | none::ids,_::ys,H=>fZ (ids:=ids) (ys:=ys)
 | [],_,H=>by unfold setB;rfl
 | some _::_,[],H=>by unfold setB;rfl
 | none::_,[],H=>by unfold setB;rfl
theorem gB:∀{ids:List (Option Nat)} {ys H:List aj} {i:Nat} {x:aj},(setB ids ys H)[i]?=some x→H[i]?=some x∨∃(k:Nat) (ty:TypeId) (cs:List AV),x=.cells ty cs∧ids[k]?=some (some i)∧ys[k]?=some (.cells ty cs)
 | some o::ids,.cells ty cs::ys,H,i,x,h=>by
  rcases gB (ids:=ids) (ys:=ys) h with h|⟨k,pX,iR,e,h1,h2⟩
  ·by_cases e:o=i
   ·subst e;have hl:=(aad.1 h).1;rw[abF] at hl;rw[abt hl] at h;exact .inr ⟨0,ty,cs,(aaZ h).symm,rfl,rfl⟩
   ·rw[abj e] at h;exact .inl h
  ·exact .inr ⟨k+1,pX,iR,e,h1,h2⟩
 | some o::ids,.row t e rs::ys,H,i,x,h=>by
  rcases gB (ids:=ids) (ys:=ys) (H:=H) h with h|⟨k,pX,iR,e,h1,h2⟩
  ·exact .inl h
  ·exact .inr ⟨k+1,pX,iR,e,h1,h2⟩
 | some o::ids,.dead::ys,H,i,x,h=>by
  rcases gB (ids:=ids) (ys:=ys) (H:=H) h with h|⟨k,pX,iR,e,h1,h2⟩
  ·exact .inl h
  ·exact .inr ⟨k+1,pX,iR,e,h1,h2⟩
 | some o::ids,.zc _ _ _ _ _ _::ys,H,i,x,h=>by
  rcases gB (ids:=ids) (ys:=ys) (H:=H) h with h|⟨k,pX,iR,e,h1,h2⟩
  ·exact .inl h
  ·exact .inr ⟨k+1,pX,iR,e,h1,h2⟩
 | some o::ids,.zip _ _ _ _ _ _ _ _::ys,H,i,x,h=>by
  rcases gB (ids:=ids) (ys:=ys) (H:=H) h with h|⟨k,pX,iR,e,h1,h2⟩
  ·exact .inl h
  ·exact .inr ⟨k+1,pX,iR,e,h1,h2⟩
 | some o::ids,.mp _ _ _ _::ys,H,i,x,h=>by
  rcases gB (ids:=ids) (ys:=ys) (H:=H) h with h|⟨k,pX,iR,e,h1,h2⟩
  ·exact .inl h
  ·exact .inr ⟨k+1,pX,iR,e,h1,h2⟩
 | some o::ids,.mq _::ys,H,i,x,h=>by
  rcases gB (ids:=ids) (ys:=ys) (H:=H) h with h|⟨k,pX,iR,e,h1,h2⟩
  ·exact .inl h
  ·exact .inr ⟨k+1,pX,iR,e,h1,h2⟩
 | some o::ids,.mr _ _ _ _ _ _::ys,H,i,x,h=>by
  rcases gB (ids:=ids) (ys:=ys) (H:=H) h with h|⟨k,pX,iR,e,h1,h2⟩
  ·exact .inl h
  ·exact .inr ⟨k+1,pX,iR,e,h1,h2⟩
 | some o::ids,.mx _ _ _ _ _ _ _::ys,H,i,x,h=>by
  rcases gB (ids:=ids) (ys:=ys) (H:=H) h with h|⟨k,pX,iR,e,h1,h2⟩
  ·exact .inl h
  ·exact .inr ⟨k+1,pX,iR,e,h1,h2⟩
 | none::ids,_::ys,H,i,x,h=>by
  rcases gB (ids:=ids) (ys:=ys) (H:=H) (by simpa[setB] using h) with h|⟨k,pX,iR,e,h1,h2⟩
  ·exact .inl h
  ·exact .inr ⟨k+1,pX,iR,e,h1,h2⟩
 | [],_,H,i,x,h=>by unfold setB at h;exact .inl h
 | some _::_,[],H,i,x,h=>by unfold setB at h;exact .inl h
 | none::_,[],H,i,x,h=>by unfold setB at h;exact .inl h
theorem zh:∀{ys:List aj},(zj ys).length=ys.length
 | []=>rfl
 | _::l=>by show(zj l).length+1=_;rw[zh];rfl
theorem zi:∀{ys:List aj} {i:Nat} {x:aj},(zj ys)[i]?=some x→x=.dead∨(ys[i]?=some x∧x.solid=true)
 | y::l,0,x,h=>by
  have h:(bif y.solid then y else .dead)=x:=aaZ h;cases e:y.solid with
  | true=>rw[e] at h;have h:y=x:=h;subst h;exact .inr ⟨rfl,e⟩
  | false=>rw[e] at h;exact .inl h.symm
 | _::l,i+1,x,h=>zi (ys:=l) (i:=i) (by simpa[zj] using h)
 | [],_,_,h=>by cases h
theorem vE.same {p n:Nat} {kt:Kt} {t:Ty} {e:TypeId} {f:kt.K→Option (List (El t))} {x:kt.K→Prop} {v:Value} (h:vE bs w S p kt t e n f x v) (hb:∀c,yj kt x v c→w'.heap[c]?=w.heap[c]?) (hk:aA S w w') (hS:∀b,S b→S' b) (hn:∀c,S' c→c<w'.heap.size∧¬yj kt x v c) (GC:jD bs bn):vE bn w' S' p kt t e n f x v:=by
 obtain⟨b,l,g,rfl,h1,h2,h3,h4,h5,h6⟩:=h;have ym:∀k u c,¬x k→g k=some u→u.ownBlock=some c→yj kt x (tV b l) c:=fun k u c hx hu hc=>⟨b,l,rfl,.inr ⟨k,u,hx,(h3 k u).1 hu,hc⟩⟩;refine⟨b,l,g,rfl,GC _ _ h1 rfl,h2.same (hb b ⟨b,l,rfl,.inl rfl⟩),h3,fun k hx=>?_,h5,h6⟩;have:=h4 k hx;cases hf:f k with
 | none=>rw[hf] at this;exact this
 | some xs=>
  rw[hf] at this;obtain⟨u,hu,cs,⟨q1,q2⟩,q3,q4⟩:=this;refine⟨u,hu,cs,⟨q1,?_⟩,q3.keep hS hk,fun c hc=>⟨(hn c hc).1,fun e=>(hn c hc).2 (ym k u c hx hu e.symm)⟩⟩;rcases q2 with q2|⟨g',cap,cur,rfl,r3,r4,r5⟩
  ·exact .inl q2
  ·exact .inr ⟨g',cap,cur,rfl,r3,(hb g' (ym k _ g' hx hu rfl)).trans r4,r5⟩
theorem OR.same {x:aj} {v:Value} (h:OR bs w S x v) (hb:∀b,Bk x v b→w'.heap[b]?=w.heap[b]?) (_:w.heap.size≤w'.heap.size) (hk:aA S w w') (hS:∀b,S b→S' b) (hn:∀b,S' b→b<w'.heap.size∧¬Bk x v b) (GC:jD bs bn):OR bn w' S' x v:=by
 cases x with
 | cells ty cs=>
  obtain⟨g,vs,rfl,h1,h2⟩:=h;exact⟨g,vs,rfl,(hb g rfl).trans h1,h2.mono fun _ _ h=>h.keep hS hk GC⟩
 | row t e rs=>
  obtain⟨cs,⟨q1,q2⟩,h2,h3⟩:=h;refine⟨cs,⟨q1,?_⟩,h2.keep hS hk,fun b nN=>⟨(hn b nN).1,fun e=>(hn b nN).2 e.symm⟩⟩;rcases q2 with q2|⟨g,cap,cur,rfl,q3,q4,q5⟩
  ·exact .inl q2
  ·exact .inr ⟨g,cap,cur,rfl,q3,(hb g rfl).trans q4,q5⟩
 | zc e t tn iu done rest=>
  obtain⟨bQ,⟨cs,⟨q1,q2⟩,h2,h3⟩,hz⟩:=h;refine⟨bQ,⟨cs,⟨q1,?_⟩,h2.keep hS hk,fun b nN=>⟨(hn b nN).1,fun e=>(hn b nN).2 e.symm⟩⟩,hz.keep hS hk⟩;rcases q2 with q2|⟨g,cap,cur,rfl,q3,q4,q5⟩
  ·exact .inl q2
  ·exact .inr ⟨g,cap,cur,rfl,q3,(hb g rfl).trans q4,q5⟩
 | zip o2 e t tn iu done cur rest=>
  obtain⟨bQ,⟨cs,⟨q1,q2⟩,h2,h3⟩,hz,hl,u,tH,sH,hu3⟩:=h;refine⟨bQ,⟨cs,⟨q1,?_⟩,h2.keep hS hk,fun b nN=>⟨(hn b nN).1,fun e=>(hn b nN).2 e.symm⟩⟩,hz.keep hS hk GC,hl,u,GC _ _ tH sH,sH,hu3⟩;rcases q2 with q2|⟨g,cap,cur,rfl,q3,q4,q5⟩
  ·exact .inl q2
  ·exact .inr ⟨g,cap,cur,rfl,q3,(hb g rfl).trans q4,q5⟩
 | dead=>exact trivial
 | mp kt t n f=>obtain⟨b',g,rfl,h1,h2⟩:=h;exact⟨b',g,rfl,h1.same (hb b' rfl),fun k=>(h2 k).keep hS hk⟩
 | mq q=>exact h
 | mr p kt t e n f=>exact vE.same h hb hk hS hn GC
 | mx p kt t e n f k=>exact vE.same h hb hk hS hn GC
end
inductive Sh (n:Nat):aj→aj→Prop where
 | row {t:Ty} {e:TypeId} {rs:List (El t)}:Sh n (.row t e rs) (.row t e rs)
 | cells {ty:TypeId} {cs iR:List AV}:(∀(bs bn:List Value) (w:World) (S:Nat→Prop) (vs:List Value),bs.length=n→F2 (VR bn w S) cs vs→F2 (VR (bs++bn) w S) iR vs)→Sh n (.cells ty cs) (.cells ty iR)
 | dead:Sh n .dead .dead
 | zc {e:TypeId} {t tn:Ty} {iu:Nat} {done:List (El t)} {rest:List (El tn)}:Sh n (.zc e t tn iu done rest) (.zc e t tn iu done rest)
 | zip {o o':Nat} {e:TypeId} {t tn:Ty} {iu:Nat} {done:List (El t)} {cur afr:List AV} {rest:List (El tn)}:Sh n (.zip o e t tn iu done cur rest) (.zip o' e t tn iu done afr rest)
 | mp {kt:Kt} {t:Ty} {m:Nat} {f:kt.K→Option (El t)}:Sh n (.mp kt t m f) (.mp kt t m f)
 | mq {q q':Nat}:Sh n (.mq q) (.mq q')
 | mr {p:Nat} {kt:Kt} {t:Ty} {e:TypeId} {m:Nat} {f:kt.K→Option (List (El t))}:Sh n (.mr p kt t e m f) (.mr (n+p) kt t e m f)
theorem Sh.solid {n:Nat} {y0 y:aj} (h:Sh n y0 y) (hs:y.solid=true):(∀u b,Bk y u b→Bk y0 u b)∧∀(bs bn:List Value) (w:World) (S:Nat→Prop) (u:Value),bs.length=n→OR bn w S y0 u→OR (bs++bn) w S y u:=by
 cases h with
 | row=>exact⟨fun _ _ h=>h,fun _ _ _ _ _ _ h=>h⟩
 | zc=>exact⟨fun _ _ h=>h,fun _ _ _ _ _ _ h=>h⟩
 | mp=>exact⟨fun _ _ h=>h,fun _ _ _ _ _ _ h=>h⟩
 | mq=>exact⟨fun _ _ h=>h,fun _ _ _ _ _ _ h=>h⟩
 | mr=>
  refine⟨fun _ _ h=>h,fun bs bn w S u hl ⟨b,l,g,e,h1,r⟩=>⟨b,l,g,e,?_,r⟩⟩;rw[←hl,aa8 (by omega),abB];exact h1
 | _=>cases hs
section
variable {n:Nat}
theorem YA {bs bn:List Value} {w:World} {S:Nat→Prop} {t:Ty} {x:El t} {v:Value} (h:VR bs w S (one t x) v):VR bn w S (one t x) v:=by
 cases t<;>exact h
theorem IJ {s:ZS} {x:ZV s} {k j:Nat}:(Dw k s x).2.length=(Dw j s x).2.length:=by cases s<;>rfl
theorem Dv:∀{l:List ZS} {x:Ci l} {k j:Nat},(tA k l x).2.length=(tA j l x).2.length
 | [],_,_,_=>rfl
 | s::l,x,k,j=>by
  show((Dw k s x.1).2++_).length=((Dw j s x.1).2++_).length;rw[abm,abm,IJ (k:=k) (j:=j),Dv (l:=l)]
theorem II:∀{l:List ZS} {x:Ci l} {k:Nat},F2 (Sh n) (tA k l x).2 (tA (n+k) l x).2
 | [],_,_=>.nil
 | s::l,x,k=>by
  have h1:F2 (Sh n) (Dw k s x.1).2 (Dw (n+k) s x.1).2:=by
   cases s with
   | d t=>exact .nil
   | own t e=>exact .cons .row .nil
   | any=>exact .cons .dead .nil
  have h3:=II (l:=l) (x:=x.2) (k:=k+(Dw k s x.1).2.length);have e:n+(k+(Dw k s x.1).2.length)=n+k+(Dw (n+k) s x.1).2.length:=by rw[IJ (k:=k) (j:=n+k)];omega
  rw[e] at h3;exact h1.append h3
theorem OC {s:CS} {x:CV s} {k:Nat}:F2 (Sh n) (uW k s x).2 (uW (n+k) s x).2∧∀(bs bn:List Value) (w:World) (S:Nat→Prop) (v:Value),bs.length=n→VR bn w S (uW k s x).1 v→VR (bs++bn) w S (uW (n+k) s x).1 v:=by
 cases s with
 | d t=>exact⟨.nil,fun bs bn w S v _ h=>YA h⟩
 | own t e=>
  refine⟨.cons .row .nil,fun bs bn w S v hl h=>⟨?_,h.2⟩⟩;rw[←hl,aa8 (by omega),abB];exact h.1
 | any=>
  refine⟨.cons .dead .nil,fun bs bn w S v hl h=>⟨?_,h.2⟩⟩;rw[←hl,aa8 (by omega),abB];exact h.1
 | zc t tn e=>
  refine⟨.cons .zc .nil,fun bs bn w S v hl h=>⟨?_,h.2⟩⟩;rw[←hl,aa8 (by omega),abB];exact h.1
 | zip t tn e zs=>
  refine⟨.cons .zip (.cons .dead ?_),fun bs bn w S v hl h=>⟨?_,h.2⟩⟩
  ·have:=II (n:=n) (l:=zs) (x:=x.2.2.1) (k:=k+2)
   rwa [←ab3] at this
  ·rw[←hl,aa8 (by omega),abB];exact h.1
 | mp kt t=>
  refine⟨.cons .mp .nil,fun bs bn w S v hl h=>⟨?_,h.2⟩⟩;rw[←hl,aa8 (by omega),abB];exact h.1
 | mr kt t e=>
  refine⟨.cons .mq (.cons .mr .nil),fun bs bn w S v hl h=>⟨?_,h.2⟩⟩;rw[←hl,aa8 (by omega),abB];exact h.1
theorem TN {s:CS} {x:CV s} {k j:Nat}:(uW k s x).2.length=(uW j s x).2.length:=by
 cases s with
 | zip t tn e zs=>
  show(tA (k+2) zs x.2.2.1).2.length+1+1=(tA (j+2) zs x.2.2.1).2.length+1+1;rw[Dv]
 | _=>rfl
theorem IL:∀{l:List CS} {x:eY l} {k:Nat},F2 (Sh n) (tC k l x).2 (tC (n+k) l x).2∧∀(bs bn:List Value) (w:World) (S:Nat→Prop) (vs:List Value),bs.length=n→F2 (VR bn w S) (tC k l x).1 vs→F2 (VR (bs++bn) w S) (tC (n+k) l x).1 vs
 | [],_,_=>⟨.nil,fun _ _ _ _ _ _ h=>by cases h;exact .nil⟩
 | s::l,x,k=>by
  obtain⟨h1,h2⟩:=OC (n:=n) (s:=s) (x:=x.1) (k:=k);obtain⟨h3,h4⟩:=IL (l:=l) (x:=x.2) (k:=k+(uW k s x.1).2.length);have e:n+(k+(uW k s x.1).2.length)=n+k+(uW (n+k) s x.1).2.length:=by rw[TN (k:=k) (j:=n+k)];omega
  rw[e] at h3 h4;refine⟨h1.append h3,fun bs bn w S vs hl h=>?_⟩;cases h with
  | cons q1 q2=>exact .cons (h2 bs bn w S _ hl q1) (h4 bs bn w S _ hl q2)
theorem YM {s:SS} {x:SW s} {k:Nat}:F2 (Sh n) (yk k s x).2 (yk (n+k) s x).2:=by
 cases s with
 | c s=>exact(OC (n:=n) (s:=s) (x:=x) (k:=k)).1
 | st q=>exact .nil
 | fn k=>exact .nil
 | rf k=>exact .nil
 | cl k t=>exact .nil
 | sb o o2=>exact .nil
 | box ty cs=>
  obtain⟨h3,h4⟩:=IL (n:=n) (l:=cs) (x:=x) (k:=k+1);exact .cons (.cells h4) h3
theorem OB:∀{l:List (Nat×SS)} {x:cA l} {k:Nat},F2 (Sh n) (tB k l x).2 (tB (n+k) l x).2
 | [],_,_=>.nil
 | p::l,x,k=>by
  have h1:=YM (n:=n) (s:=p.2) (x:=x.1) (k:=k);have h2:=OB (l:=l) (x:=x.2) (k:=k+(yk k p.2 x.1).2.length);have e:n+(k+(yk k p.2 x.1).2.length)=n+k+(yk (n+k) p.2 x.1).2.length:=by rw[h1.length];omega
  rw[e] at h2;exact h1.append h2
end
def JD (ys:List aj):List Nat:=(List.range ys.length).filter fun i=>match ys[i]? with
 | some (.cells _ _)=>true
 | _=>false
def Ju (ids:List (Option Nat)):Bool:=DX [] ids
def aax {P:Program} (E:Em P) (_:Env) (H:List aj) (xs:Option (List XV)):T (XV×List aj):=match xs with
 | some xs=>match Dj H (rK 0 xs) E.l0 with
  | some (x,ids)=>if Qq P E.f&&Ju ids&&xs.length==E.l0.length&&JD (du E.l0 x).heap==E.pb then (E.F x).bind fun q=>if q.1.free&&JD (tB H.length E.lr q.2).2==E.pb&&(tB H.length E.lr q.2).2.length==ids.length then .lf (q.1,QH ids H (tB H.length E.lr q.2).2) else .bad
   else .bad
  | none=>.bad
 | none=>.bad
section
variable {P:Program} {o:Oper} {cx:Cx} {bs:List Value} {w:World} {S:Nat→Prop} {H:List aj} {m:Nat} {env:Env} {a:Act} {K:Act→World→Prop} {Q:Exit→Act→World→Prop}
theorem Ay {ys:List aj} {i:Nat}:i∈JD ys↔∃ty cs,ys[i]?=some (.cells ty cs):=by
 unfold JD;rw[acS,abG];constructor
 ·rintro⟨_,h⟩;split at h
  ·rename_i ty cs e;exact⟨ty,cs,e⟩
  ·cases h
 ·rintro⟨ty,cs,e⟩;exact⟨(aad.1 e).1,by rw[e]⟩
theorem Ep {ids:List (Option Nat)} (h:Ju ids=true) {i j p:Nat} (hi:ids[i]?=some (some p)) (hj:ids[j]?=some (some p)):i=j:=by
 unfold Ju DX at h;rw[aba] at h;have h:=h.1;have Mp:=(aad.1 hi).1;have ZH:=(aad.1 hj).1;rcases Nat.lt_trichotomy i j with hlt|e|hlt
 ·have:=abv.1 (abv.1 h j (abG.2 ZH)) i (abG.2 hlt);rw[hi,hj] at this;simp at this
 ·exact e
 ·have:=abv.1 (abv.1 h i (abG.2 Mp)) j (abG.2 hlt);rw[hi,hj] at this;simp at this
theorem Ve (hs:HS cx bs w S H) (he:ER m bs w S env a) {E:Em P} {args:Array Operand} {ts:Array TypeId} (hop:o.op=.call { callee:=.value (.func E.f),args:=args,argTypes:=ts }) {r:XV×List aj} (h:(aax E env H (lz env args.toList)).hit r) (hK:∀v w' bn S',HS cx bn w' S' r.2→(∀b,S b→S' b)→aA S w w'→jD bs bn→XR bn w' S' r.1 v→K (a.put o.dst v) w'):o.wp P a w K Q:=by
 unfold aax at h;split at h
 ·rename_i xs Pf;split at h
  ·rename_i x ids Sg;split at h
   ·rename_i hc;simp only[aba,beq_iff_eq] at hc;obtain⟨⟨⟨UN,mn⟩,bO⟩,nR⟩:=hc;obtain⟨q,h1,h2⟩:=T.hit_bind h;split at h2
    ·rename_i hc2;simp only[aba,beq_iff_eq] at hc2;obtain⟨⟨xq,aj4⟩,DY⟩:=hc2;obtain⟨r0,z⟩:=q;have h2:(r0,_)=r:=h2;subst h2;have ha:=kN he Pf;have W4:ER xs.length bs w S (rK 0 xs) ⟨(args.toList.map a.eval).toArray,[]⟩:=by
      refine⟨rfl,by show(args.toList.map a.eval).toArray.size=_;rw[abM,ha.length],vm ha fun j v hj=>?_⟩;rw[abQ];simpa using hj
     obtain⟨Sg,Sf⟩:=Iq Sg;obtain⟨us,re,kk⟩:=AY hs W4 Sg 0;obtain⟨k1,k2⟩:=kk us (fun j u hj=>by rw[abQ];exact hj) (Sf _ _);have rl:=re.len
     let M:Nat→Prop:=fun b=>∃(k:Nat) (y:aj) (u:Value),(du E.l0 x).heap[k]?=some y∧us[k]?=some u∧Bk y u b
     have hM:∀b,M b→∃(k p:Nat) (y:aj) (u:Value),ids[k]?=some (some p)∧H[p]?=some y∧bs[p]?=some u∧us[k]?=some u∧Bk y u b:=by
      rintro b ⟨k,y,u,g1,g2,g3⟩;rcases re.get k y u g1 g2 with⟨p,x1,q1,q2,q3,q4⟩|⟨_,q⟩
      ·exact⟨k,p,x1,u,q1,q2,q3,g2,Ce q4 g3⟩
      ·exact absurd g3 (q b)
     have hMS:∀b,M b→¬S b:=fun b hb=>by
      obtain⟨k,p,y,u,_,g2,g3,_,g5⟩:=hM b hb;exact(hs.nw p y u b g2 g3 g5).2
     have hM0:∀b,M b→cx.w0.heap.size≤b∨cx.M b:=fun b hb=>by
      obtain⟨k,p,y,u,_,g2,g3,_,g5⟩:=hM b hb;exact(hs.nw p y u b g2 g3 g5).1
     let cx':Cx:=⟨w,S,M,us,E.pb,fun w2 h1 h2 h3 h4 h5=>cx.wk w2 (abk hs.size h1) (h2.trans hs.os) (h3.trans hs.tape) (h4.trans hs.output) fun b hb hm=>(h5 b (abw hb hs.size) fun q=>(hM0 b q).elim (fun q=>by omega) hm).trans (hs.old b hb hm)⟩
     have hsc:HS cx' us w S (du E.l0 x).heap:=by
      refine⟨rl.2,fun i y v hy hv=>k2 i y v hy hv,?_,?_,fun b q=>⟨(hs.s b q).1,.inl q⟩,fun _ h=>h,rfl,rfl,rfl,abi _,fun _ _ _=>rfl,fun _ _ _ h _=>h⟩
      ·intro i j y y2 u v b yl hy hu hz hv cI cj;rcases re.get i y u hy hu with⟨p,x1,q1,q2,q3,q4⟩|⟨_,q⟩
       ·rcases re.get j y2 v hz hv with⟨p',x2,q5,q6,q7,q8⟩|⟨_,q⟩
        ·exact hs.ap p p' x1 x2 u v b (fun ep=>yl (Ep mn q1 (ep▸q5))) q2 q3 q6 q7 (Ce q4 cI) (Ce q8 cj)
        ·exact absurd cj (q b)
       ·exact absurd cI (q b)
      ·intro i y u b hy hu hb;exact⟨.inr ⟨i,y,u,hy,hu,hb⟩,hMS b ⟨i,y,u,hy,hu,hb⟩⟩
     have PO:∀i y,(i,y)∈(du E.l0 x).env→∃v,(args.toList.map a.eval)[i]?=some v∧XR us w S y v:=fun i y hy=>by
      obtain⟨v,q1,q2⟩:=k1 i y hy;exact⟨v,by simpa using q1,q2⟩
     have bR:=E.ok cx' us S _ x r0 z rfl (fun _ h=>h) hsc PO (by rw[←ha.length];exact bO) h1;unfold Oper.wp execOp;have hev:a.eval (.func E.f)=.func (.func E.f) #[] #[]:=rfl;have rO:(args.toList.map a.eval).toArray=args.map a.eval:=by rw[←adq]
     simp only[hop,resolve,hev,Deferred.ofValue,Sem.run_bind,Sem.run_pure,Result.andThen_ok,invoke,Array.empty_append,Array.append_empty,mS UN,Oper.upon_enter];rw[←rO];refine bR.mono fun e w' zU=>?_;obtain⟨v,bn,S',rfl,fV,hr⟩:=zU;have Xc:∀b,S b→S' b:=fV.s0;have hold:∀b,b<w.heap.size→¬M b→w'.heap[b]?=w.heap[b]?:=fV.old;have bX:aA S w w':=fun p hp=>hold p (hs.s _ hp).1 fun hm=>hMS _ hm hp;have Se:F2 (Sh H.length) (tB 0 E.lr z).2 (tB H.length E.lr z).2:=by
      have:=OB (n:=H.length) (l:=E.lr) (x:=z) (k:=0)
      rwa [acX] at this
     have ym:bn.length=(tB H.length E.lr z).2.length:=by rw[←Se.length];exact fV.len
     have xx:jD bs (bs++bn):=fun i u hu _=>by rw[abc (aad.1 hu).1];exact hu
     have P3:∀{k:Nat} {ty:TypeId} {cs:List AV} {i:Nat},ids[k]?=some (some i)→(tB H.length E.lr z).2[k]?=some (.cells ty cs)→∃u3 g,(du E.lr z).heap[k]?=some (.cells ty u3)∧bn[k]?=some (.pointer (some ⟨g,0,none⟩))∧bs[i]?=some (.pointer (some ⟨g,0,none⟩))∧(∃RZ c0,H[i]?=some (.cells RZ c0))∧OR (bs++bn) w' S' (.cells ty cs) (.pointer (some ⟨g,0,none⟩)):=by
      intro k ty cs i hk hy;have WU:k∈E.pb:=by rw[←aj4];exact Ay.2 ⟨ty,cs,hy⟩
      have BG:=WU;rw[←nR] at BG;obtain⟨ty1,cs1,cI⟩:=Ay.1 BG;have Pz:k<us.length:=by rw[rl.2];exact(aad.1 cI).1
      obtain⟨g,vs1,hu,_⟩:=k2 k _ _ cI (aac Pz);have huk:us[k]?=some (.pointer (some ⟨g,0,none⟩)):=by rw[aac Pz,hu]
      have cj:=fV.an k _ WU huk rfl;obtain⟨u3,aeT,ajP⟩:∃u3,(tB 0 E.lr z).2[k]?=some (.cells ty u3)∧Sh H.length (.cells ty u3) (.cells ty cs):=by
       have Py:k<(tB 0 E.lr z).2.length:=by rw[Se.length];exact(aad.1 hy).1
       obtain⟨y',Ml,hq⟩:=Se.get (aac Py);rw[hy] at Ml;obtain rfl:=aaZ Ml;cases R9:(tB 0 E.lr z).2[k] with
       | cells pX iR=>rw[R9] at hq;cases hq with|cells hq=>exact⟨iR,by rw[aac Py,R9],.cells hq⟩
       | row t e rs=>rw[R9] at hq;cases hq
       | zc e t tn iu done rest=>rw[R9] at hq;cases hq
       | zip o2 e t tn iu done cur rest=>rw[R9] at hq;cases hq
       | _=>rw[R9] at hq;cases hq
      obtain⟨g',vs,e2,eX,hf⟩:=fV.o k _ _ aeT cj;rcases re.get k _ _ cI huk with⟨p,x1,q1,q2,q3,q4⟩|⟨q1,_⟩
      ·rw[hk] at q1;obtain rfl:=aaZ (aaZ q1);refine⟨u3,g,aeT,cj,q3,?_,g',vs,e2,eX,?_⟩
       ·cases x1 with
        | cells RZ c0=>exact⟨RZ,c0,q2⟩
        | row t e rs=>have:=hs.o i _ _ q2 q3;obtain⟨A,n,c,e,_⟩:=Own.slice (α:=El t) this;cases e
        | zc e t tn iu done rest=>obtain⟨bQ,this,_⟩:=hs.o i _ _ q2 q3;obtain⟨A,n,c,e,_⟩:=Own.slice this;cases e
        | zip o2 e t tn iu done cur rest=>obtain⟨bQ,this,_⟩:=hs.o i _ _ q2 q3;obtain⟨A,n,c,e,_⟩:=Own.slice this;cases e
        | dead=>exact absurd (q4 _ rfl) (fun h=>by cases h)
        | mp kt t n f=>obtain⟨_,_,e,_⟩:=hs.o i _ _ q2 q3;cases e
        | mq q=>obtain⟨_,e⟩:=hs.o i _ _ q2 q3;cases e
        | mr p kt t e n f=>obtain⟨_,_,_,e,_⟩:=hs.o i _ _ q2 q3;cases e
        | mx p kt t e n f k=>obtain⟨_,_,_,e,_⟩:=hs.o i _ _ q2 q3;cases e
       ·cases ajP with|cells hq=>exact hq bs bn w' S' vs hs.len hf
      ·rw[hk] at q1;cases q1
     have pz:∀{i:Nat} {y:aj} {u:Value},(QH ids H (tB H.length E.lr z).2)[i]?=some y→(bs++bn)[i]?=some u→ y=.dead∨(H[i]?=some y∧bs[i]?=some u∧some i∉ids)∨(∃(k g:Nat) (ty:TypeId) (cs:List AV) (u3:List AV) (RZ:TypeId) (c0:List AV),y=.cells ty cs∧ids[k]?=some (some i)∧u=.pointer (some ⟨g,0,none⟩)∧bs[i]?=some u∧H[i]?=some (.cells RZ c0)∧bn[k]?=some u∧(du E.lr z).heap[k]?=some (.cells ty u3)∧OR (bs++bn) w' S' y u)∨ (∃(k:Nat) (y0:aj),y.solid=true∧i=H.length+k∧bn[k]?=some u∧(du E.lr z).heap[k]?=some y0∧Sh H.length y0 y):=by
      intro i y u hy hu;have fU:(setB ids (tB H.length E.lr z).2 (xi ids H)).length=H.length:=by rw[fZ,o4]
      unfold QH at hy;by_cases hi:i<H.length
      ·rw[abc (by rw[fU];exact hi)] at hy;rw[abc (by rw[hs.len];exact hi)] at hu;rcases gB hy with hy|⟨k,ty,cs,rfl,g1,g2⟩
       ·rcases tF hy with hy|⟨hy,hn⟩
        ·exact .inl hy
        ·exact .inr (.inl ⟨hy,hu,hn⟩)
       ·obtain⟨u3,g,q1,q2,q3,⟨RZ,c0,q4⟩,q5⟩:=P3 g1 g2;rw[hu] at q3;obtain rfl:=aaZ q3;exact .inr (.inr (.inl ⟨k,g,ty,cs,u3,RZ,c0,rfl,g1,rfl,hu,q4,q2,q1,q5⟩))
      ·rw[aa8 (by rw[fU];omega),fU] at hy;rw[aa8 (by rw[hs.len];omega),hs.len] at hu;rcases zi hy with hy|⟨hy,UE⟩
       ·exact .inl hy
       ·have Py:i-H.length<(tB 0 E.lr z).2.length:=by rw[Se.length];exact(aad.1 hy).1
        obtain⟨y',Ml,hq⟩:=Se.get (aac Py);rw[hy] at Ml;obtain rfl:=aaZ Ml;exact .inr (.inr (.inr ⟨i-H.length,_,UE,by omega,hu,aac Py,hq⟩))
     have qB:∀{i:Nat} {y:aj} {u:Value} {b:Nat},H[i]?=some y→bs[i]?=some u→some i∉ids→Bk y u b→b<w.heap.size∧¬M b:=by
      intro i y u b g1 g2 g3 g4;refine⟨(hs.o i y u g1 g2).lt g4,fun hm=>?_⟩;obtain⟨k,p,y',u',q1,q2,q3,_,q5⟩:=hM b hm;refine hs.ap i p y y' u u' b (fun e=>?_) g1 g2 q2 q3 g4 q5;subst e;exact g3 (ab9 q1)
     have eB:HS cx (bs++bn) w' S' (QH ids H (tB H.length E.lr z).2):=by
      refine⟨?_,?_,?_,?_,fun b q=>?_,fun b q=>Xc b (hs.s0 b q),fV.os.trans hs.os,fV.tape.trans hs.tape,fV.output.trans hs.output,abk hs.size fV.size,fun b q1 q2=>?_,fun i v p q r=>xx i _ (hs.an i v p q r) r⟩
      ·unfold QH;rw[abm,abm,fZ,o4,zh,hs.len,ym]
      ·intro i y u hy hu;rcases pz hy hu with rfl|⟨g1,g2,g3⟩|⟨k,g,ty,cs,u3,RZ,c0,_,_,_,_,_,_,_,g9⟩|⟨k,g0,gs,_,g3,g4,gq⟩
       ·exact trivial
       ·exact(hs.o i y u g1 g2).same (fun b hb=>hold b (qB g1 g2 g3 hb).1 (qB g1 g2 g3 hb).2) fV.size bX Xc (fun b q=>⟨(fV.s b q).1,fun e=>by
         obtain⟨p1,_⟩:=qB g1 g2 g3 e;rcases(fV.s b q).2 with q|q|q
         ·exact(hs.nw i y u b g1 g2 e).2 q
         ·have:w.heap.size≤b:=q;omega
         ·exact(qB g1 g2 g3 e).2 q⟩) xx
       ·exact g9
       ·exact(gq.solid gs).2 bs bn w' S' u hs.len (fV.o k _ _ g4 g3)
      ·intro i j y y2 u v b yl hy hu hz hv cI cj;have ac2:∀{k:Nat} {y:aj} {u:Value},bn[k]?=some u→(du E.lr z).heap[k]?=some y→Bk y u b→(w.heap.size≤b∨M b):=fun g1 g2 g3=>(fV.nw _ _ _ b g2 g1 g3).1;rcases pz hy hu with rfl|⟨g1,g2,g3⟩|⟨k,g,ty,cs,u3,RZ,c0,rfl,g2,rfl,g4,g5,g6,g7,_⟩|⟨k,g0,gs,g2,g3,g4,gq⟩
       ·cases cI
       ·rcases pz hz hv with rfl|⟨p1,p2,p3⟩|⟨k',g',pX,iR,aft,acF,c0',rfl,p2,rfl,p4,p5,p6,p7,_⟩|⟨k',p0,ps,p2,p3,p4,pq⟩
        ·cases cj
        ·exact hs.ap i j y y2 u v b yl g1 g2 p1 p2 cI cj
        ·exact hs.ap i j y _ u _ b yl g1 g2 p5 p4 cI cj
        ·obtain⟨q1,q2⟩:=qB g1 g2 g3 cI;rcases ac2 p3 p4 ((pq.solid ps).1 _ _ cj) with q|q
         ·omega
         ·exact q2 q
       ·rcases pz hz hv with rfl|⟨p1,p2,p3⟩|⟨k',g',pX,iR,aft,acF,c0',rfl,p2,rfl,p4,p5,p6,p7,_⟩|⟨k',p0,ps,p2,p3,p4,pq⟩
        ·cases cj
        ·exact hs.ap i j _ y2 _ v b yl g5 g4 p1 p2 cI cj
        ·exact hs.ap i j _ _ _ _ b yl g5 g4 p5 p4 cI cj
        ·have xn:k≠k':=fun e=>by subst e;rw[g7] at p4;obtain rfl:=aaZ p4;cases pq;cases ps
         exact fV.ap k k' _ _ _ _ b xn g7 g6 p4 p3 cI ((pq.solid ps).1 _ _ cj)
       ·rcases pz hz hv with rfl|⟨p1,p2,p3⟩|⟨k',g',pX,iR,aft,acF,c0',rfl,p2,rfl,p4,p5,p6,p7,_⟩|⟨k',p0,ps,p2,p3,p4,pq⟩
        ·cases cj
        ·obtain⟨q1,q2⟩:=qB p1 p2 p3 cj;rcases ac2 g3 g4 ((gq.solid gs).1 _ _ cI) with q|q
         ·omega
         ·exact q2 q
        ·have xn:k≠k':=fun e=>by subst e;rw[p7] at g4;obtain rfl:=aaZ g4;cases gq;cases gs
         exact fV.ap k k' _ _ _ _ b xn g4 g3 p7 p6 ((gq.solid gs).1 _ _ cI) cj
        ·exact fV.ap k k' _ _ _ _ b (fun e=>yl (by omega)) g4 g3 p4 p3 ((gq.solid gs).1 _ _ cI) ((pq.solid ps).1 _ _ cj)
      ·intro i y u b hy hu hb;have afd:M b→cx.w0.heap.size≤b∨cx.M b:=fun hm=>by
        obtain⟨k,p,y',u',_,q2,q3,_,q5⟩:=hM b hm;exact(hs.nw p y' u' b q2 q3 q5).1
       rcases pz hy hu with rfl|⟨g1,g2,g3⟩|⟨k,g,ty,cs,u3,RZ,c0,rfl,g2,rfl,g4,g5,g6,g7,_⟩|⟨k,g0,gs,g2,g3,g4,gq⟩
       ·cases hb
       ·refine⟨(hs.nw i y u b g1 g2 hb).1,fun q=>?_⟩;obtain⟨p1,_⟩:=qB g1 g2 g3 hb;rcases(fV.s b q).2 with q|q|q
        ·exact(hs.nw i y u b g1 g2 hb).2 q
        ·have:w.heap.size≤b:=q;omega
        ·exact(qB g1 g2 g3 hb).2 q
       ·exact⟨(hs.nw i _ _ b g5 g4 hb).1,(fV.nw k _ _ b g7 g6 hb).2⟩
       ·obtain⟨q1,q2⟩:=fV.nw k _ _ b g4 g3 ((gq.solid gs).1 _ _ hb);refine⟨?_,q2⟩;rcases q1 with q1|q1
        ·exact .inl (abk hs.size q1)
        ·exact afd q1
      ·obtain⟨q1,q2⟩:=fV.s b q;refine⟨q1,?_⟩;rcases q2 with q2|q2|⟨k,y,u,p1,p2,p3⟩
       ·exact(hs.s b q2).2
       ·exact .inr (.inl (abk hs.size q2))
       ·obtain⟨_,p,y',u',_,p4,p5,_,p6⟩:=hM b ⟨k,y,u,p1,p2,p3⟩;exact .inr (hs.nw p y' u' b p4 p5 p6).1
      ·refine(hold b (abw q1 hs.size) fun hm=>?_).trans (hs.old b q1 q2);obtain⟨k,p,y',u',_,g2,g3,_,g5⟩:=hM b hm;rcases(hs.nw p y' u' b g2 g3 g5).1 with g|g
       ·omega
       ·exact q2 g
     exact hK v w' (bs++bn) S' eB Xc bX xx (XR.free xq hr)
    ·exact h2.elim
   ·exact h.elim
  ·exact h.elim
 ·exact h.elim
end
def Wt (ys:List aj):Bool:=ys.all fun
 | .cells _ _=>true
 | .dead=>true
 | _=>false
def Ys (ys:List aj):List Nat:=(List.range ys.length).filter fun i=>match ys[i]? with
 | some (.row _ _ _)=>false
 | some _=>true
 | _=>false
def I8:AV→Option Nat
 | .any j=>some j
 | _=>none
def ES (pb:List Nat):List AV→List AV→Bool
 | [],[]=>true
 | a::l,b::m=>(match I8 b with
  | some j=>I8 a==some j&&pb.contains j
  | none=>b.free)&&ES pb l m
 | _,_=>false
def mrg:List AV→List AV→List AV
 | a::l,b::m=>(match I8 b with
  | some _=>a
  | none=>b)::mrg l m
 | _,_=>[]
def setL (pb:List Nat) (H:List aj):List (Option Nat)→List aj→List aj→Option (List (Nat×aj))
 | [],[],[]=>some []
 | i::ids,x::xs,y::ys=>match x,y with
  | .dead,.dead=>setL pb H ids xs ys
  | .cells ty cs,.cells pX iR=>match i.bind (H[·]?),i with
   | some (.cells _ c0),some o=>if pX=ty∧ES pb cs iR=true then(setL pb H ids xs ys).map fun l=>(o,.cells ty (mrg c0 iR))::l else none
   | _,_=>none
  | _,_=>none
 | _,_,_=>none
def Ol:CS→Bool
 | .d _=>true
 | .any=>true
 | _=>false
def adw (l:List (Nat×SS)):Bool:=l.all fun p=>match p.2 with
 | .c s=>Ol s
 | .box _ cs=>cs.all Ol
 | .st _=>true
 | .fn _=>true
 | .rf _=>true
 | .cl _ _=>true
 | .sb _ _=>false
def GN {P:Program} (E:Em P) (_:Env) (H:List aj) (xs:Option (List XV)):T (XV×List (Nat×aj)):=match xs with
 | some xs=>match Dj H (rK 0 xs) E.l0 with
  | some (x,ids)=>if Qq P E.f&&Ju ids&&xs.length==E.l0.length&&Ys (du E.l0 x).heap==E.pb&&Wt (du E.l0 x).heap then (E.F x).bind fun q=>if q.1.free then T.op ((setL E.pb H ids (du E.l0 x).heap (du E.lr q.2).heap).map fun l=>(q.1,l)) else .bad
   else .bad
  | none=>.bad
 | none=>.bad
section
variable {P:Program} {o:Oper} {cx:Cx} {bs:List Value} {w:World} {S:Nat→Prop} {H Hv:List aj} {m:Nat} {env:Env} {a:Act} {K:Act→World→Prop} {Q:Exit→Act→World→Prop}
theorem Ip (hv:yb Hv H) {t:Ty} {e:TypeId} {b:AV} {r:List (El t)×List (Option Nat)} (h:Yi Hv t e b=some r):Yi H t e b=some r:=by
 unfold Yi at h ⊢;split at h
 ·split at h
  ·rename_i hH;rcases hv.2 _ _ hH with q|q
   ·cases q
   ·simp only[q];exact h
  ·cases h
 ·exact h
 ·cases h
theorem Dh (hv:yb Hv H):∀{l:List ZS} {qs:List AV} {r:Ci l×List (Option Nat)},Di Hv l qs=some r→Di H l qs=some r
 | [],[],_,h=>h
 | s::l,b::qs,r,h=>by
  have one:∀{x:ZV s×List (Option Nat)},rdZ Hv s b=some x→rdZ H s b=some x:=fun {x} h=>by
   cases s with
   | d t=>exact h
   | own t e=>exact Ip hv h
   | any=>exact h
  unfold Di at h ⊢;cases e1:rdZ Hv s b with
  | none=>rw[e1] at h;cases h
  | some x=>
   cases e2:Di Hv l qs with
   | none=>rw[e1,e2] at h;cases h
   | some y=>
    rw[e1,e2] at h;rw[one e1,Dh hv e2];exact h
 | [],_::_,_,h=>by cases h
 | _::_,[],_,h=>by cases h
theorem Iu (hv:yb Hv H) {s:CS} {b:AV} {r:CV s×List (Option Nat)} (h:rdC Hv s b=some r):rdC H s b=some r:=by
 cases s with
 | d t=>exact h
 | own t e=>exact Ip hv h
 | any=>exact h
 | zc t tn e=>
  have h:KD Hv t tn e b=some r:=h;show KD H t tn e b=some r;unfold KD at h ⊢;split at h
  ·split at h
   ·rename_i hH;rcases hv.2 _ _ hH with q|q
    ·cases q
    ·simp only[q];exact h
   ·cases h
  ·cases h
 | zip t tn e zs=>
  have h:yY Hv t tn e zs b=some r:=h;show yY H t tn e zs b=some r;unfold yY at h ⊢;split at h
  ·split at h
   ·rename_i hH;rcases hv.2 _ _ hH with q|q
    ·cases q
    ·simp only[q];split at h
     ·rename_i hp;simp only[*,Dh hv hp];rfl
     ·cases h
   ·cases h
  ·cases h
 | mp kt t=>
  have h:KF Hv kt t b=some r:=h;show KF H kt t b=some r;unfold KF at h ⊢;split at h
  ·split at h
   ·rename_i hH;simp only[mL hv hH (fun e=>by cases e)];exact h
   ·cases h
  ·cases h
 | mr kt t e=>
  have h:KE Hv kt t e b=some r:=h;show KE H kt t e b=some r;unfold KE at h ⊢;split at h
  ·split at h
   ·rename_i hH;simp only[mL hv hH (fun e=>by cases e)];split at h
    ·rename_i hQ;simp only[mL hv hQ (fun e=>by cases e)];exact h
    ·cases h
   ·cases h
  ·cases h
theorem Dk (hv:yb Hv H):∀{l:List CS} {qs:List AV} {r:eY l×List (Option Nat)},yw Hv l qs=some r→yw H l qs=some r
 | [],[],_,h=>h
 | s::l,b::qs,r,h=>by
  unfold yw at h ⊢;cases e1:rdC Hv s b with
  | none=>rw[e1] at h;cases h
  | some x=>
   cases e2:yw Hv l qs with
   | none=>rw[e1,e2] at h;cases h
   | some y=>
    rw[e1,e2] at h;rw[Iu hv e1,Dk hv e2];exact h
 | [],_::_,_,h=>by cases h
 | _::_,[],_,h=>by cases h
theorem Tn (hv:yb Hv H) {s:SS} {b:XV} {r:SW s×List (Option Nat)} (h:Tp Hv s b=some r):Tp H s b=some r:=by
 cases s with
 | c s=>
  cases b with
  | one c=>exact Iu hv (s:=s) (r:=r) h
  | _=>cases h
 | st k=>exact h
 | fn k=>exact h
 | rf k=>exact h
 | cl k t=>exact h
 | sb o o2=>exact h
 | box ty cs=>
  have h:rdB Hv ty cs b=some r:=h;show rdB H ty cs b=some r;unfold rdB at h ⊢;split at h
  ·split at h
   ·rename_i hH;rcases hv.2 _ _ hH with q|q
    ·cases q
    ·simp only[q];split at h
     ·rename_i e;rw[if_pos e];cases e2:yw Hv cs _ with
      | none=>rw[e2] at h;cases h
      | some y=>rw[e2] at h;rw[Dk hv e2];exact h
     ·cases h
   ·cases h
  ·cases h
theorem Ir (hv:yb Hv H):∀{l:List (Nat×SS)} {r:cA l×List (Option Nat)},Is Hv env l=some r→Is H env l=some r
 | [],_,h=>h
 | p::l,r,h=>by
  unfold Is at h ⊢;cases e1:env.lookup p.1 with
  | none=>rw[e1] at h;cases h
  | some b=>
   rw[e1] at h;cases e2:Tp Hv p.2 b with
   | none=>
    have h:(match Tp Hv p.2 b,Is Hv env l with|some x,some y=>some (((x.1,y.1),x.2++y.2):cA (p::l)×List (Option Nat))|_,_=>none)=some r:=h;rw[e2] at h;cases h
   | some x=>
    have h:(match Tp Hv p.2 b,Is Hv env l with|some x,some y=>some (((x.1,y.1),x.2++y.2):cA (p::l)×List (Option Nat))|_,_=>none)=some r:=h;show(match Tp H p.2 b,Is H env l with|some x,some y=>some (((x.1,y.1),x.2++y.2):cA (p::l)×List (Option Nat))|_,_=>none)=some r;cases e3:Is Hv env l with
    | none=>rw[e2,e3] at h;cases h
    | some y=>
     rw[e2,e3] at h;rw[Tn hv e2,Ir hv e3];exact h
theorem v7 (hv:yb Hv H) {pb:List Nat}:∀{ids:List (Option Nat)} {xs ys:List aj} {l:List (Nat×aj)},setL pb Hv ids xs ys=some l→setL pb H ids xs ys=some l
 | [],[],[],_,h=>h
 | i::ids,x::xs,y::ys,l,h=>by
  unfold setL at h ⊢;split at h
  ·exact v7 hv h
  ·rename_i ty cs pX iR;split at h
   ·rename_i t0 c0 o hi;have Jf:H[o]?=some (.cells t0 c0):=by
     rcases hv.2 o _ hi with q|q
     ·cases q
     ·exact q
    have:((some o:Option Nat).bind fun x=>H[x]?)=some (.cells t0 c0):=Jf;simp only[this];split at h
    ·rename_i hc;rw[if_pos hc];cases e:setL pb Hv ids xs ys with
     | none=>rw[e] at h;cases h
     | some q=>rw[e] at h;rw[v7 hv e];exact h
    ·cases h
   ·cases h
  ·cases h
 | [],[],_::_,_,h=>by cases h
 | [],_::_,_,_,h=>by cases h
 | _::_,[],_,_,h=>by cases h
 | _::_,_::_,[],_,h=>by cases h
theorem NU (hv:yb Hv H) {l:List (Nat×SS)} {r:cA l×List (Option Nat)} (h:Dj Hv env l=some r):Dj H env l=some r:=by
 unfold Dj at h ⊢;split at h
 ·rename_i hl;rw[if_pos hl];exact Ir hv h
 ·cases h
theorem QI (hv:yb Hv H) {E:Em P} {xs:Option (List XV)} {r:XV×List (Nat×aj)} (h:(GN E env Hv xs).hit r):(GN E env H xs).hit r:=by
 unfold GN at h ⊢;cases xs with
 | none=>exact h.elim
 | some xs=>
  simp only at h ⊢;cases e:Dj Hv (rK 0 xs) E.l0 with
  | none=>rw[e] at h;exact h.elim
  | some p=>
   rw[e] at h;rw[NU hv e];obtain⟨x,ids⟩:=p;simp only at h ⊢;split at h
   ·rename_i hc;rw[if_pos hc];have key:∀{t:T (XV×cA E.lr)},(t.bind fun q=>if q.1.free then T.op ((setL E.pb Hv ids (du E.l0 x).heap (du E.lr q.2).heap).map fun l=>(q.1,l)) else .bad).hit r→(t.bind fun q=>if q.1.free then T.op ((setL E.pb H ids (du E.l0 x).heap (du E.lr q.2).heap).map fun l=>(q.1,l)) else .bad).hit r:=by
     intro t;induction t with
     | lf q=>
      intro h;have h:(if q.1.free then T.op ((setL E.pb Hv ids (du E.l0 x).heap (du E.lr q.2).heap).map fun l=>(q.1,l)) else .bad).hit r:=h;show(if q.1.free then T.op ((setL E.pb H ids (du E.l0 x).heap (du E.lr q.2).heap).map fun l=>(q.1,l)) else .bad).hit r;split at h
      ·rename_i hf;rw[if_pos hf];cases e2:setL E.pb Hv ids (du E.l0 x).heap (du E.lr q.2).heap with
       | none=>rw[e2] at h;exact h.elim
       | some l=>rw[e2] at h;rw[v7 hv e2];exact h
      ·exact h.elim
     | br b x y hx hy=>exact fun h=>⟨fun q=>hx (h.1 q),fun q=>hy (h.2 q)⟩
     | nd p t ht=>exact fun h=>⟨h.1,ht h.2⟩
     | bad=>exact fun h=>h
    exact key h
   ·exact h.elim
theorem wi {pb:List Nat}:∀{ids:List (Option Nat)} {xs ys:List aj} {l:List (Nat×aj)},setL pb H ids xs ys=some l→ids.length=xs.length∧ids.length=ys.length∧(∀p∈l,∃(k:Nat) (ty t0:TypeId) (cs iR c0:List AV),ids[k]?=some (some p.1)∧xs[k]?=some (.cells ty cs)∧ys[k]?=some (.cells ty iR)∧H[p.1]?=some (.cells t0 c0)∧ES pb cs iR=true∧p.2=.cells ty (mrg c0 iR))∧ ∀(k:Nat) (ty:TypeId) (cs:List AV),xs[k]?=some (.cells ty cs)→∃p∈l,ids[k]?=some (some p.1)
 | [],[],[],l,h=>by
  injection h with h
  subst h;exact⟨rfl,rfl,(fun p hp=>by cases hp),fun k ty cs hk=>by cases hk⟩
 | i::ids,x::xs,y::ys,l,h=>by
  unfold setL at h;split at h
  ·obtain⟨h1,h2,h3,h4⟩:=wi h;refine⟨by simp[h1],by simp[h2],fun p hp=>?_,fun k ty cs hk=>?_⟩
   ·obtain⟨k,ty,t0,cs,iR,c0,q1,q2,q3,q⟩:=h3 p hp;exact⟨k+1,ty,t0,cs,iR,c0,by simpa using q1,by simpa using q2,by simpa using q3,q⟩
   ·cases k with
    | zero=>cases hk
    | succ k=>
     obtain⟨p,hp,hq⟩:=h4 k ty cs (by simpa using hk);exact⟨p,hp,by simpa using hq⟩
  ·rename_i ty cs pX iR;split at h
   ·rename_i t0 c0 o hi;split at h
    ·rename_i hc;obtain⟨rfl,hc⟩:=hc;cases e:setL pb H ids xs ys with
     | none=>rw[e] at h;cases h
     | some q=>
      rw[e] at h;injection h with h
      subst h;obtain⟨h1,h2,h3,h4⟩:=wi e;have hi:H[o]?=some (.cells t0 c0):=hi;refine⟨by simp[h1],by simp[h2],fun p hp=>?_,fun k ty cs hk=>?_⟩
      ·rcases abq.1 hp with rfl|hp
       ·exact⟨0,pX,t0,cs,iR,c0,rfl,rfl,rfl,hi,hc,rfl⟩
       ·obtain⟨k,ty,t0,cs,iR,c0,q1,q2,q3,q⟩:=h3 p hp;exact⟨k+1,ty,t0,cs,iR,c0,by simpa using q1,by simpa using q2,by simpa using q3,q⟩
      ·cases k with
       | zero=>exact⟨_,abh,rfl⟩
       | succ k=>
        obtain⟨p,hp,hq⟩:=h4 k ty cs (by simpa using hk);exact⟨p,abr _ hp,by simpa using hq⟩
    ·cases h
   ·cases h
  ·cases h
 | [],[],_::_,_,h=>by cases h
 | [],_::_,_,_,h=>by cases h
 | _::_,[],_,_,h=>by cases h
 | _::_,_::_,[],_,h=>by cases h
theorem Oy {bs bn us:List Value} {w w':World} {S S':Nat→Prop} {pb:List Nat} (hS:∀b,S b→S' b) (hk:aA S w w') (han:∀(i:Nat) (v:Value),i∈pb→us[i]?=some v→xl v=true→bn[i]?=some v) : ∀{c0 cs iR:List AV} {vs SF:List Value},ES pb cs iR=true→F2 (VR bs w S) c0 vs→F2 (VR us w S) cs vs→F2 (VR bn w' S') iR SF→F2 (VR bs w' S') (mrg c0 iR) SF
 | c0,[],[],vs,SF,_,h1,h2,h3=>by
  cases h2;cases h1;cases h3;exact .nil
 | c0,x::cs,y::iR,vs,SF,h,h1,h2,h3=>by
  cases h2 with
  | @cons _ v _ vs g1 g2=>
   cases h1 with
   | @cons z _ c0 _ f1 f2=>
    cases h3 with
    | @cons _ v' _ SF k1 k2=>
     unfold ES at h;rw[aba] at h;refine .cons ?_ (Oy hS hk han h.2 f2 g2 k2);have h:=h.1;cases e:I8 y with
     | some j=>
      rw[e] at h;simp only[aba,beq_iff_eq] at h;obtain⟨h0,hp⟩:=h;obtain rfl:y=.any j:=by cases y<;>first|(injection e with e;subst e;rfl)|cases e
      obtain rfl:x=.any j:=by cases x<;>first|(injection h0 with h0;subst h0;rfl)|cases h0
      have e1:=han j v (by simpa using hp) g1.1 (JL g1.2);rw[k1.1] at e1;obtain rfl:=aaZ e1;exact f1.keep hS hk (jD.refl _)
     | none=>
      rw[e] at h;exact VR.free h k1
 | _,[],_::_,_,_,h,_,_,_=>by cases h
 | _,_::_,[],_,_,h,_,_,_=>by cases h
theorem N7 {ys:List aj} (hn:Wt ys=true) {i:Nat} (hi:i<ys.length):i∈Ys ys:=by
 unfold Ys;rw[acS,abG];refine⟨hi,?_⟩;rw[aac hi];have:=abv.1 hn _ (abI hi);split
 ·rename_i e;injection e with e;rw[e] at this;cases this
 ·rfl
 ·rename_i h1 h2;exact(h2 _ rfl).elim
theorem DO {i:Nat} {y:aj}:∀{l:List (Nat×aj)},ft l i=some y→(i,y)∈l
 | p::l,h=>by
  have h:(match ft l i with|some y=>some y|none=>if p.1=i then some p.2 else none)=some y:=h;cases e:ft l i with
  | some u=>rw[e] at h;obtain rfl:=aaZ h;exact abr _ (DO e)
  | none=>
   rw[e] at h;simp only at h;split at h
   ·rename_i e2;have h:=aaZ h;rw[←e2,←h];exact abh
   ·cases h
theorem DN {i:Nat}:∀{l:List (Nat×aj)},ft l i=none→∀p∈l,p.1≠i
 | q::l,h,p,hp=>by
  have h:(match ft l i with|some y=>some y|none=>if q.1=i then some q.2 else none)=none:=h;cases e:ft l i with
  | some u=>rw[e] at h;cases h
  | none=>
   rw[e] at h;simp only at h;split at h
   ·cases h
   ·rename_i fI;rcases abq.1 hp with rfl|hp
    ·exact fI
    ·exact DN e p hp
theorem Js (hs:HS cx bs w S H) (he:ER m bs w S env a) {E:Em P} {args:Array Operand} {ts:Array TypeId} (hop:o.op=.call { callee:=.value (.func E.f),args:=args,argTypes:=ts }) {r:XV×List (Nat×aj)} (h:(GN E env H (lz env args.toList)).hit r) (hK:∀v w' S',HS cx bs w' S' (jo r.2 H)→(∀b,S b→S' b)→aA S w w'→XR bs w' S' r.1 v→K (a.put o.dst v) w'):o.wp P a w K Q:=by
 unfold GN at h;split at h
 ·rename_i xs Pf;split at h
  ·rename_i x ids Sg;split at h
   ·rename_i hc;simp only[aba,beq_iff_eq] at hc;obtain⟨⟨⟨⟨UN,mn⟩,bO⟩,nR⟩,hnr⟩:=hc;obtain⟨q,h1,h2⟩:=T.hit_bind h;split at h2
    ·rename_i xq;obtain⟨r0,z⟩:=q;have h2:=T.hit_op h2;cases BD:setL E.pb H ids (du E.l0 x).heap (du E.lr z).heap with
     | none=>
      have h2:Option.map _ (setL E.pb H ids (du E.l0 x).heap (du E.lr z).heap)=some r:=h2;rw[BD] at h2;cases h2
     | some l=>
     have h2:Option.map _ (setL E.pb H ids (du E.l0 x).heap (du E.lr z).heap)=some r:=h2;rw[BD] at h2;have h2:(r0,l)=r:=aaZ h2;subst h2;have xq:r0.free=true:=xq;obtain⟨sl1,sl2,sl3,sl4⟩:=wi BD;have ha:=kN he Pf;have W4:ER xs.length bs w S (rK 0 xs) ⟨(args.toList.map a.eval).toArray,[]⟩:=by
      refine⟨rfl,by show(args.toList.map a.eval).toArray.size=_;rw[abM,ha.length],vm ha fun j v hj=>?_⟩;rw[abQ];simpa using hj
     obtain⟨Sg,Sf⟩:=Iq Sg;obtain⟨us,re,kk⟩:=AY hs W4 Sg 0;obtain⟨k1,k2⟩:=kk us (fun j u hj=>by rw[abQ];exact hj) (Sf _ _);have rl:=re.len
     let M:Nat→Prop:=fun b=>∃(k:Nat) (y:aj) (u:Value),(du E.l0 x).heap[k]?=some y∧us[k]?=some u∧Bk y u b
     have hM:∀b,M b→∃(k p:Nat) (y:aj) (u:Value),ids[k]?=some (some p)∧(∃ty cs,(du E.l0 x).heap[k]?=some (.cells ty cs))∧H[p]?=some y∧bs[p]?=some u∧us[k]?=some u∧Bk y u b:=by
      rintro b ⟨k,y,u,g1,g2,g3⟩;have uZ:∃ty cs,(du E.l0 x).heap[k]?=some (.cells ty cs):=by
       have:=abv.1 hnr y (ab9 g1);cases y with
       | cells ty cs=>exact⟨ty,cs,g1⟩
       | dead=>cases g3
       | _=>cases this
      rcases re.get k y u g1 g2 with⟨p,x1,q1,q2,q3,q4⟩|⟨_,q⟩
      ·exact⟨k,p,x1,u,q1,uZ,q2,q3,g2,Ce q4 g3⟩
      ·exact absurd g3 (q b)
     have hMS:∀b,M b→¬S b:=fun b hb=>by
      obtain⟨k,p,y,u,_,_,g2,g3,_,g5⟩:=hM b hb;exact(hs.nw p y u b g2 g3 g5).2
     have hM0:∀b,M b→cx.w0.heap.size≤b∨cx.M b:=fun b hb=>by
      obtain⟨k,p,y,u,_,_,g2,g3,_,g5⟩:=hM b hb;exact(hs.nw p y u b g2 g3 g5).1
     let cx':Cx:=⟨w,S,M,us,E.pb,fun w2 h1 h2 h3 h4 h5=>cx.wk w2 (abk hs.size h1) (h2.trans hs.os) (h3.trans hs.tape) (h4.trans hs.output) fun b hb hm=>(h5 b (abw hb hs.size) fun q=>(hM0 b q).elim (fun q=>by omega) hm).trans (hs.old b hb hm)⟩
     have hsc:HS cx' us w S (du E.l0 x).heap:=by
      refine⟨rl.2,fun i y v hy hv=>k2 i y v hy hv,?_,?_,fun b q=>⟨(hs.s b q).1,.inl q⟩,fun _ h=>h,rfl,rfl,rfl,abi _,fun _ _ _=>rfl,fun _ _ _ h _=>h⟩
      ·intro i j y y2 u v b yl hy hu hz hv cI cj;rcases re.get i y u hy hu with⟨p,x1,q1,q2,q3,q4⟩|⟨_,q⟩
       ·rcases re.get j y2 v hz hv with⟨p',x2,q5,q6,q7,q8⟩|⟨_,q⟩
        ·exact hs.ap p p' x1 x2 u v b (fun ep=>yl (Ep mn q1 (ep▸q5))) q2 q3 q6 q7 (Ce q4 cI) (Ce q8 cj)
        ·exact absurd cj (q b)
       ·exact absurd cI (q b)
      ·intro i y u b hy hu hb;exact⟨.inr ⟨i,y,u,hy,hu,hb⟩,hMS b ⟨i,y,u,hy,hu,hb⟩⟩
     have PO:∀i y,(i,y)∈(du E.l0 x).env→∃v,(args.toList.map a.eval)[i]?=some v∧XR us w S y v:=fun i y hy=>by
      obtain⟨v,q1,q2⟩:=k1 i y hy;exact⟨v,by simpa using q1,q2⟩
     have bR:=E.ok cx' us S _ x r0 z rfl (fun _ h=>h) hsc PO (by rw[←ha.length];exact bO) h1;unfold Oper.wp execOp;have hev:a.eval (.func E.f)=.func (.func E.f) #[] #[]:=rfl;have rO:(args.toList.map a.eval).toArray=args.map a.eval:=by rw[←adq]
     simp only[hop,resolve,hev,Deferred.ofValue,Sem.run_bind,Sem.run_pure,Result.andThen_ok,invoke,Array.empty_append,Array.append_empty,mS UN,Oper.upon_enter];rw[←rO];refine bR.mono fun e w' zU=>?_;obtain⟨v,bn,S',rfl,fV,hr⟩:=zU;have Xc:∀b,S b→S' b:=fV.s0;have hold:∀b,b<w.heap.size→¬M b→w'.heap[b]?=w.heap[b]?:=fV.old;have bX:aA S w w':=fun p hp=>hold p (hs.s _ hp).1 fun hm=>hMS _ hm hp;have han:∀(i:Nat) (v:Value),i∈E.pb→us[i]?=some v→xl v=true→bn[i]?=some v:=fV.an;have P3:∀{p:Nat×aj},p∈l→∃(k g:Nat) (ty t0:TypeId) (cs iR c0:List AV),ids[k]?=some (some p.1)∧p.2=.cells ty (mrg c0 iR)∧bs[p.1]?=some (.pointer (some ⟨g,0,none⟩))∧bn[k]?=some (.pointer (some ⟨g,0,none⟩))∧H[p.1]?=some (.cells t0 c0)∧(du E.l0 x).heap[k]?=some (.cells ty cs)∧us[k]?=some (.pointer (some ⟨g,0,none⟩))∧(du E.lr z).heap[k]?=some (.cells ty iR)∧OR bs w' S' p.2 (.pointer (some ⟨g,0,none⟩)):=by
      intro p hp;obtain⟨k,ty,t0,cs,iR,c0,g1,g2,g3,g4,g5,g6⟩:=sl3 p hp;have Pz:k<us.length:=by rw[rl.2];exact(aad.1 g2).1
      obtain⟨g,vs,hu,cI,BI⟩:=k2 k _ _ g2 (aac Pz);have huk:us[k]?=some (.pointer (some ⟨g,0,none⟩)):=by rw[aac Pz,hu]
      have BG:k∈E.pb:=by rw[←nR];exact N7 hnr (aad.1 g2).1
      have cj:=han k _ BG huk rfl;obtain⟨g',SF,e2,kP,hf2⟩:=fV.o k _ _ g3 cj;injection e2 with e2
      injection e2 with e2
      injection e2 with e2
      subst e2;rcases re.get k _ _ g2 huk with⟨p',x1,q1,q2,q3,q4⟩|⟨q1,_⟩
      ·rw[g1] at q1;obtain rfl:=aaZ (aaZ q1);obtain⟨g',vs0,e2,hb0,ZN⟩:=hs.o _ _ _ g4 q3;injection e2 with e2
       injection e2 with e2
       injection e2 with e2
       subst e2;have:vs0=vs:=by
        have h1:dE w g t0 vs0.toArray:=hb0;have h2:dE w g ty vs.toArray:=cI;have h1:w.heap[g]?=_:=h1;have h2:w.heap[g]?=_:=h2;rw[h1] at h2;injection h2 with h2
        injection h2 with h2
        injection h2 with h2
       subst this;exact⟨k,g,ty,t0,cs,iR,c0,g1,g6,q3,cj,g4,g2,huk,g3,by rw[g6];exact⟨g,SF,rfl,kP,Oy Xc bX han g5 ZN BI hf2⟩⟩
      ·rw[g1] at q1;cases q1
     have pz:∀{i:Nat} {y:aj},(jo l H)[i]?=some y→(H[i]?=some y∧∀p∈l,p.1≠i)∨(i,y)∈l:=by
      intro i y hy;have Mp:i<H.length:=by have:=(aad.1 hy).1;rwa [gA] at this
      rw[lV (aac Mp)] at hy;cases e:ft l i with
      | none=>rw[e] at hy;left;exact⟨by rw[aac Mp];exact hy,DN e⟩
      | some u=>
       rw[e] at hy;right;have:u=y:=by simpa using hy
       subst this;exact DO e
     have qB:∀{i:Nat} {y:aj} {u:Value} {b:Nat},H[i]?=some y→bs[i]?=some u→(∀p∈l,p.1≠i)→Bk y u b→b<w.heap.size∧¬M b:=by
      intro i y u b g1 g2 g3 g4;refine⟨(hs.o i y u g1 g2).lt g4,fun hm=>?_⟩;obtain⟨k,p,y',u',q1,⟨ty,cs,qc⟩,q2,q3,_,q5⟩:=hM b hm;refine hs.ap i p y y' u u' b (fun e=>?_) g1 g2 q2 q3 g4 q5;subst e;obtain⟨p',hp',Mm⟩:=sl4 k ty cs qc;rw[q1] at Mm;exact g3 p' hp' (aaZ (aaZ Mm)).symm
     have eB:HS cx bs w' S' (jo l H):=by
      refine⟨by rw[gA];exact hs.len,?_,?_,?_,fun b q=>?_,fun b q=>Xc b (hs.s0 b q),fV.os.trans hs.os,fV.tape.trans hs.tape,fV.output.trans hs.output,abk hs.size fV.size,fun b q1 q2=>?_,hs.an⟩
      ·intro i y u hy hu;rcases pz hy with⟨g1,g3⟩|g
       ·exact(hs.o i y u g1 hu).same (fun b hb=>hold b (qB g1 hu g3 hb).1 (qB g1 hu g3 hb).2) fV.size bX Xc (fun b q=>⟨(fV.s b q).1,fun e=>by
         obtain⟨p1,_⟩:=qB g1 hu g3 e;rcases(fV.s b q).2 with q|q|q
         ·exact(hs.nw i y u b g1 hu e).2 q
         ·have:w.heap.size≤b:=q;omega
         ·exact(qB g1 hu g3 e).2 q⟩) (jD.refl _)
       ·obtain⟨k,g,ty,t0,cs,iR,c0,_,_,q3,_,_,_,_,_,q8⟩:=P3 g;have q3:bs[i]?=_:=q3;rw[hu] at q3;obtain rfl:=aaZ q3;exact q8
      ·intro i j y y2 u v b yl hy hu hz hv cI cj;have old:∀{i:Nat} {y:aj} {u:Value},(jo l H)[i]?=some y→bs[i]?=some u→Bk y u b→∃y',H[i]?=some y'∧Bk y' u b:=by
        intro i y u hy hu hb;rcases pz hy with⟨g1,_⟩|g
        ·exact⟨y,g1,hb⟩
        ·obtain⟨k,g,ty,t0,cs,iR,c0,_,q2,q3,_,q5,_⟩:=P3 g;have q2:y=_:=q2;have q3:bs[i]?=_:=q3;rw[hu] at q3;obtain rfl:=aaZ q3;subst q2;exact⟨_,q5,hb⟩
       obtain⟨y',g1,g2⟩:=old hy hu cI;obtain⟨y2',g3,g4⟩:=old hz hv cj;exact hs.ap i j y' y2' u v b yl g1 hu g3 hv g2 g4
      ·intro i y u b hy hu hb;rcases pz hy with⟨g1,g3⟩|g
       ·refine⟨(hs.nw i y u b g1 hu hb).1,fun q=>?_⟩;obtain⟨p1,_⟩:=qB g1 hu g3 hb;rcases(fV.s b q).2 with q|q|q
        ·exact(hs.nw i y u b g1 hu hb).2 q
        ·have:w.heap.size≤b:=q;omega
        ·exact(qB g1 hu g3 hb).2 q
       ·obtain⟨k,g,ty,t0,cs,iR,c0,_,q2,q3,q4,q5,_,_,q7,_⟩:=P3 g;have q2:y=_:=q2;have q3:bs[i]?=_:=q3;rw[hu] at q3;obtain rfl:=aaZ q3;subst q2;exact⟨(hs.nw i _ _ b q5 hu hb).1,(fV.nw k _ _ b q7 q4 hb).2⟩
      ·obtain⟨q1,q2⟩:=fV.s b q;refine⟨q1,?_⟩;rcases q2 with q2|q2|⟨k,y,u,p1,p2,p3⟩
       ·exact(hs.s b q2).2
       ·exact .inr (.inl (abk hs.size q2))
       ·obtain⟨_,p,y',u',_,_,p4,p5,_,p6⟩:=hM b ⟨k,y,u,p1,p2,p3⟩;exact .inr (hs.nw p y' u' b p4 p5 p6).1
      ·refine(hold b (abw q1 hs.size) fun hm=>?_).trans (hs.old b q1 q2);obtain⟨k,p,y',u',_,_,g2,g3,_,g5⟩:=hM b hm;rcases(hs.nw p y' u' b g2 g3 g5).1 with g|g
       ·omega
       ·exact q2 g
     exact hK v w' S' eB Xc bX (XR.free xq hr)
    ·exact h2.elim
   ·exact h.elim
  ·exact h.elim
 ·exact h.elim
end
def fOf (o:Oper):Option FuncId:=match o.op with
 | .call { callee:=.value (.func f), .. }=>some f
 | _=>none
def aau {P:Program} (Es:List (Em P)) (f:FuncId):Option (Em P):=Es.find? fun E=>E.f==f
def wA:List (Nat×SS)→List Operand→List Nat
 | (_,.c (.d _))::l,.tmp t::r=>t::wA l r
 | (_,.st _)::l,.tmp t::r=>t::wA l r
 | _::l,_::r=>wA l r
 | _,_=>[]
def dj {P:Program} [hP:IsP P] (ty:TypeId→Option Ty) (D:List (Sm P)) (Es:List (Em P)):hZ P where
 ty:=ty
 D:=D
 isP:=hP
 eff o:=((fOf o).bind (aau Es)).isSome
 x m o st:=match o.op with
  | .call { callee:=.value (.func f),args:=args, .. }=>match aau Es f with
   | some E=>(fun st=>if adw E.l0 then(GN E st.env st.heap (lz st.env args.toList)).bind fun r=>.lf ⟨qZ st.env o.dst (some r.1),jo r.2 st.heap⟩ else(aax E st.env st.heap (lz st.env args.toList)).bind fun r=>.lf ⟨qZ st.env o.dst (some r.1),r.2⟩) ((wA E.l0 args.toList).foldl BN st)
   | none=>.bad
  | _=>.bad
 xok m o cx st dG a w K Q _ hd h ct hK:=by
  split at h
  ·rename_i f args ts hop;split at h
   ·rename_i E hE;have hf:E.f=f:=by have:=List.find?_some hE;simpa using this
    subst hf;obtain⟨bs,S,hs,he⟩:=BP (l:=wA E.l0 args.toList) ct;simp only at h;split at h
    ·obtain⟨r,h1,h2⟩:=T.hit_bind h;have h2:(⟨qZ ((wA E.l0 args.toList).foldl BN st).env o.dst (some r.1),jo r.2 ((wA E.l0 args.toList).foldl BN st).heap⟩:ek)=dG:=h2;subst h2;exact Js hs he hop h1 fun v w' S' q1 qS qk q3=>hK _ _ ⟨bs,S',q1,(he.keep qS qk (jD.refl _)).put o.dst (some r.1) v hd fun y hy=>by obtain rfl:=aaZ hy;exact q3⟩
    ·obtain⟨r,h1,h2⟩:=T.hit_bind h;have h2:(⟨qZ ((wA E.l0 args.toList).foldl BN st).env o.dst (some r.1),r.2⟩:ek)=dG:=h2;subst h2;exact Ve hs he hop h1 fun v w' bn S' q1 qS qk qa q3=>hK _ _ ⟨bn,S',q1,(he.keep qS qk qa).put o.dst (some r.1) v hd fun y hy=>by obtain rfl:=aaZ hy;exact q3⟩
   ·exact h.elim
  ·exact h.elim
 d o env H:=match o.op with
  | .call { callee:=.value (.func f),args:=args, .. }=>match aau Es f with
   | some E=>GN E env H (lz env args.toList)
   | none=>.bad
  | _=>.bad
 dok m o cx bs S env Hv Hf a w r K Q _ hv hs he h hK:=by
  split at h
  ·rename_i f args ts hop;split at h
   ·rename_i E hE;have hf:E.f=f:=by have:=List.find?_some hE;simpa using this
    subst hf;exact Js hs he hop (QI hv h) hK
   ·exact h.elim
  ·exact h.elim
section
variable {P:Program} {m:Nat} {loops:List Code} (R:Rg P m) (L:Cj P R.fn m R.pb loops)
def fnE (n:Nat) (body:Code) (l0 lr:List (Nat×SS)) (x:cA l0):T (XV×cA lr):=(run R L n [.code 0 body] (du l0 x)).bind fun q=>match q with
 | .ret r st=>T.op ((pp R.pb lr st).map fun z=>(SL r,z))
 | .nrm st=>if R.fn.results.toList.isEmpty then T.op ((pp R.pb lr st).map fun z=>(.tup [],z)) else .bad
 | _=>.bad
end
theorem GM {P:Program} {fn:Func} {f:FuncId} {body:Code} {loops:List Code} (R:Rg P fn.ntmps) (L:Cj P R.fn fn.ntmps R.pb loops) (UU:R.fn=fn) (aj5:R.pb≠[]) (hf:P.funcs[f]?=some fn) (hb:fn.body=some body) (hl:loops=kO body) (n:Nat) (l0 lr:List (Nat×SS)) (F:cA l0→T (XV×cA lr)) (Fi:l0.length≤fn.ntmps) (h:∀x r,My l0 x→(F x).hit r→(fnE R L n body l0 lr x).hit r):gh P f R.pb l0 lr F:=by
 intro cx bs S vs x r z nR hS hs PO Cq hr;have he:ER fn.ntmps bs cx.w0 S (du l0 x).env { tmps:=vs.toArray++Array.replicate (fn.ntmps-vs.toArray.size) undef,defers:=[] }:=by
  refine⟨rfl,?_,fun t y hy=>?_⟩
  ·show(vs.toArray++Array.replicate (fn.ntmps-vs.toArray.size) undef).size=_;rw[Array.size_append,Array.size_replicate,abM];omega
  ·obtain⟨v,hv,hx⟩:=PO t y hy;refine⟨v,?_,hx⟩;show(vs.toArray++Array.replicate (fn.ntmps-vs.toArray.size) undef)[t]?=_;rw[Array.getElem?_append,if_pos (by rw[abM];exact(aad.1 hv).1)];simpa using hv
 obtain⟨q,h3,h4⟩:=T.hit_bind (h x (r,z) (Rk ⟨bs,S,hs,he⟩) hr);refine calls_of_wp hf hb (wp_mono (AJ (cx:=cx) nR h3 ⟨bs,S,hs,he⟩ fun j z hz=>by rw[hl,abQ];exact hz) fun e a' w' hq=>?_);cases e with
 | ret=>
  obtain⟨r',dG,rfl,bn,S1,S',fV,zU,k1,k4,v,k2,k3⟩:=hq;have h4:=T.hit_op h4;cases e2:pp R.pb lr dG with
  | none=>rw[e2] at h4;cases h4
  | some z'=>
   rw[e2] at h4;injection h4 with h4
   injection h4 with e3 e4
   subst e3 e4;rw[UU] at k2;rw[←nR] at e2;obtain⟨us,q1,_⟩:=od e2 fV zU;refine⟨zU.d,v,k2,v,us,S1,rfl,q1,(H8 k3).keep (fun b hb=>?_) (aA.refl _ _) (jD.refl _)⟩;rcases k4 with k4|k4
   ·exact absurd (nR▸k4) aj5
   ·exact k4 b hb
 | normal=>
  obtain⟨dG,rfl,bn,S1,fV,zU⟩:=hq;simp only at h4;split at h4
  ·rename_i rO;have h4:=T.hit_op h4;cases e2:pp R.pb lr dG with
   | none=>rw[e2] at h4;cases h4
   | some z'=>
    rw[e2] at h4;injection h4 with h4
    injection h4 with e3 e4
    subst e3 e4;rw[UU] at rO;rw[←nR] at e2;obtain⟨us,q1,_⟩:=od e2 fV zU;have Pp:fn.results=#[]:=by
     have:fn.results.toList=[]:=List.isEmpty_iff.1 rO;rw[←abT (xs:=fn.results),this]
    exact⟨zU.d,_,results_none Pp _ _ _,_,us,S1,rfl,q1,[],rfl,.nil⟩
  ·exact h4.elim
 | exit id=>
  obtain⟨dG,rfl,_⟩:=hq;exact h4.elim
 | _=>exact hq.elim
end Go.Proofs.YtjlhbfbdcfajfaaGreatDoor
