/- MSt Draw3 Grow MWk MOp -/
import Derived.Test.YtdbpbfglhbiadaaGreatDoorH00
import Derived.Test.YtdbpbfglhbiadaaGreatDoorH22
import Derived.OrdersHeld
import Derived.RegionTactic
import Derived.Deep.RegionHeld
import Derived.Test.YtdbpbfglhbiadaaGreatDoorH01
import Derived.Test.YtdbpbfglhbiadaaGreatDoorH12
import Derived.Test.YtdbpbfglhbiadaaGreatDoorProg
import Derived.Great.BuildSlice
set_option maxHeartbeats 4000000
set_option maxRecDepth 100000
namespace Go.Proofs.YtdbpbfglhbiadaaGreatDoor
open Go Go.RowKit
abbrev Env:=List (Nat×XV)
structure dA where
 env:Env
 heap:List ah
structure Cx where
 w0:World
 S0:Nat->Prop
 M:Nat->Prop
 bs0:List Value
 pb:List Nat
 wk:∀w:World,w0.heap.size<=w.heap.size->w.os=w0.os->w.tape=w0.tape->w.output=w0.output->(∀b,b<w0.heap.size->¬M b->w.heap[b]?=w0.heap[b]?)->Wd w
def ZR (bs:List Value) (w:World) (S:Nat->Prop) {t tn:Ty} (gO:Nat) (done:List (El t)) (cur:List AV) (rest:List (El tn)) (bE:List (jE (aA.sz (El t)))):Prop:=
 bE.length=gO/\∀(j:Nat) (r:jE (aA.sz (El t))),bE[j]?=some r->(∀x,done[j]?=some x->aA.rep (α:=El t) w S r.cells x)/\(j=done.length->F2 (VR bs w S) cur r.cells)/\(done.length<j->aA.rep (α:=El tn) w S r.cells (rest.getD (j-done.length-1) (BA tn)))
def ZC (w:World) (S:Nat->Prop) {t tn:Ty} (gO:Nat) (done:List (El t)) (rest:List (El tn)) (bE:List (jE (aA.sz (El t)))):Prop:=
 bE.length=gO/\∀(j:Nat) (r:jE (aA.sz (El t))),bE[j]?=some r->(∀x,done[j]?=some x->aA.rep (α:=El t) w S r.cells x)/\(done.length<=j->aA.rep (α:=El tn) w S r.cells (rest.getD (j-done.length) (BA tn)))
def uw (bs:List Value) (w:World) (S:Nat->Prop) (p:Nat) (kt:Kt) (t:Ty) (e:TypeId) (n:Nat) (f:kt.K->Option (List (El t))) (x:kt.K->Prop) (v:Value):Prop:=
 ∃b l g,v=sx b l/\bs[p]?=some (.map (some b))/\jU w kt b n g/\(∀k u,g k=some u↔(kt.val k,u)∈l)/\(∀k,¬x k->match f k with|none=>g k=none|some xs=>∃u,g k=some u/\Own (α:=El t) w S 0 e u xs.reverse)/\
  (∀k k' u u' c,g k=some u->g k'=some u'->k≠k'->u.ownBlock=some c->u'.ownBlock≠some c)/\∀k u,g k=some u->u.ownBlock≠some b
def OR (bs:List Value) (w:World) (S:Nat->Prop):ah->Value->Prop
 | .mp kt t n f,v=>∃b g,v=.map (some b)/\jU w kt b n g/\∀k,xe (α:=El t) w S (f k) (g k)
 | .mq _,v=>∃b,v=.map (some b)
 | .mr p kt t e n f,v=>uw bs w S p kt t e n f (λ_=>False) v
 | .mx p kt t e n f k,v=>uw bs w S p kt t e n f (·=k) v
 | .zc e t tn gO done rest,v=>∃bE:List (jE (aA.sz (El t))),Own w S 0 e v bE/\ZC w S (tn:=tn) gO done rest bE
 | .zip o2 e t tn gO done cur rest,v=>∃bE:List (jE (aA.sz (El t))),Own w S 0 e v bE/\ZR bs w S (tn:=tn) gO done cur rest bE/\done.length<gO/\∃u,bs[o2]?=some u/\vY u=true/\∀g n c,v=.slice (some ⟨g,0,none⟩) n c->u=.pointer (some ⟨g,done.length*aA.sz (El t),none⟩)
 | .cells ty cs,v=>∃(g:Nat) (vs:List Value),v=.pointer (some ⟨g,0,none⟩)/\df w g ty vs.toArray/\F2 (VR bs w S) cs vs
 | .row t e rs,v=>Own (α:=El t) w S 0 e v rs.reverse
 | .dead,_=>True
def bk:ah->Value->Option Nat
 | .cells _ _,.pointer (some a)=>some a.block
 | .row _ _ _,v=>v.ownBlock
 | .zc _ _ _ _ _ _,v=>v.ownBlock
 | .zip _ _ _ _ _ _ _ _,v=>v.ownBlock
 | .mp _ _ _ _,.map (some b)=>some b
 | _,_=>none
def xh (kt:Kt) (x:kt.K->Prop) (v:Value) (c:Nat):Prop:=∃b l,v=sx b l/\(c=b\/∃(k:kt.K) (u:Value),¬x k/\(kt.val k,u)∈l/\u.ownBlock=some c)
def Bk:ah->Value->Nat->Prop
 | .mr _ kt _ _ _ _,v,c=>xh kt (λ_=>False) v c
 | .mx _ kt _ _ _ _ k,v,c=>xh kt (·=k) v c
 | x,v,c=>bk x v=some c
theorem Ro {x:ah} {v:Value} {c:Nat} (h:bk x v=some c):Bk x v c:=by
 cases x with
 | mr p kt t e n f=>cases h
 | mx p kt t e n f k=>cases h
 | _=>exact h
structure HS (cx:Cx) (bs:List Value) (w:World) (S:Nat->Prop) (H:List ah):Prop where
 len:bs.length=H.length
 o:∀(i:Nat) (x:ah) (v:Value),H[i]?=some x->bs[i]?=some v->OR bs w S x v
 ap:∀(i j:Nat) (x y:ah) (u v:Value) (b:Nat),i≠j->H[i]?=some x->bs[i]?=some u->H[j]?=some y->bs[j]?=some v->Bk x u b->¬Bk y v b
 nw:∀(i:Nat) (x:ah) (v:Value) (b:Nat),H[i]?=some x->bs[i]?=some v->Bk x v b->(cx.w0.heap.size<=b\/cx.M b)/\¬S b
 s:∀b,S b->b<w.heap.size/\(cx.S0 b\/cx.w0.heap.size<=b\/cx.M b)
 s0:∀b,cx.S0 b->S b
 os:w.os=cx.w0.os
 tape:w.tape=cx.w0.tape
 output:w.output=cx.w0.output
 size:cx.w0.heap.size<=w.heap.size
 old:∀b,b<cx.w0.heap.size->¬cx.M b->w.heap[b]?=cx.w0.heap[b]?
 an:∀(i:Nat) (v:Value),i∈cx.pb->cx.bs0[i]?=some v->vY v=true->bs[i]?=some v
structure ER (m:Nat) (bs:List Value) (w:World) (S:Nat->Prop) (env:Env) (a:Act):Prop where
 d:a.defers=[]
 s:a.tmps.size=m
 k:∀(t:Nat) (x:XV),(t,x)∈env->∃v,a.tmps[t]?=some v/\XR bs w S x v
def fc (m:Nat) (cx:Cx) (st:dA) (a:Act) (w:World):Prop:=∃bs S,HS cx bs w S st.heap/\ER m bs w S st.env a
section
variable {cx:Cx} {bs aZ:List Value} {w w':World} {S S':Nat->Prop} {H:List ah} {m:Nat} {env:Env} {a:Act}
theorem HS.wd (hs:HS cx bs w S H):Wd w:=cx.wk w hs.size hs.os hs.tape hs.output hs.old
theorem ZR.keep {t tn:Ty} {gO:Nat} {done:List (El t)} {cur:List AV} {rest:List (El tn)} {bE:List (jE (aA.sz (El t)))} (h:ZR bs w S gO done cur rest bE) (hS:∀b,S b->S' b) (hk:aw S w w') (hb:iV bs aZ):ZR aZ w' S' gO done cur rest bE:=
 ⟨h.1,λj r hr=>let ⟨h1,h2,h3⟩:=h.2 j r hr;⟨λx hx=>aA.keep (h1 x hx) hS hk,λe=>(h2 e).mono λ_ _ q=>q.keep hS hk hb,λe=>aA.keep (h3 e) hS hk⟩⟩
theorem ZC.keep {t tn:Ty} {gO:Nat} {done:List (El t)} {rest:List (El tn)} {bE:List (jE (aA.sz (El t)))} (h:ZC w S gO done rest bE) (hS:∀b,S b->S' b) (hk:aw S w w'):ZC w' S' gO done rest bE:=
 ⟨h.1,λj r hr=>let ⟨h1,h3⟩:=h.2 j r hr;⟨λx hx=>aA.keep (h1 x hx) hS hk,λe=>aA.keep (h3 e) hS hk⟩⟩
theorem uw.blk {p n:Nat} {kt:Kt} {t:Ty} {e:TypeId} {f:kt.K->Option (List (El t))} {x:kt.K->Prop} {v:Value} (h:uw bs w S p kt t e n f x v) {c:Nat} (hc:xh kt x v c):c<w.heap.size:=by
 obtain⟨b,l,g,rfl,h1,h2,h3,h4,h5,h6⟩:=h;obtain⟨b',l',e1,hc⟩:=hc;obtain⟨rfl,rfl⟩:=lh e1;rcases hc with rfl|⟨k,u,hx,hu,hc⟩
 ·exact h2.lt
 ·have:=h4 k hx;have hu:=(h3 k u).2 hu;cases hf:f k with
  | none=>rw[hf] at this;rw[this] at hu;cases hu
  | some xs=>
   rw[hf] at this;obtain⟨u',uk,ho⟩:=this;rw[uk] at hu;injection hu with hu
   subst hu;exact(Own.lt ho c hc).2
theorem uw.keep {p n:Nat} {kt:Kt} {t:Ty} {e:TypeId} {f:kt.K->Option (List (El t))} {x:kt.K->Prop} {v:Value} (h:uw bs w S p kt t e n f x v) {row:Option Nat} (hg:w.grownBy w' row) (hb:∀c,xh kt x v c->some c≠row) (hk:aw S w w') (hS:∀b,S b->S' b) (hn:∀c,S' c->c<w'.heap.size/\¬xh kt x v c) (Ga:iV bs aZ):uw aZ w' S' p kt t e n f x v:=by
 obtain⟨b,l,g,rfl,h1,h2,h3,h4,h5,h6⟩:=h;have AP:∀k u c,¬x k->g k=some u->u.ownBlock=some c->xh kt x (sx b l) c:=λk u c hx hu hc=>⟨b,l,rfl,.inr ⟨k,u,hx,(h3 k u).1 hu,hc⟩⟩;refine⟨b,l,g,rfl,Ga _ _ h1 rfl,h2.kept hg (hb b ⟨b,l,rfl,.inl rfl⟩),h3,λk hx=>?_,h5,h6⟩;have:=h4 k hx;cases hf:f k with
 | none=>rw[hf] at this;exact this
 | some xs=>
  rw[hf] at this;obtain⟨u,hu,cs,q1,q2,q3⟩:=this;refine⟨u,hu,cs,q1.kept hg ?_,q2.keep hS hk,λc hc=>⟨(hn c hc).1,λe=>(hn c hc).2 (AP k u c hx hu e.symm)⟩⟩;cases e:u.ownBlock with
  | none=>exact .inl rfl
  | some c=>exact .inr λe2=>hb c (AP k u c hx hu e) (by rw[<-e2])
theorem OR.lt {x:ah} {v:Value} {b:Nat} (h:OR bs w S x v) (hb:Bk x v b):b<w.heap.size:=by
 cases x with
 | cells ty cs=>obtain⟨g,vs,rfl,hk,_⟩:=h;injection hb with hb;rw[<-hb];exact hk.lt
 | row t e rs=>exact(Own.lt h b hb).2
 | zc e t tn gO done rest=>obtain⟨bE,h,_⟩:=h;exact(Own.lt h b hb).2
 | zip o2 e t tn gO done cur rest=>obtain⟨bE,h,_⟩:=h;exact(Own.lt h b hb).2
 | dead=>cases hb
 | mp kt t n f=>obtain⟨b',g,rfl,h,_⟩:=h;injection hb with hb;subst hb;exact h.lt
 | mq q=>obtain⟨b',rfl⟩:=h;cases hb
 | mr p kt t e n f=>exact uw.blk h hb
 | mx p kt t e n f k=>exact uw.blk h hb
theorem OR.keep {x:ah} {v:Value} (h:OR bs w S x v) {row:Option Nat} (hg:w.grownBy w' row) (hb:∀b,Bk x v b->some b≠row) (hk:aw S w w') (hS:∀b,S b->S' b) (hn:∀b,S' b->b<w'.heap.size/\¬Bk x v b) (Ga:iV bs aZ):OR aZ w' S' x v:=by
 cases x with
 | cells ty cs=>
  obtain⟨g,vs,rfl,h1,h2⟩:=h;exact⟨g,vs,rfl,h1.grown hg (hb g rfl),h2.mono λ_ _ h=>h.keep hS hk Ga⟩
 | row t e rs=>
  obtain⟨cs,h1,h2,h3⟩:=h;refine⟨cs,h1.kept hg ?_,h2.keep hS hk,λb hb=>⟨(hn b hb).1,λe=>(hn b hb).2 e.symm⟩⟩;cases e:v.ownBlock with
  | none=>exact .inl rfl
  | some b=>exact .inr λe2=>hb b e (by rw[<-e2])
 | zc e t tn gO done rest=>
  obtain⟨bE,⟨cs,h1,h2,h3⟩,hz⟩:=h;refine⟨bE,⟨cs,h1.kept hg ?_,h2.keep hS hk,λb hb=>⟨(hn b hb).1,λe=>(hn b hb).2 e.symm⟩⟩,hz.keep hS hk⟩;cases e:v.ownBlock with
  | none=>exact .inl rfl
  | some b=>exact .inr λe2=>hb b e (by rw[<-e2])
 | zip o2 e t tn gO done cur rest=>
  obtain⟨bE,⟨cs,h1,h2,h3⟩,hz,hl,u,hu,qZ,hv⟩:=h;refine⟨bE,⟨cs,h1.kept hg ?_,h2.keep hS hk,λb hb=>⟨(hn b hb).1,λe=>(hn b hb).2 e.symm⟩⟩,hz.keep hS hk Ga,hl,u,Ga _ _ hu qZ,qZ,hv⟩;cases e:v.ownBlock with
  | none=>exact .inl rfl
  | some b=>exact .inr λe2=>hb b e (by rw[<-e2])
 | dead=>exact trivial
 | mp kt t n f=>obtain⟨b',g,rfl,h1,h2⟩:=h;exact⟨b',g,rfl,h1.kept hg (hb b' rfl),λk=>(h2 k).keep hS hk⟩
 | mq q=>exact h
 | mr p kt t e n f=>exact uw.keep h hg hb hk hS hn Ga
 | mx p kt t e n f k=>exact uw.keep h hg hb hk hS hn Ga
theorem aw.of_row {row:Option Nat} (hg:w.grownBy w' row) (hS:∀b,S b->b<w.heap.size/\some b≠row):aw S w w':=(aw.grown hg).sub hS
theorem HS.grow (h:HS cx bs w S H) (hb:Below w.heap.size w w') (hS:∀b,S b->S' b) (hn:∀b,S' b->S b\/(w.heap.size<=b/\b<w'.heap.size)):HS cx bs w' S' H where
 len:=h.len
 o i x v hx hv:=by
  have kD:=h.o i x v hx hv;refine kD.keep (eh hb (aaG _) none) (by simp) ((aw.of_below hb).sub λb q=>(h.s b q).1) hS (λb q=>⟨?_,λe=>?_⟩) (iV.refl _)
  ·rcases hn b q with q|q
   ·exact abx (h.s b q).1 hb.size
   ·exact q.2
  ·rcases hn b q with q|q
   ·exact(h.nw i x v b hx hv e).2 q
   ·have:=kD.lt e;omega
 ap:=h.ap
 nw i x v b hx hv mz:=by
  refine⟨(h.nw i x v b hx hv mz).1,λq=>?_⟩;rcases hn b q with q|q
  ·exact(h.nw i x v b hx hv mz).2 q
  ·have:=(h.o i x v hx hv).lt mz;omega
 s b q:=by
  rcases hn b q with q|q
  ·exact⟨abx (h.s b q).1 hb.size,(h.s b q).2⟩
  ·exact⟨q.2,.inr (.inl (aax h.size q.1))⟩
 s0 b q:=hS b (h.s0 b q)
 os:=hb.os.trans h.os
 tape:=hb.tape.trans h.tape
 output:=hb.output.trans h.output
 size:=aax h.size hb.size
 old b q1 q2:=(hb.block b (abx q1 h.size)).trans (h.old b q1 q2)
 an:=h.an
theorem ER.keep (h:ER m bs w S env a) (hS:∀b,S b->S' b) (hk:aw S w w') (hb:iV bs aZ):ER m aZ w' S' env a:=
 ⟨h.d,h.s,λt x hx=>let ⟨v,h1,h2⟩:=h.k t x hx;⟨v,h1,h2.keep hS hk hb⟩⟩
theorem ER.grow (h:ER m bs w S env a) (hs:HS cx bs w S H) (hb:Below w.heap.size w w') (hS:∀b,S b->S' b):ER m bs w' S' env a:=
 h.keep hS ((aw.of_below hb).sub λb q=>(hs.s b q).1) (iV.refl _)
def pQ (env:Env) (d:Option Tmp) (x:Option XV):Env:=match d with
 | none=>env
 | some t=>match x with
  | some x=>(t,x)::env.filter λp=>!(p.1==t)
  | none=>env.filter λp=>!(p.1==t)
theorem ER.put (h:ER m bs w S env a) (d:Option Tmp) (x:Option XV) (v:Value) (hd:(match d with|some t=>decide (t<m)|none=>true)=true) (hx:∀y,x=some y->XR bs w S y v):ER m bs w S (pQ env d x) (a.put d v):=by
 cases d with
 | none=>exact h
 | some t=>
  have ht:t<m:=of_decide_eq_true hd;have hold:∀u y,(u,y)∈env.filter (λp=>!(p.1==t))->∃z,(a.tmps.setIfInBounds t v)[u]?=some z/\XR bs w S y z:=λu y hy=>by
   obtain⟨h1,h2⟩:=ac6.1 hy;have fR:u≠t:=by simpa using h2
   rw[ac7 (acE fR)];exact h.k u y h1
  refine⟨h.d,by show(a.tmps.setIfInBounds t v).size=m;rw[Array.size_setIfInBounds];exact h.s,λu y hy=>?_⟩;cases x with
  | none=>exact hold u y hy
  | some x=>
   rcases abs.1 hy with e|hy
   ·injection e with e1 e2
    subst e1 e2;exact⟨v,acm (by rw[h.s];exact ht),hx _ rfl⟩
   ·exact hold u y hy
theorem HS.pad (h:HS cx bs w S H):HS cx (bs++[undef]) w S (H++[.dead]):=by
 have mono:iV bs (bs++[undef]):=λo u hu _=>by
  rw[aay (aad.1 hu).1];exact hu
 have gn:∀(i:Nat) (y:ah) (u:Value),(H++[.dead])[i]?=some y->(bs++[undef])[i]?=some u->(H[i]?=some y/\bs[i]?=some u)\/y=.dead:=by
  intro i y u hy hu;by_cases hi:i<H.length
  ·left
   rw[aay hi] at hy;rw[aay (by rw[h.len];exact hi)] at hu;exact⟨hy,hu⟩
  ·right
   have Ss:i<H.length+1:=by have:=(aad.1 hy).1;simpa using this
   obtain rfl:i=H.length:=by omega
   rw[aar (aaG _)] at hy;simpa using hy.symm
 refine⟨by simp[h.len],?_,?_,?_,h.s,h.s0,h.os,h.tape,h.output,h.size,h.old,λi v p q r=>mono _ _ (h.an i v p q r) r⟩
 ·intro i y u hy hu;rcases gn i y u hy hu with⟨hy,hu⟩|rfl
  ·exact(h.o i y u hy hu).keep (eh (Below.refl _ _) (aaG _) none) (by simp) (aw.refl _ _) (λ_ h=>h) (λb q=>⟨(h.s b q).1,λe=>(h.nw i y u b hy hu e).2 q⟩) mono
  ·exact trivial
 ·intro i j y z u u2 b xl hy hu hz qZ ci bX;rcases gn i y u hy hu with⟨p1,p2⟩|rfl
  ·rcases gn j z u2 hz qZ with⟨p3,p4⟩|rfl
   ·exact h.ap i j y z u u2 b xl p1 p2 p3 p4 ci bX
   ·cases bX
  ·cases ci
 ·intro i y u b hy hu ci;rcases gn i y u hy hu with⟨hy,hu⟩|rfl
  ·exact h.nw i y u b hy hu ci
  ·cases ci
theorem HS.fill (h:HS cx bs w S H) {j:Nat} {x:ah} {v u0:Value} (hj:H[j]?=some .dead) (hbj:bs[j]?=some u0) (hu0:vY u0=false) (ho:OR (bs.set j v) w S x v) (hb:∀b,Bk x v b->(cx.w0.heap.size<=b\/cx.M b)/\¬S b/\∀(i:Nat) (y:ah) (u:Value),H[i]?=some y->bs[i]?=some u->¬Bk y u b):HS cx (bs.set j v) w S (H.set j x):=by
 have hl:=(aad.1 hj).1;have mono:iV bs (bs.set j v):=λo u hu qZ=>by
  rw[aaS (λe=>by subst e;rw[hbj] at hu;injection hu with hu;subst hu;rw[hu0] at qZ;cases qZ)];exact hu
 have gn:∀(i:Nat) (y:ah) (u:Value),(H.set j x)[i]?=some y->(bs.set j v)[i]?=some u->(H[i]?=some y/\bs[i]?=some u)\/(i=j/\y=x/\u=v):=by
  intro i y u hy hu;by_cases e:j=i
  ·right
   subst e;rw[abv hl] at hy;rw[abv (by rw[h.len];exact hl)] at hu;exact⟨rfl,(aaj hy).symm,(aaj hu).symm⟩
  ·left
   rw[aaS e] at hy hu;exact⟨hy,hu⟩
 refine⟨by simp[h.len],?_,?_,?_,h.s,h.s0,h.os,h.tape,h.output,h.size,h.old,λi v p q r=>mono _ _ (h.an i v p q r) r⟩
 ·intro i y u hy hu;rcases gn i y u hy hu with⟨hy,hu⟩|⟨_,rfl,rfl⟩
  ·exact(h.o i y u hy hu).keep (eh (Below.refl _ _) (aaG _) none) (by simp) (aw.refl _ _) (λ_ h=>h) (λb q=>⟨(h.s b q).1,λe=>(h.nw i y u b hy hu e).2 q⟩) mono
  ·exact ho
 ·intro i j y z u u2 b xl hy hu hz qZ ci bX;rcases gn i y u hy hu with⟨p1,p2⟩|⟨e1,e3,e4⟩
  ·rcases gn j z u2 hz qZ with⟨p3,p4⟩|⟨_,e5,e6⟩
   ·exact h.ap i j y z u u2 b xl p1 p2 p3 p4 ci bX
   ·rw[e5,e6] at bX;exact(hb b bX).2.2 i y u p1 p2 ci
  ·rw[e3,e4] at ci;rcases gn j z u2 hz qZ with⟨p3,p4⟩|⟨e2,_,_⟩
   ·exact(hb b ci).2.2 j z u2 p3 p4 bX
   ·exact xl (e1.trans e2.symm)
 ·intro i y u b hy hu ci;rcases gn i y u hy hu with⟨hy,hu⟩|⟨_,rfl,rfl⟩
  ·exact h.nw i y u b hy hu ci
  ·exact⟨(hb b ci).1,(hb b ci).2.1⟩
theorem HS.mask (h:HS cx bs w S H) {H':List ah} (hl:H'.length=H.length) (hm:∀(i:Nat) (x:ah),H'[i]?=some x->x=.dead\/H[i]?=some x):HS cx bs w S H':=by
 refine⟨by rw[h.len,hl],?_,?_,?_,h.s,h.s0,h.os,h.tape,h.output,h.size,h.old,h.an⟩
 ·intro i x v hx hv;rcases hm i x hx with rfl|hx
  ·exact trivial
  ·exact h.o i x v hx hv
 ·intro i j x y u v b xl hx hu hy hv ci bX;rcases hm i x hx with rfl|hx
  ·cases ci
  rcases hm j y hy with rfl|hy
  ·cases bX
  exact h.ap i j x y u v b xl hx hu hy hv ci bX
 ·intro i x v b hx hv hb;rcases hm i x hx with rfl|hx
  ·cases hb
  ·exact h.nw i x v b hx hv hb
theorem nl (bs:List Value) (v:Value):iV bs (bs++[v]):=λo u hu _=>by
 rw[aay (aad.1 hu).1];exact hu
theorem HS.setB (h:HS cx bs w S H) {i:Nat} {x y:ah} {v:Value} (hx:H[i]?=some x) (hv:bs[i]?=some v) {row:Option Nat} (hg:w.grownBy w' row) (mn:∀c,row=some c->Bk x v c) (kD:OR bs w' S y v) (qu:∀c,Bk y v c->Bk x v c):HS cx bs w' S (H.set i y):=by
 have hlt:=(aad.1 hx).1;have gn:∀(j:Nat) (z:ah),(H.set i y)[j]?=some z->(j=i/\z=y)\/(j≠i/\H[j]?=some z):=by
  intro j z hz;by_cases hj:j=i
  ·subst hj;rw[abv hlt] at hz;injection hz with hz
   exact .inl ⟨rfl,hz.symm⟩
  ·rw[aaS (acE hj)] at hz;exact .inr ⟨hj,hz⟩
 have hk:aw S w w':=aw.of_row hg λb q=>⟨(h.s b q).1,λe=>(h.nw i x v b hx hv (mn b e.symm)).2 q⟩;refine⟨by simp[h.len],?_,?_,?_,λb q=>⟨abx (h.s b q).1 hg.size,(h.s b q).2⟩,h.s0,hg.os.trans h.os,hg.tape.trans h.tape,hg.output.trans h.output,aax h.size hg.size,?_,h.an⟩
 ·intro j z u hz hu;rcases gn j z hz with⟨rfl,rfl⟩|⟨hj,hz⟩
  ·rw[hv] at hu;injection hu with hu;subst hu;exact kD
  ·exact(h.o j z u hz hu).keep hg (λb hb e=>h.ap j i z x u v b hj hz hu hx hv hb (mn b e.symm)) hk (λ_ h=>h) (λb q=>⟨abx (h.s b q).1 hg.size,λe=>(h.nw j z u b hz hu e).2 q⟩) (iV.refl _)
 ·intro j k z z2 u u2 b hjk hz hu jR qZ ci bX;have q:∀(j:Nat) (z:ah) (u:Value),(H.set i y)[j]?=some z->bs[j]?=some u->Bk z u b->∃z',H[j]?=some z'/\Bk z' u b:=by
   intro j z u hz hu hb;rcases gn j z hz with⟨rfl,rfl⟩|⟨_,hz⟩
   ·rw[hv] at hu;injection hu with hu;subst hu
    exact⟨x,hx,qu b hb⟩
   ·exact⟨z,hz,hb⟩
  obtain⟨z',q1,q2⟩:=q j z u hz hu ci;obtain⟨z2',q3,q4⟩:=q k z2 u2 jR qZ bX;exact h.ap j k z' z2' u u2 b hjk q1 hu q3 qZ q2 q4
 ·intro j z u b hz hu hb;rcases gn j z hz with⟨rfl,rfl⟩|⟨_,hz⟩
  ·rw[hv] at hu;injection hu with hu;subst hu
   exact h.nw j x v b hx hv (qu b hb)
  ·exact h.nw j z u b hz hu hb
 ·intro b q1 q2;rw[hg.block b (abx q1 h.size) λe=>?_]
  ·exact h.old b q1 q2
  ·rcases(h.nw i x v b hx hv (mn b e.symm)).1 with q|q
   ·omega
   ·exact q2 q
theorem HS.set (h:HS cx bs w S H) {i:Nat} {x y:ah} {v:Value} (hx:H[i]?=some x) (hv:bs[i]?=some v) (hg:w.grownBy w' (bk x v)) (kD:OR bs w' S y v) (qu:bk y v=bk x v\/bk y v=none) (hy:∀c,Bk y v c->bk y v=some c:=by intro c h;exact h):HS cx bs w' S (H.set i y):=
 h.setB hx hv hg (λ_ e=>Ro e) kD λc hc=>by
  have hc:=hy c hc;rcases qu with e|e
  ·exact Ro (e▸hc)
  ·rw[e] at hc;cases hc
theorem HS.keeps (h:HS cx bs w S H) {i:Nat} {x:ah} {v:Value} (hx:H[i]?=some x) (hv:bs[i]?=some v) (hg:w.grownBy w' (bk x v)):aw S w w':=
 aw.of_row hg λb q=>⟨(h.s b q).1,λe=>(h.nw i x v b hx hv (Ro e.symm)).2 q⟩
end
theorem xh.weak {kt:Kt} {x y:kt.K->Prop} {v:Value} {c:Nat} (h:xh kt x v c) (hy:∀k,y k->x k:=by intro k h;exact h.elim):xh kt y v c:=by
 obtain⟨b,l,e,h⟩:=h;exact⟨b,l,e,h.imp id λ⟨k,u,h1,h2⟩=>⟨k,u,λh=>h1 (hy k h),h2⟩⟩
section
variable {bs aZ:List Value} {w w':World} {S S':Nat->Prop} {p n:Nat} {kt:Kt} {t:Ty} {e:TypeId} {f:kt.K->Option (List (El t))}
theorem uw.row {b:Nat} {l:List (Value×Value)} {k:kt.K} {v:Value} (Bz:∀b,S b->b<w.heap.size) (h:uw bs w S p kt t e n f (λ_=>False) (sx b l)) (hv:(kt.val k,v)∈l\/(v=.slice none 0 0/\∀u,(kt.val k,u)∉l)):Own (α:=El t) w S 0 e v ((f k).getD []).reverse/\∀c,v.ownBlock=some c->xh kt (λ_=>False) (sx b l) c/\¬xh kt (·=k) (sx b l) c:=by
 obtain⟨b',l',g,e1,h1,h2,h3,h4,h5,h6⟩:=h;obtain⟨rfl,rfl⟩:=lh e1;have:=h4 k id;rcases hv with hv|⟨rfl,hv⟩
 ·have hg:=(h3 k v).2 hv;refine⟨?_,λc hc=>⟨⟨b,l,rfl,.inr ⟨k,v,id,hv,hc⟩⟩,λ⟨b',l',e2,h⟩=>?_⟩⟩
  ·cases hf:f k with
   | none=>rw[hf] at this;rw[this] at hg;cases hg
   | some xs=>
    rw[hf] at this;obtain⟨u,hu,ho⟩:=this;rw[hg] at hu;obtain rfl:=aaj hu;exact ho
  ·obtain⟨rfl,rfl⟩:=lh e2;rcases h with rfl|⟨k',u',hk,uk,Qe⟩
   ·exact h6 k v hg hc
   ·exact h5 k k' v u' c hg ((h3 k' u').2 uk) (acE hk) hc Qe
 ·refine⟨?_,λc hc=>by cases hc⟩;cases hf:f k with
  | none=>exact Own.nil' w S Bz 0 e
  | some xs=>
   rw[hf] at this;obtain⟨u,hu,_⟩:=this;exact absurd ((h3 k u).1 hu) (hv u)
theorem uw.out {v:Value} {k:kt.K} (h:uw bs w S p kt t e n f (λ_=>False) v) {row:Option Nat} (hg:w.grownBy w' row) (hk:aw S w w') (hn:∀c,S c->c<w'.heap.size/\¬xh kt (·=k) v c) (mn:∀c,row=some c->¬xh kt (·=k) v c):uw bs w' S p kt t e n f (·=k) v:=
 uw.keep (let ⟨b,l,g,h0,h1,h2,h3,h4,h5⟩:=h;⟨b,l,g,h0,h1,h2,h3,λk _=>h4 k id,h5⟩) hg (λc hc e=>mn c e.symm hc) hk (λ_ h=>h) hn (iV.refl _)
end
def jH:ah->Option AV
 | .row t _ rs=>some (.list t rs.reverse !rs.isEmpty)
 | .mp kt t _ f=>some (.map kt t f)
 | _=>none
def lZ:AV->Option Nat
 | .own o=>some o
 | .mp o=>some o
 | _=>none
section
variable {bs:List Value} {w:World} {S S':Nat->Prop}
theorem vk {a:AV} {o:Nat} {v:Value} (h:VR bs w S a v) (ho:lZ a=some o):bs[o]?=some v:=by
 cases a with
 | own i=>injection ho with ho;subst ho;exact h.1
 | mp i=>injection ho with ho;subst ho;exact h.1
 | _=>cases ho
theorem vh {t:Ty} {e:TypeId} {xs:List (El t)} {v:Value} (ho:Own (α:=El t) w S 0 e v xs) (hS:∀b,S b->S' b) (hB:∀c,v.ownBlock=some c->S' c):∃A n c,v=.slice A n c/\RS w S' A n c xs:=by
 obtain⟨A,n,c,rfl,hn⟩:=ho.slice;obtain⟨cs,q1,q2,_⟩:=ho;subst hn;exact⟨A,_,c,rfl,RS.of_own q1 (q2.keep hS (aw.refl _ _)) rfl λg hg=>hB g hg⟩
theorem uE {y:ah} {x:AV} {v:Value} (kD:OR bs w S y v) (hx:jH y=some x) (hS:∀b,S b->S' b) (hB:∀c,Bk y v c->S' c):VR bs w S' x v:=by
 cases y with
 | row t e rs=>
  injection hx with hx
  subst hx;obtain⟨A,n,c,rfl,h⟩:=vh kD hS hB;exact⟨A,n,c,rfl,h,λe q=>by rw[List.reverse_eq_nil_iff.1 q] at e;cases e⟩
 | mp kt t n f=>
  injection hx with hx
  subst hx;obtain⟨b,g,rfl,hm,h⟩:=kD;exact .inr ⟨b,n,g,rfl,hB b rfl,hm,λk=>(h k).keep hS (aw.refl _ _)⟩
 | _=>cases hx
end
def reach (ops:Array Oper) (i:Nat):Nat->Nat->Bool
 | 0,_=>false
 | f+1,k=>match ops[k]? with|none=>false|some o=>o.after.any λe=>Region.binds .any e&&(e.on==i||reach ops i f e.on)
section
variable {P:Program} {ops:Array Oper} {Q:Exit->Act->World->Prop} {n:Nat} {o:Oper}
end
def lU (n:Nat) (ops:Array Oper):Bool:=
 ops.size==n&&(List.range n).all λi=>((ops[i]?).map λo=>o.after.all λe=>!Region.binds .any e||decide (e.on<i)).getD false
def waits (ops:Array Oper) (i j:Nat):Bool:=((ops[i]?).map λo=>o.after.any λe=>Region.binds .any e&&e.on==j).getD false
def jI (d:Nat->Bool) (i:Nat) (j:Nat):Bool:=if j=i then true else d j
theorem gh (d:Nat->Bool) (i:Nat):jI d i i=true:=if_pos rfl
theorem bC (d:Nat->Bool) {i j:Nat} (h:j≠i):jI d i j=d j:=if_neg h
section
variable {P:Program} {ops:Array Oper} {Q:Exit->Act->World->Prop} {n:Nat}
theorem fi (h:lU n ops=true):ops.size=n:=by
 simp only[lU,aav,beq_iff_eq] at h;exact h.1
theorem nk (h:lU n ops=true) {i:Nat} {x:Oper} (hx:ops[i]?=some x):∀e∈x.after,Region.binds .any e=true->e.on<i:=by
 have hi:i<n:=by rw[<-fi h];exact(adu.1 hx).1
 simp only[lU,aav] at h;have:=abc.1 h.2 i (abU.2 hi);rw[hx] at this;simp only[acU,acw,Array.all_eq_true_iff_forall_mem,acK,acs,decide_eq_true_eq] at this;exact λe he hb=>(this e he).resolve_left (by simp[hb])
theorem yM {listed:Array Bool} {i:Nat} (hi:i<listed.size):(λj=>(listed.setIfInBounds i true).getD j false)=jI (λj=>listed.getD j false) i:=by
 funext j
 unfold jI;by_cases h:j=i
 ·subst h;rw[if_pos rfl,act,acm hi];rfl
 ·rw[if_neg h];exact getD_set_ne false (acE h)
theorem JQ (Inv:(Nat->Bool)->Act->World->Prop) (hb:lU n ops=true) (ct:∀d a w i,i<n->Inv d a w->d i=false->(∀j,waits ops i j=true->d j=true)->wpOp P ops Q i (Inv (jI d i)) a w) (F8:∀d a w,Inv d a w->(∀i,i<n->d i=true)->Q .normal a w) : ∀(fuel:Nat) (listed:Array Bool) (a:Act) (w:World),listed.size=n->(List.range n).countP (λi=>!listed.getD i false)<=fuel->Inv (λj=>listed.getD j false) a w->wpAny P .any ops Q fuel listed a w:=by
 have eQ:∀(listed:Array Bool),listed.size=n->Region.ready .any ops listed=[]->∀i,i<n->listed.getD i false=true:=by
  intro listed hs hr;have:∀m i,i<m->i<n->listed.getD i false=true:=by
   intro m;induction m with
   | zero=>intro i hi;omega
   | succ m ih=>
    intro i hi dQ;by_cases hl:listed.getD i false=true
    ·exact hl
    ·exfalso
     have hlt:i<ops.size:=by rw[fi hb];exact dQ
     have:i∈Region.ready .any ops listed:=by
      refine mem_ready.2 ⟨?_,ops[i],acS hlt,λe he mz=>?_⟩
      ·rw[act,acS (by omega)] at hl ⊢;simpa using hl
      ·have h1:=nk hb (acS hlt) e he mz;exact ih _ (by omega) (by omega)
     rw[hr] at this;cases this
  exact λi hi=>this (i+1) i (by omega) hi
 intro fuel;induction fuel with
 | zero=>
  intro listed a w hs hc hi;have hd:∀i,i<n->listed.getD i false=true:=by
   intro i dQ;have:=List.countP_eq_zero.1 (Nat.le_zero.1 hc) i (abU.2 dQ);simpa using this
  refine⟨?_,F8 _ a w hi hd⟩;apply List.eq_nil_iff_forall_not_mem.2;intro j hj;obtain⟨h1,o,ho,_⟩:=mem_ready.1 hj;have hjn:j<n:=by rw[<-fi hb];exact(adu.1 ho).1
  have h2:=hd j hjn;rw[act,acS (by omega)] at h1 h2;simp only[acw] at h1 h2;rw[h1] at h2;cases h2
 | succ fuel ih=>
  intro listed a w hs hc hi;refine⟨λh0=>F8 _ a w hi (eQ listed hs h0),λi hri=>?_⟩;obtain⟨h1,o,ho,h2⟩:=mem_ready.1 hri;have dQ:i<n:=by rw[<-fi hb];exact(adu.1 ho).1
  have h3:listed.getD i false=false:=by
   rw[act,acS (by omega)] at h1 ⊢;simpa using h1
  have eu:=ct _ a w i dQ hi h3 (λj hj=>by
   unfold waits at hj;rw[ho] at hj;simp only[acU,acw] at hj;rw[<-Array.any_toList,adf] at hj;obtain⟨e,he,hj⟩:=hj;have he:=Array.mem_toList_iff.1 he;simp only[aav,beq_iff_eq] at hj;rw[<-hj.2];exact h2 e he hj.1)
  refine wpOp_mono (λa' w' hI=>ih _ a' w' (by simpa using hs) ?_ ?_) eu
  ·have h4:∀l:List Nat,l.Nodup->i∈l->l.countP (λj=>!(listed.setIfInBounds i true).getD j false)+1=l.countP (λj=>!listed.getD j false):=by
    intro l;induction l with
    | nil=>intro _ h;cases h
    | cons x l ih2=>
     intro EE AK;rw[List.nodup_cons] at EE;have hf:=congrFun (yM (listed:=listed) (i:=i) (by omega));by_cases hx:x=i
     ·subst hx;rw[List.countP_cons_of_neg (by rw[hf];simp[jI]),List.countP_cons_of_pos (by simp[h3])];have:l.countP (λj=>!(listed.setIfInBounds x true).getD j false)=l.countP (λj=>!listed.getD j false):=by
       apply List.countP_congr;intro j hj;rw[hf,bC _ (λh:j=x=>EE.1 (by rw[<-h];exact hj))]
      omega
     ·have hm:i∈l:=by
       rcases abs.1 AK with h|h
       ·exact absurd h.symm hx
       ·exact h
      have:=ih2 EE.2 hm;rw[List.countP_cons,List.countP_cons,hf,bC _ hx];omega
   have:=h4 (List.range n) List.nodup_range (abU.2 dQ);omega
  ·rw[yM (by omega)];exact hI
theorem xp {id:Nat} {a:Act} {w:World} (n:Nat) (Inv:(Nat->Bool)->Act->World->Prop) (hm:P.follows .mixedOrders=true) (hb:lU n ops=true) (h0:Inv (λ_=>false) a w.drew) (ct:∀d a w i,i<n->Inv d a w->d i=false->(∀j,waits ops i j=true->d j=true)->wpOp P ops Q i (Inv (jI d i)) a w) (F8:∀d a w,Inv d a w->(∀i,i<n->d i=true)->Q .normal a w):(Code.region id ops true).wp P Q a w:=by
 refine wp_region_any hm ?_;rw[fi hb];refine JQ Inv hb ct F8 n _ _ _ (by simp) ?_ ?_
 ·exact aax List.countP_le_length (by simp)
 ·have:(λj=>(Array.replicate n false).getD j false)=λ_=>false:=by
   funext j
   rw[act];by_cases h:j<n
   ·simp[h]
   ·rw[Array.getElem?_eq_none (by simp;omega)];rfl
  rw[this];exact h0
end
def cX (ops:Array Oper) (j:Nat):Option Nat:=(ops[j]?).bind (·.dst)
def rG (ops:Array Oper) (n t:Nat):Bool:=(List.range n).all λj=>!(cX ops j==some t)
def yY (ops:Array Oper) (n size:Nat):Bool:=(List.range n).all λj=>match cX ops j with|none=>true|some t=>decide (t<size)&&(List.range j).all λk=>!(cX ops k==some t)
def vT (ops:Array Oper) (n m:Nat):Bool:=(List.range m).all λk=>decide (k<n)||(List.range k).all λi=>reach ops i 9 k
section
variable {P:Program} {ops:Array Oper} {Q:Exit->Act->World->Prop} {n:Nat}
theorem Ct {t:Nat} (h:rG ops n t=true) {j:Nat} (hj:j<n):cX ops j≠some t:=by
 have:=abc.1 h j (abU.2 hj);simpa using this
theorem lK {size:Nat} (h:yY ops n size=true) {j t:Nat} (hj:j<n) (ht:cX ops j=some t):t<size/\∀k,k<j->cX ops k≠some t:=by
 have:=abc.1 h j (abU.2 hj);rw[ht] at this;simp only[aav,decide_eq_true_eq] at this;refine⟨this.1,λk hk=>?_⟩;have:=abc.1 this.2 k (abU.2 hk);simpa using this
theorem Je {size:Nat} (h:yY ops n size=true) {j k:Nat} (hj:j<n) (hk:k<n) (fR:j≠k):∀d,cX ops j=some d->cX ops k≠some d:=by
 intro d hd Sw;rcases Nat.lt_or_ge j k with h1|h1
 ·exact(lK h hk Sw).2 j h1 hd
 ·exact(lK h hj hd).2 k (by omega) Sw
theorem oU {d:Nat->Bool} {i:Nat}:∀(f k:Nat),(∀j,waits ops k j=true->d j=true)->(∀k,d k=true->∀j,waits ops k j=true->d j=true)->reach ops i f k=true->d i=true:=by
 intro f;induction f with
 | zero=>intro k _ _ hr;cases hr
 | succ f ih=>
  intro k hk tU hr;unfold reach at hr;cases hx:ops[k]? with
  | none=>rw[hx] at hr;cases hr
  | some x=>
   rw[hx] at hr;simp only[Array.any_eq_true,aav,acK,beq_iff_eq] at hr;obtain⟨q,hq,hb,hr⟩:=hr;have h1:=hk x.after[q].on (by
    unfold waits;rw[hx];simp only[acU,acw,Array.any_eq_true,aav,beq_iff_eq];exact⟨q,hq,hb,rfl⟩)
   rcases hr with hr|hr
   ·rw[<-hr];exact h1
   ·exact ih _ (tU _ h1) tU hr
def Hh (P:Program) (ops:Array Oper) (Q:Exit->Act->World->Prop):Nat->Nat->Act->World->Prop
 | 0,_=>λa w=>Q .normal a w
 | r+1,k=>wpOp P ops Q k (Hh P ops Q r (k+1))
theorem o5 {m k i:Nat} (h:vT ops n m=true) (hk:k<m) (hn:n<=k) (hi:i<k):reach ops i 9 k=true:=by
 have:=abc.1 h k (abU.2 hk);simp only[acK,decide_eq_true_eq] at this;rcases this with h1|h1
 ·omega
 ·exact abc.1 h1 i (abU.2 hi)
end
def evL (l:List (Nat×Value)):Operand->Value
 | .tmp t=>(l.lookup t).getD undef
 | .const v=>v
 | .global g=>.pointer (some ⟨g,0,none⟩)
 | .func f=>.func (.func f) #[] #[]
def z7:Op->Bool
 | .move _|.assign _|.pick ..|.alloc _|.box ..|.build ..|.buildSlice ..|.load ..|.store ..|.nilCheck _|.binOp ..|.unOp ..|.convert ..|.makeFunc ..|.slice ..|.fieldAddr ..|.indexAddr ..|.lookup ..|.extract ..|.field ..|.index ..|.makeSlice ..|.sliceToArrayPointer ..|.call _=>true
 | _=>false
theorem execOp_congr {ρ ρ':Operand->Value} {o:Oper} (hp:z7 o.op=true) (h:∀x∈o.op.operands,ρ x=ρ' x):execOp ρ o=execOp ρ' o:=by
 unfold execOp;cases ho:o.op with
 | build t ps=>
  rw[ho] at h;have:(ps.map λ(i,x)=>(i,ρ x))=ps.map λ(i,x)=>(i,ρ' x):=by
   apply ac5;rintro⟨i,x⟩ hp;show(i,ρ x)=(i,ρ' x);rw[h x (by simp only[Op.operands,List.mem_toArray,acu];exact⟨(i,x),by simpa using hp,rfl⟩)]
  simp only[this]
 | buildSlice t n ps=>
  rw[ho] at h;have:(ps.map λ(i,x)=>(i,ρ x))=ps.map λ(i,x)=>(i,ρ' x):=by
   apply ac5;rintro⟨i,x⟩ hp;show(i,ρ x)=(i,ρ' x);rw[h x (by simp only[Op.operands,List.mem_toArray,acu];exact⟨(i,x),by simpa using hp,rfl⟩)]
  simp only[this]
 | makeFunc fn fs cs=>
  rw[ho] at h;have h1:fs.map ρ=fs.map ρ':=ac5 λx hx=>h x (by simp[Op.operands,hx]);have h2:cs.map ρ=cs.map ρ':=ac5 λx hx=>h x (by simp[Op.operands,hx]);simp only[h1,h2]
 | slice t x l hi m=>
  rw[ho] at h;have h0:=h x (by simp[Op.operands]);have h1:l.map ρ=l.map ρ':=by cases l with|none=>rfl|some y=>simp[h y (by simp[Op.operands])]
  have h2:hi.map ρ=hi.map ρ':=by cases hi with|none=>rfl|some y=>simp[h y (by simp[Op.operands])]
  have h3:m.map ρ=m.map ρ':=by cases m with|none=>rfl|some y=>simp[h y (by simp[Op.operands])]
  simp only[h0,h1,h2,h3]
 | call c=>
  rw[ho] at h;have h1:c.args.map ρ=c.args.map ρ':=ac5 λx hx=>h x (by simp[Op.operands,Call.operands,hx]);have h2:resolve ρ c o.type=resolve ρ' c o.type:=by
   unfold resolve;simp only[h1];cases hc:c.callee with
   | builtin b=>rfl
   | invoke r n=>simp only[h r (by simp[Op.operands,Call.operands,hc])]
   | value f=>simp only[h f (by simp[Op.operands,Call.operands,hc])]
  simp only[h2]
 | alloc _=>rfl
 | move x=>rw[ho] at h;simp only[h x (by simp[Op.operands])]
 | assign x=>rw[ho] at h;simp only[h x (by simp[Op.operands])]
 | box t x=>rw[ho] at h;simp only[h x (by simp[Op.operands])]
 | load t x=>rw[ho] at h;simp only[h x (by simp[Op.operands])]
 | nilCheck x=>rw[ho] at h;simp only[h x (by simp[Op.operands])]
 | unOp k t x=>rw[ho] at h;simp only[h x (by simp[Op.operands])]
 | convert s t x=>rw[ho] at h;simp only[h x (by simp[Op.operands])]
 | fieldAddr s x i=>rw[ho] at h;simp only[h x (by simp[Op.operands])]
 | pick c x y=>rw[ho] at h;simp only[h c (by simp[Op.operands]),h x (by simp[Op.operands]),h y (by simp[Op.operands])]
 | store t x y=>rw[ho] at h;simp only[h x (by simp[Op.operands]),h y (by simp[Op.operands])]
 | binOp k t x y u=>rw[ho] at h;simp only[h x (by simp[Op.operands]),h y (by simp[Op.operands])]
 | indexAddr t x y=>rw[ho] at h;simp only[h x (by simp[Op.operands]),h y (by simp[Op.operands])]
 | lookup t x y c=>rw[ho] at h;simp only[h x (by simp[Op.operands]),h y (by simp[Op.operands])]
 | extract x i=>rw[ho] at h;simp only[h x (by simp[Op.operands])]
 | field s x i=>rw[ho] at h;simp only[h x (by simp[Op.operands])]
 | sliceToArrayPointer s x=>rw[ho] at h;simp only[h x (by simp[Op.operands])]
 | index t x y=>rw[ho] at h;simp only[h x (by simp[Op.operands]),h y (by simp[Op.operands])]
 | makeSlice t x y=>rw[ho] at h;simp only[h x (by simp[Op.operands]),h y (by simp[Op.operands])]
 | _=>(rw[ho] at hp)<;>cases hp
section
variable {P:Program} {ops:Array Oper} {Q:Exit->Act->World->Prop}
def Kn (a:Act) (l:List (Nat×Value)):Prop:=∀p∈l,a.tmps[p.1]?=some p.2
theorem Kn.nil {a:Act}:Kn a []:=λ_ h=>by cases h
theorem Kn.c {a:Act} {l:List (Nat×Value)} {t:Nat} {v:Value} (k:Kn a l) (h:a.tmps[t]?=some v):Kn a ((t,v)::l):=λp hp=>by
 rcases abs.1 hp with rfl|hp
 ·exact h
 ·exact k p hp
theorem FN {l:List (Nat×Value)} {t:Nat} {v:Value} (h:l.lookup t=some v):(t,v)∈l:=by
 induction l with
 | nil=>cases h
 | cons p l ih=>
  obtain⟨u,x⟩:=p;rw[adz] at h;by_cases e:(t==u)=true
  ·rw[e] at h;have e2:=eq_of_beq e;injection h with h
   subst e2 h;exact aaz
  ·have e':(t==u)=false:=by simpa using e
   rw[e'] at h;exact aa0 _ (ih h)
def inL (l:List (Nat×Value)):Operand->Bool
 | .tmp t=>(l.lookup t).isSome
 | _=>true
def Ij (l:List (Nat×Value)) (o:Op):Bool:=z7 o&&o.operands.all (inL l)
theorem aaZ {a:Act} {l:List (Nat×Value)} (hk:Kn a l) {x:Operand} (hx:inL l x=true):a.eval x=evL l x:=by
 cases x with
 | tmp t=>
  cases e:l.lookup t with
  | none=>
   have hx':(l.lookup t).isSome=true:=hx;rw[e] at hx';cases hx'
  | some v=>
   have:=hk _ (FN e);show a.tmps.getD t undef=(l.lookup t).getD undef;rw[e,act,this]
 | _=>rfl
theorem Qz {a:Act} {l:List (Nat×Value)} (hk:Kn a l) {o:Oper} (h:Ij l o.op=true):execOp a.eval o=execOp (evL l) o:=by
 unfold Ij at h;rw[aav] at h;refine execOp_congr h.1 λx hx=>aaZ hk ?_;have:=adL.1 h.2 x hx;exact this
section
variable {a:Act} {w:World} {o:Oper} {l:List (Nat×Value)}
theorem ajT {r:Result Next} (hk:Kn a l) (dQ:Ij l o.op=true) (hr:(execOp (evL l) o).run P w=r):(execOp a.eval o).run P w=r:=by
 rw[Qz hk dQ];exact hr
theorem Xa {t:TypeId} {p:Addr} {v:Value} (hc:w.cell? p=some v) (ht:((P.underlying t).map λd=>match d with|.struct _|.array _ _=>true|_=>false)=some false):(Instr.loadAt t (.pointer (some p))).run P w=.ok v w:=by
 cases hu:P.underlying t with
 | none=>rw[hu] at ht;cases ht
 | some d=>
  rw[hu] at ht;have aaO:(isAgg t).run P w=.ok false w:=by
   unfold isAgg;rw[Sem.run_bind,run_underlying hu w];cases d<;>simp_all
  simp[Instr.loadAt,Instr.sureAddr,loadVar,Sem.run_bind,aaO,hc]
end
end
structure RP (g:Nat) (w w':World):Prop where
 g:w.grownBy w' (some g)
 s:w'.heap.size=w.heap.size
theorem RP.setRow (w:World) (g:Nat) (cs:Array Value):RP g w (w.setRow g cs):=by
 have hs:(w.setRow g cs).heap.size=w.heap.size:=by simp[World.setRow]
 exact⟨⟨rfl,rfl,rfl,by rw[hs];exact aaG _,λk _ fR=>setRow_other _ _ _ _ λe=>fR (by rw[e])⟩,hs⟩
section
variable {P:Program} {ops:Array Oper} {Q:Exit->Act->World->Prop} {m r n:Nat} {l:List (Nat×Value)} {a:Act} {w:World} {o:Oper}
theorem zU {t ty:TypeId} {v:Value} {g k:Nat} {cs:Array Value} (hb:df w g ty cs) (jb:(P.info? t).map (·.size)=some v.cells.size) (PY:k+v.cells.size<=cs.size) (h1:∀u∈v.cells.toList,u.oneCell'=true) : (Instr.storeAt t (.pointer (some ⟨g,k,none⟩)) v).run P w=.ok () (w.setRow g (cs.toList.take k++v.cells.toList++cs.toList.drop (k+v.cells.size)).toArray):=by
 have eu:=run_storeCells_at P g k ty v.cells.toList 0 cs w hb (by simpa using PY) h1;cases hq:P.info? t with
 | none=>rw[hq] at jb;cases jb
 | some i=>
  rw[hq] at jb;have ak2:i.size=v.cells.size:=by simpa using jb
  simp[Instr.storeAt,storeVar,Instr.sureAddr,sizeOf,typeInfo,hq,ak2];simpa using eu
end
section
variable {P:Program} {Q:Exit->Act->World->Prop} {m:Nat} {l:List (Nat×Value)} {a:Act} {w:World}
end
def RH (P:Program) (t:TypeId):Option Bool:=(P.underlying t).map λd=>match d with|.struct _|.array _ _=>true|_=>false
theorem W9 {P:Program} {w:World} {t:TypeId} {p:Addr} {cs:List Value} (hc:cf w p cs) (h1:RH P t=some true) (h2:(P.info? t).map (·.size)=some cs.length):(Instr.loadAt t (.pointer (some p))).run P w=.ok (.agg cs.toArray) w:=by
 unfold RH at h1;cases hu:P.underlying t with
 | none=>rw[hu] at h1;cases h1
 | some d=>
  rw[hu] at h1;cases hi:P.info? t with
  | none=>rw[hi] at h2;cases h2
  | some i=>
   rw[hi] at h2;have hs:i.size=cs.length:=by simpa using h2
   have aaO:(isAgg t).run P w=.ok true w:=by
    unfold isAgg;rw[Sem.run_bind,run_underlying hu w];cases d<;>simp_all
   have hl:=run_loadCells_list (P:=P) w p cs hc;simp[Instr.loadAt,Instr.sureAddr,loadVar,Sem.run_bind,aaO,sizeOf,typeInfo,hi,hs,hl]
section
variable {P:Program} {ops:Array Oper} {Q:Exit->Act->World->Prop} {m:Nat} {l:List (Nat×Value)} {a:Act} {w:World}
section
end
end
section
variable {P:Program} {w:World}
theorem addr_add (b o k:Nat):(⟨b,o,none⟩:Addr).add k=⟨b,o+k,none⟩:=by unfold Addr.add;split<;>simp_all
end
theorem nj (w:World) (o:Obj):Below w.heap.size w (w.alloc o):=(Below.refl _ _).alloc (aaG _) _
theorem uA {P:Program} {ops:Array Oper} {Q:Exit->Act->World->Prop} {i:Nat} {o:Oper} {a:Act} {w:World} {K:Act->World->Prop} (ho:ops[i]?=some o) (hw:Region.wanted o (yielded ops a.tmps)=true) (h:o.wp P a w K Q):wpOp P ops Q i K a w:=by
 unfold wpOp;rw[ho];simp only[hw,if_true];exact .inl h
inductive T (α:Type) where
 | lf (a:α)
 | br (b:Bool) (x y:T α)
 | nd (p:Prop) (t:T α)
 | bad
def T.hit {α:Type}:T α->α->Prop
 | .lf a,r=>a=r
 | .br b x y,r=>(b=true->x.hit r)/\(b=false->y.hit r)
 | .nd p t,r=>p/\t.hit r
 | .bad,_=>False
def T.bind {α β:Type}:T α->(α->T β)->T β
 | .lf a,f=>f a
 | .br b x y,f=>.br b (x.bind f) (y.bind f)
 | .nd p t,f=>.nd p (t.bind f)
 | .bad,_=>.bad
def T.op {α:Type}:Option α->T α
 | some a=>.lf a
 | none=>.bad
theorem T.hit_bind {α β:Type} {f:α->T β} {r:β}:∀{t:T α},(t.bind f).hit r->∃q,t.hit q/\(f q).hit r
 | .lf a,h=>⟨a,rfl,h⟩
 | .br b x y,h=>by
  cases b with
  | true=>obtain⟨q,h1,h2⟩:=T.hit_bind (h.1 rfl);exact⟨q,⟨λ_=>h1,λe=>by cases e⟩,h2⟩
  | false=>obtain⟨q,h1,h2⟩:=T.hit_bind (h.2 rfl);exact⟨q,⟨(λe=>by cases e),λ_=>h1⟩,h2⟩
 | .nd p t,h=>by obtain⟨q,h1,h2⟩:=T.hit_bind h.2;exact⟨q,⟨h.1,h1⟩,h2⟩
theorem T.hit_op {α:Type} {x:Option α} {r:α} (h:(T.op x).hit r):x=some r:=by
 cases x with
 | none=>exact h.elim
 | some a=>exact congrArg some h
def mkA (c:Bool) (v:Value):AV:=if c then .val v else .sym v
def Zs (c:Bool):Value->Option XV
 | .agg cs=>if cs.all (·.oneCell') then some (.agg (cs.toList.map (mkA c))) else none
 | .tuple _=>none
 | v=>some (.one (mkA c v))
def ev (env:Env):Operand->Option XV
 | .tmp t=>env.lookup t
 | .const v=>Zs true v
 | .func f=>some (.one (.val (.func (.func f) #[] #[])))
 | .global _=>none
def cvA:AV->Option (Value×Bool)
 | .val v=>some (v,true)
 | .sym v=>some (v,false)
 | _=>none
def Gs:List AV->Option (List Value×Bool)
 | []=>some ([],true)
 | a::l=>match cvA a,Gs l with
  | some p,some q=>some (p.1::q.1,p.2&&q.2)
  | _,_=>none
def cvX:XV->Option (Value×Bool)
 | .one a=>cvA a
 | .agg cs=>(Gs cs).map λp=>(.agg p.1.toArray,p.2)
 | .tup _=>none
def cvE (env:Env):List Operand->Option (List (Nat×Value)×Bool)
 | []=>some ([],true)
 | .tmp t::r=>match (env.lookup t).bind cvX,cvE env r with
  | some p,some q=>some ((t,p.1)::q.1,p.2&&q.2)
  | _,_=>none
 | _::r=>cvE env r
def YI {α:Type} (P:Program):Sem α->Option α
 | .pure a=>some a
 | .program k=>YI P (k P)
 | _=>none
theorem Hz {α:Type} {P:Program} {a:α}:∀{s:Sem α},YI P s=some a->∀w,s.run P w=.ok a w
 | .pure b,h,w=>by injection h with h;subst h;rfl
 | .program k,h,w=>Hz (s:=k P) h w
section
variable {cx:Cx} {bs:List Value} {w:World} {S:Nat->Prop} {m:Nat} {env:Env} {a:Act}
theorem j2 {t:Nat} {x:XV}:∀{env:Env},env.lookup t=some x->(t,x)∈env
 | (u,y)::l,h=>by
  rw[adz] at h;by_cases e:(t==u)=true
  ·rw[e] at h;have e2:=eq_of_beq e;injection h with h
   subst e2 h;exact aaz
  ·have e':(t==u)=false:=by simpa using e
   rw[e'] at h;exact aa0 _ (j2 h)
theorem FM {c:Bool} {v:Value} (h:v.oneCell'=true):VR bs w S (mkA c v) v:=by
 cases c<;>exact⟨rfl,h⟩
theorem Al {c:Bool}:∀{l:List Value},(∀v∈l,v.oneCell'=true)->F2 (VR bs w S) (l.map (mkA c)) l
 | [],_=>.nil
 | v::_,h=>.cons (FM (h v aaz)) (Al λu hu=>h u (aa0 _ hu))
theorem FL {c:Bool} {v:Value} {x:XV} (h:Zs c v=some x):XR bs w S x v:=by
 unfold Zs at h;split at h
 ·rename_i cs;split at h
  ·rename_i h1;injection h with h
   subst h;exact⟨cs.toList,rfl,Al λv hv=>adL.1 h1 v (by simpa using hv)⟩
  ·cases h
 ·cases h
 ·rename_i h1 h2;injection h with h
  subst h;refine FM ?_;cases v with
  | agg cs=>exact absurd rfl (h1 cs)
  | tuple cs=>exact absurd rfl (h2 cs)
  | _=>rfl
theorem sg (he:ER m bs w S env a) {t:Nat} {x:XV} (h:env.lookup t=some x):XR bs w S x (a.eval (.tmp t)):=by
 obtain⟨v,h1,h2⟩:=he.k t x (j2 h);show XR bs w S x (a.tmps.getD t undef);rw[act,h1];exact h2
theorem bW (he:ER m bs w S env a) {x:Operand} {y:XV} (h:ev env x=some y):XR bs w S y (a.eval x):=by
 cases x with
 | tmp t=>exact sg he h
 | const v=>exact FL h
 | func f=>injection h with h;subst h;exact⟨rfl,rfl⟩
 | global g=>cases h
theorem QP {x:AV} {p:Value×Bool} {v:Value} (h:cvA x=some p) (hx:VR bs w S x v):v=p.1:=by
 cases x with
 | val u=>injection h with h;subst h;exact hx.1
 | sym u=>injection h with h;subst h;exact hx.1
 | _=>cases h
theorem Jh:∀{l:List AV} {p:List Value×Bool} {vs:List Value},Gs l=some p->F2 (VR bs w S) l vs->vs=p.1
 | [],p,_,h,hx=>by cases hx;injection h with h;subst h;rfl
 | x::l,p,_,h,hx=>by
  cases hx with
  | cons h1 h2=>
   unfold Gs at h;split at h
   ·rename_i q r hq hr;injection h with h
    subst h;rw[QP hq h1,Jh hr h2]
   ·cases h
theorem QO {x:XV} {p:Value×Bool} {v:Value} (h:cvX x=some p) (hx:XR bs w S x v):v=p.1:=by
 cases x with
 | one a=>exact QP h hx
 | agg cs=>
  obtain⟨vs,rfl,hx⟩:=hx;cases e:Gs cs with
  | none=>have h:Option.map _ (Gs cs)=some p:=h;rw[e] at h;cases h
  | some q=>
   have h:Option.map _ (Gs cs)=some p:=h;rw[e] at h;injection h with h
   subst h;rw[Jh e hx]
 | tup l=>cases h
theorem wK (he:ER m bs w S env a):∀{l:List Operand} {p:List (Nat×Value)×Bool},cvE env l=some p->Kn a p.1/\∀x∈l,∀l',(∀t v,p.1.lookup t=some v->(l'.lookup t).isSome)->inL l' x=true
 | [],p,h=>by injection h with h;subst h;exact⟨Kn.nil,λ_ h=>by cases h⟩
 | .tmp t::_,p,h=>by
  unfold cvE at h;split at h
  ·rename_i q s hq hs;injection h with h
   subst h;obtain⟨k1,k2⟩:=wK he hs;cases e:env.lookup t with
   | none=>rw[e] at hq;cases hq
   | some x=>
    rw[e] at hq;obtain⟨v,h1,h2⟩:=he.k t x (j2 e);have hv:=QO hq h2;subst hv;refine⟨k1.c h1,λx hx l' hl=>?_⟩;rcases abs.1 hx with rfl|hx
    ·exact hl t q.1 (by rw[adz,beq_self_eq_true])
    ·refine k2 x hx l' λu v hu=>?_;by_cases e:u=t
     ·subst e;exact hl u q.1 (by rw[adz,beq_self_eq_true])
     ·exact hl u v (by rw[adz,show(u==t)=false by simpa using e];exact hu)
  ·cases h
 | .const v::r,p,h=>by
  obtain⟨k1,k2⟩:=wK (l:=r) he h;exact⟨k1,λx hx l' hl=>(abs.1 hx).elim (λe=>by subst e;rfl) λhx=>k2 x hx l' hl⟩
 | .func v::r,p,h=>by
  obtain⟨k1,k2⟩:=wK (l:=r) he h;exact⟨k1,λx hx l' hl=>(abs.1 hx).elim (λe=>by subst e;rfl) λhx=>k2 x hx l' hl⟩
 | .global v::r,p,h=>by
  obtain⟨k1,k2⟩:=wK (l:=r) he h;exact⟨k1,λx hx l' hl=>(abs.1 hx).elim (λe=>by subst e;rfl) λhx=>k2 x hx l' hl⟩
end
def lY (P:Program) (env:Env) (o:Oper):Option XV:=match cvE env o.op.operands.toList with
 | some (l,c)=>if z7 o.op then match YI P (execOp (evL l) o) with
  | some (.value v)=>Zs c v
  | _=>none
  else none
 | none=>none
def iN (P:Program) (o:Oper) (bs:List Value) (w:World) (S:Nat->Prop) (a:Act) (cm:Nat) (r:XV×Option ah):Prop:=
 ∀(K:Act->World->Prop) (Q:Exit->Act->World->Prop),(∀v w' S' u,Below w.heap.size w w'->(∀b,S b->S' b)->(∀b,S' b->S b\/(w.heap.size<=b/\b<w'.heap.size))->
  (∀aZ,iV bs aZ->(r.2.isSome->aZ[cm]?=some u)->XR aZ w' S' r.1 v/\∀x,r.2=some x->OR aZ w' S' x u)->(∀x,r.2=some x->∀b,Bk x u b->w.heap.size<=b/\¬S' b)->K (a.put o.dst v) w')->o.wp P a w K Q
section
variable {P:Program} {o:Oper} {cx:Cx} {bs:List Value} {w:World} {S:Nat->Prop} {H:List ah} {m:Nat} {env:Env} {a:Act} {cm:Nat}
theorem hJ {x:XV} {v:Value} (hr:(execOp a.eval o).run P w=.ok (.value v) w) (hx:XR bs w S x v):iN P o bs w S a cm (x,none):=by
 intro K Q h;unfold Oper.wp;rw[hr,Oper.upon_value];exact h v w S undef (Below.refl _ _) (λ_ h=>h) (λ_ h=>.inl h) (λaZ hb _=>⟨hx.keep (λ_ h=>h) (aw.refl _ _) hb,λ_ e=>by cases e⟩) (λ_ e=>by cases e)
theorem pR (he:ER m bs w S env a) {x:XV} (h:lY P env o=some x):iN P o bs w S a cm (x,none):=by
 unfold lY at h;split at h
 ·rename_i l c hl;split at h
  ·rename_i hp;split at h
   ·rename_i v hv;obtain⟨k1,k2⟩:=wK he hl;refine hJ (ajT k1 ?_ (Hz hv w)) (FL h);unfold Ij;rw[aav];refine⟨hp,adL.2 λx hx=>k2 x (by simpa using hx) l λt v h=>by rw[h];rfl⟩
   ·cases h
  ·cases h
 ·cases h
end
end Go.Proofs.YtdbpbfglhbiadaaGreatDoor
