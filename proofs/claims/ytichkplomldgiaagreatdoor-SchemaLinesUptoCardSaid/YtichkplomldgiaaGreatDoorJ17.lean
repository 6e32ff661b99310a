/- MSt Draw3 Grow MWk MOp -/
import Derived.Test.YtichkplomldgiaaGreatDoorJ16
import Derived.OrdersHeld
import Derived.RegionTactic
import Derived.Deep.RegionHeld
import Derived.Test.YtichkplomldgiaaGreatDoorJ01
import Derived.Test.YtichkplomldgiaaGreatDoorJ12
import Derived.Test.YtichkplomldgiaaGreatDoorProg
import Derived.Great.BuildSlice
set_option maxHeartbeats 4000000
set_option maxRecDepth 100000
namespace Go.Proofs.YtichkplomldgiaaGreatDoor
open Go Go.RowKit
abbrev Env:=List (Nat×XV)
structure bT where
 env:Env
 heap:List aa
structure Cx where
 w0:World
 S0:Nat->Prop
 M:Nat->Prop
 bs0:List Value
 pb:List Nat
 wk:∀w:World,w0.heap.size<=w.heap.size->w.os=w0.os->w.tape=w0.tape->w.output=w0.output->(∀b,b<w0.heap.size->¬M b->w.heap[b]?=w0.heap[b]?)->Wd w
def ZR (bs:List Value) (w:World) (S:Nat->Prop) {t tn:Ty} (dQ:Nat) (done:List (El t)) (cur:List AV) (rest:List (El tn)) (aO:List (fl (ak.sz (El t)))):Prop:=
 aO.length=dQ/\∀(j:Nat) (r:fl (ak.sz (El t))),aO[j]?=some r->(∀x,done[j]?=some x->ak.rep (α:=El t) w S r.cells x)/\(j=done.length->F2 (VR bs w S) cur r.cells)/\(done.length<j->ak.rep (α:=El tn) w S r.cells (rest.getD (j-done.length-1) (sW tn)))
def ZC (w:World) (S:Nat->Prop) {t tn:Ty} (dQ:Nat) (done:List (El t)) (rest:List (El tn)) (aO:List (fl (ak.sz (El t)))):Prop:=
 aO.length=dQ/\∀(j:Nat) (r:fl (ak.sz (El t))),aO[j]?=some r->(∀x,done[j]?=some x->ak.rep (α:=El t) w S r.cells x)/\(done.length<=j->ak.rep (α:=El tn) w S r.cells (rest.getD (j-done.length) (sW tn)))
def mG (bs:List Value) (w:World) (S:Nat->Prop) (p:Nat) (kt:Kt) (t:Ty) (e:TypeId) (n:Nat) (f:kt.K->Option (List (El t))) (x:kt.K->Prop) (v:Value):Prop:=
 ∃b l g,v=lD b l/\bs[p]?=some (.map (some b))/\fK w kt b n g/\(∀k u,g k=some u↔(kt.val k,u)∈l)/\(∀k,¬x k->match f k with|none=>g k=none|some xs=>∃u,g k=some u/\Own (α:=El t) w S 0 e u xs.reverse)/\
  (∀k k' u u' c,g k=some u->g k'=some u'->k≠k'->u.ownBlock=some c->u'.ownBlock≠some c)/\∀k u,g k=some u->u.ownBlock≠some b
def OR (bs:List Value) (w:World) (S:Nat->Prop):aa->Value->Prop
 | .mp kt t n f,v=>∃b g,v=.map (some b)/\fK w kt b n g/\∀k,ox (α:=El t) w S (f k) (g k)
 | .mq _,v=>∃b,v=.map (some b)
 | .mr p kt t e n f,v=>mG bs w S p kt t e n f (λ_=>False) v
 | .mx p kt t e n f k,v=>mG bs w S p kt t e n f (·=k) v
 | .zc e t tn dQ done rest,v=>∃aO:List (fl (ak.sz (El t))),Own w S 0 e v aO/\ZC w S (tn:=tn) dQ done rest aO
 | .zip o2 e t tn dQ done cur rest,v=>∃aO:List (fl (ak.sz (El t))),Own w S 0 e v aO/\ZR bs w S (tn:=tn) dQ done cur rest aO/\done.length<dQ/\∃u,bs[o2]?=some u/\nE u=true/\∀g n c,v=.slice (some ⟨g,0,none⟩) n c->u=.pointer (some ⟨g,done.length*ak.sz (El t),none⟩)
 | .cells ty cs,v=>∃(g:Nat) (vs:List Value),v=.pointer (some ⟨g,0,none⟩)/\bS w g ty vs.toArray/\F2 (VR bs w S) cs vs
 | .row t e rs,v=>Own (α:=El t) w S 0 e v rs.reverse
 | .dead,_=>True
def bk:aa->Value->Option Nat
 | .cells _ _,.pointer (some a)=>some a.block
 | .row _ _ _,v=>v.ownBlock
 | .zc _ _ _ _ _ _,v=>v.ownBlock
 | .zip _ _ _ _ _ _ _ _,v=>v.ownBlock
 | .mp _ _ _ _,.map (some b)=>some b
 | _,_=>none
def oz (kt:Kt) (x:kt.K->Prop) (v:Value) (c:Nat):Prop:=∃b l,v=lD b l/\(c=b\/∃(k:kt.K) (u:Value),¬x k/\(kt.val k,u)∈l/\u.ownBlock=some c)
def Bk:aa->Value->Nat->Prop
 | .mr _ kt _ _ _ _,v,c=>oz kt (λ_=>False) v c
 | .mx _ kt _ _ _ _ k,v,c=>oz kt (·=k) v c
 | x,v,c=>bk x v=some c
theorem Fg {x:aa} {v:Value} {c:Nat} (h:bk x v=some c):Bk x v c:=by
 cases x with
 | mr p kt t e n f=>cases h
 | mx p kt t e n f k=>cases h
 | _=>exact h
structure HS (cx:Cx) (bs:List Value) (w:World) (S:Nat->Prop) (H:List aa):Prop where
 len:bs.length=H.length
 o:∀(i:Nat) (x:aa) (v:Value),H[i]?=some x->bs[i]?=some v->OR bs w S x v
 ap:∀(i j:Nat) (x y:aa) (u v:Value) (b:Nat),i≠j->H[i]?=some x->bs[i]?=some u->H[j]?=some y->bs[j]?=some v->Bk x u b->¬Bk y v b
 nw:∀(i:Nat) (x:aa) (v:Value) (b:Nat),H[i]?=some x->bs[i]?=some v->Bk x v b->(cx.w0.heap.size<=b\/cx.M b)/\¬S b
 s:∀b,S b->b<w.heap.size/\(cx.S0 b\/cx.w0.heap.size<=b\/cx.M b)
 s0:∀b,cx.S0 b->S b
 os:w.os=cx.w0.os
 tape:w.tape=cx.w0.tape
 output:w.output=cx.w0.output
 size:cx.w0.heap.size<=w.heap.size
 old:∀b,b<cx.w0.heap.size->¬cx.M b->w.heap[b]?=cx.w0.heap[b]?
 an:∀(i:Nat) (v:Value),i∈cx.pb->cx.bs0[i]?=some v->nE v=true->bs[i]?=some v
structure ER (m:Nat) (bs:List Value) (w:World) (S:Nat->Prop) (env:Env) (a:Act):Prop where
 d:a.defers=[]
 s:a.tmps.size=m
 k:∀(t:Nat) (x:XV),(t,x)∈env->∃v,a.tmps[t]?=some v/\XR bs w S x v
def cP (m:Nat) (cx:Cx) (st:bT) (a:Act) (w:World):Prop:=∃bs S,HS cx bs w S st.heap/\ER m bs w S st.env a
section
variable {cx:Cx} {bs aD:List Value} {w w':World} {S S':Nat->Prop} {H:List aa} {m:Nat} {env:Env} {a:Act}
theorem HS.wd (hs:HS cx bs w S H):Wd w:=cx.wk w hs.size hs.os hs.tape hs.output hs.old
theorem ZR.keep {t tn:Ty} {dQ:Nat} {done:List (El t)} {cur:List AV} {rest:List (El tn)} {aO:List (fl (ak.sz (El t)))} (h:ZR bs w S dQ done cur rest aO) (hS:∀b,S b->S' b) (hk:af S w w') (hb:eI bs aD):ZR aD w' S' dQ done cur rest aO:=
 ⟨h.1,λj r hr=>let ⟨h1,h2,h3⟩:=h.2 j r hr;⟨λx hx=>ak.keep (h1 x hx) hS hk,λe=>(h2 e).mono λ_ _ q=>q.keep hS hk hb,λe=>ak.keep (h3 e) hS hk⟩⟩
theorem ZC.keep {t tn:Ty} {dQ:Nat} {done:List (El t)} {rest:List (El tn)} {aO:List (fl (ak.sz (El t)))} (h:ZC w S dQ done rest aO) (hS:∀b,S b->S' b) (hk:af S w w'):ZC w' S' dQ done rest aO:=
 ⟨h.1,λj r hr=>let ⟨h1,h3⟩:=h.2 j r hr;⟨λx hx=>ak.keep (h1 x hx) hS hk,λe=>ak.keep (h3 e) hS hk⟩⟩
theorem mG.blk {p n:Nat} {kt:Kt} {t:Ty} {e:TypeId} {f:kt.K->Option (List (El t))} {x:kt.K->Prop} {v:Value} (h:mG bs w S p kt t e n f x v) {c:Nat} (hc:oz kt x v c):c<w.heap.size:=by
 obtain⟨b,l,g,rfl,h1,h2,h3,h4,h5,h6⟩:=h;obtain⟨b',l',e1,hc⟩:=hc;obtain⟨rfl,rfl⟩:=gL e1;rcases hc with rfl|⟨k,u,hx,hu,hc⟩
 ·exact h2.lt
 ·have:=h4 k hx;have hu:=(h3 k u).2 hu;cases hf:f k with
  | none=>rw[hf] at this;rw[this] at hu;cases hu
  | some xs=>
   rw[hf] at this;obtain⟨u',t8,ho⟩:=this;rw[t8] at hu;injection hu with hu
   subst hu;exact(Own.lt ho c hc).2
theorem mG.keep {p n:Nat} {kt:Kt} {t:Ty} {e:TypeId} {f:kt.K->Option (List (El t))} {x:kt.K->Prop} {v:Value} (h:mG bs w S p kt t e n f x v) {row:Option Nat} (hg:w.grownBy w' row) (hb:∀c,oz kt x v c->some c≠row) (hk:af S w w') (hS:∀b,S b->S' b) (hn:∀c,S' c->c<w'.heap.size/\¬oz kt x v c) (wA:eI bs aD):mG aD w' S' p kt t e n f x v:=by
 obtain⟨b,l,g,rfl,h1,h2,h3,h4,h5,h6⟩:=h;have uX:∀k u c,¬x k->g k=some u->u.ownBlock=some c->oz kt x (lD b l) c:=λk u c hx hu hc=>⟨b,l,rfl,.inr ⟨k,u,hx,(h3 k u).1 hu,hc⟩⟩;refine⟨b,l,g,rfl,wA _ _ h1 rfl,h2.kept hg (hb b ⟨b,l,rfl,.inl rfl⟩),h3,λk hx=>?_,h5,h6⟩;have:=h4 k hx;cases hf:f k with
 | none=>rw[hf] at this;exact this
 | some xs=>
  rw[hf] at this;obtain⟨u,hu,cs,q1,q2,q3⟩:=this;refine⟨u,hu,cs,q1.kept hg ?_,q2.keep hS hk,λc hc=>⟨(hn c hc).1,λe=>(hn c hc).2 (uX k u c hx hu e.symm)⟩⟩;cases e:u.ownBlock with
  | none=>exact .inl rfl
  | some c=>exact .inr λe2=>hb c (uX k u c hx hu e) (by rw[<-e2])
theorem OR.lt {x:aa} {v:Value} {b:Nat} (h:OR bs w S x v) (hb:Bk x v b):b<w.heap.size:=by
 cases x with
 | cells ty cs=>obtain⟨g,vs,rfl,hk,_⟩:=h;injection hb with hb;rw[<-hb];exact hk.lt
 | row t e rs=>exact(Own.lt h b hb).2
 | zc e t tn dQ done rest=>obtain⟨aO,h,_⟩:=h;exact(Own.lt h b hb).2
 | zip o2 e t tn dQ done cur rest=>obtain⟨aO,h,_⟩:=h;exact(Own.lt h b hb).2
 | dead=>cases hb
 | mp kt t n f=>obtain⟨b',g,rfl,h,_⟩:=h;injection hb with hb;subst hb;exact h.lt
 | mq q=>obtain⟨b',rfl⟩:=h;cases hb
 | mr p kt t e n f=>exact mG.blk h hb
 | mx p kt t e n f k=>exact mG.blk h hb
theorem OR.keep {x:aa} {v:Value} (h:OR bs w S x v) {row:Option Nat} (hg:w.grownBy w' row) (hb:∀b,Bk x v b->some b≠row) (hk:af S w w') (hS:∀b,S b->S' b) (hn:∀b,S' b->b<w'.heap.size/\¬Bk x v b) (wA:eI bs aD):OR aD w' S' x v:=by
 cases x with
 | cells ty cs=>
  obtain⟨g,vs,rfl,h1,h2⟩:=h;exact⟨g,vs,rfl,h1.grown hg (hb g rfl),h2.mono λ_ _ h=>h.keep hS hk wA⟩
 | row t e rs=>
  obtain⟨cs,h1,h2,h3⟩:=h;refine⟨cs,h1.kept hg ?_,h2.keep hS hk,λb hb=>⟨(hn b hb).1,λe=>(hn b hb).2 e.symm⟩⟩;cases e:v.ownBlock with
  | none=>exact .inl rfl
  | some b=>exact .inr λe2=>hb b e (by rw[<-e2])
 | zc e t tn dQ done rest=>
  obtain⟨aO,⟨cs,h1,h2,h3⟩,hz⟩:=h;refine⟨aO,⟨cs,h1.kept hg ?_,h2.keep hS hk,λb hb=>⟨(hn b hb).1,λe=>(hn b hb).2 e.symm⟩⟩,hz.keep hS hk⟩;cases e:v.ownBlock with
  | none=>exact .inl rfl
  | some b=>exact .inr λe2=>hb b e (by rw[<-e2])
 | zip o2 e t tn dQ done cur rest=>
  obtain⟨aO,⟨cs,h1,h2,h3⟩,hz,hl,u,hu,kR,hv⟩:=h;refine⟨aO,⟨cs,h1.kept hg ?_,h2.keep hS hk,λb hb=>⟨(hn b hb).1,λe=>(hn b hb).2 e.symm⟩⟩,hz.keep hS hk wA,hl,u,wA _ _ hu kR,kR,hv⟩;cases e:v.ownBlock with
  | none=>exact .inl rfl
  | some b=>exact .inr λe2=>hb b e (by rw[<-e2])
 | dead=>exact trivial
 | mp kt t n f=>obtain⟨b',g,rfl,h1,h2⟩:=h;exact⟨b',g,rfl,h1.kept hg (hb b' rfl),λk=>(h2 k).keep hS hk⟩
 | mq q=>exact h
 | mr p kt t e n f=>exact mG.keep h hg hb hk hS hn wA
 | mx p kt t e n f k=>exact mG.keep h hg hb hk hS hn wA
theorem af.of_row {row:Option Nat} (hg:w.grownBy w' row) (hS:∀b,S b->b<w.heap.size/\some b≠row):af S w w':=(af.grown hg).sub hS
theorem HS.grow (h:HS cx bs w S H) (hb:Below w.heap.size w w') (hS:∀b,S b->S' b) (hn:∀b,S' b->S b\/(w.heap.size<=b/\b<w'.heap.size)):HS cx bs w' S' H where
 len:=h.len
 o i x v hx hv:=by
  have jG:=h.o i x v hx hv;refine jG.keep (cj hb (Nat.le_refl _) none) (by simp) ((af.of_below hb).sub λb q=>(h.s b q).1) hS (λb q=>⟨?_,λe=>?_⟩) (eI.refl _)
  ·rcases hn b q with q|q
   ·exact Nat.lt_of_lt_of_le (h.s b q).1 hb.size
   ·exact q.2
  ·rcases hn b q with q|q
   ·exact(h.nw i x v b hx hv e).2 q
   ·have:=jG.lt e;omega
 ap:=h.ap
 nw i x v b hx hv iy:=by
  refine⟨(h.nw i x v b hx hv iy).1,λq=>?_⟩;rcases hn b q with q|q
  ·exact(h.nw i x v b hx hv iy).2 q
  ·have:=(h.o i x v hx hv).lt iy;omega
 s b q:=by
  rcases hn b q with q|q
  ·exact⟨Nat.lt_of_lt_of_le (h.s b q).1 hb.size,(h.s b q).2⟩
  ·exact⟨q.2,.inr (.inl (Nat.le_trans h.size q.1))⟩
 s0 b q:=hS b (h.s0 b q)
 os:=hb.os.trans h.os
 tape:=hb.tape.trans h.tape
 output:=hb.output.trans h.output
 size:=Nat.le_trans h.size hb.size
 old b q1 q2:=(hb.block b (Nat.lt_of_lt_of_le q1 h.size)).trans (h.old b q1 q2)
 an:=h.an
theorem ER.keep (h:ER m bs w S env a) (hS:∀b,S b->S' b) (hk:af S w w') (hb:eI bs aD):ER m aD w' S' env a:=
 ⟨h.d,h.s,λt x hx=>let ⟨v,h1,h2⟩:=h.k t x hx;⟨v,h1,h2.keep hS hk hb⟩⟩
theorem ER.grow (h:ER m bs w S env a) (hs:HS cx bs w S H) (hb:Below w.heap.size w w') (hS:∀b,S b->S' b):ER m bs w' S' env a:=
 h.keep hS ((af.of_below hb).sub λb q=>(hs.s b q).1) (eI.refl _)
def ko (env:Env) (d:Option Tmp) (x:Option XV):Env:=match d with
 | none=>env
 | some t=>match x with
  | some x=>(t,x)::env.filter λp=>!(p.1==t)
  | none=>env.filter λp=>!(p.1==t)
theorem ER.put (h:ER m bs w S env a) (d:Option Tmp) (x:Option XV) (v:Value) (hd:(match d with|some t=>decide (t<m)|none=>true)=true) (hx:∀y,x=some y->XR bs w S y v):ER m bs w S (ko env d x) (a.put d v):=by
 cases d with
 | none=>exact h
 | some t=>
  have ht:t<m:=of_decide_eq_true hd;have hold:∀u y,(u,y)∈env.filter (λp=>!(p.1==t))->∃z,(a.tmps.setIfInBounds t v)[u]?=some z/\XR bs w S y z:=λu y hy=>by
   obtain⟨h1,h2⟩:=List.mem_filter.1 hy;have hne:u≠t:=by simpa using h2
   rw[Array.getElem?_setIfInBounds_ne (Ne.symm hne)];exact h.k u y h1
  refine⟨h.d,by show(a.tmps.setIfInBounds t v).size=m;rw[Array.size_setIfInBounds];exact h.s,λu y hy=>?_⟩;cases x with
  | none=>exact hold u y hy
  | some x=>
   rcases List.mem_cons.1 hy with e|hy
   ·injection e with e1 e2
    subst e1 e2;exact⟨v,Array.getElem?_setIfInBounds_self_of_lt (by rw[h.s];exact ht),hx _ rfl⟩
   ·exact hold u y hy
theorem HS.pad (h:HS cx bs w S H):HS cx (bs++[undef]) w S (H++[.dead]):=by
 have mono:eI bs (bs++[undef]):=λo u hu _=>by
  rw[List.getElem?_append_left (List.getElem?_eq_some_iff.1 hu).1];exact hu
 have dE:∀(i:Nat) (y:aa) (u:Value),(H++[.dead])[i]?=some y->(bs++[undef])[i]?=some u->(H[i]?=some y/\bs[i]?=some u)\/y=.dead:=by
  intro i y u hy hu;by_cases hi:i<H.length
  ·left
   rw[List.getElem?_append_left hi] at hy;rw[List.getElem?_append_left (by rw[h.len];exact hi)] at hu;exact⟨hy,hu⟩
  ·right
   have FX:i<H.length+1:=by have:=(List.getElem?_eq_some_iff.1 hy).1;simpa using this
   obtain rfl:i=H.length:=by omega
   rw[List.getElem?_append_right (Nat.le_refl _)] at hy;simpa using hy.symm
 refine⟨by simp[h.len],?_,?_,?_,h.s,h.s0,h.os,h.tape,h.output,h.size,h.old,λi v p q r=>mono _ _ (h.an i v p q r) r⟩
 ·intro i y u hy hu;rcases dE i y u hy hu with⟨hy,hu⟩|rfl
  ·exact(h.o i y u hy hu).keep (cj (Below.refl _ _) (Nat.le_refl _) none) (by simp) (af.refl _ _) (λ_ h=>h) (λb q=>⟨(h.s b q).1,λe=>(h.nw i y u b hy hu e).2 q⟩) mono
  ·exact trivial
 ·intro i j y z u u2 b oE hy hu hz kR bp bQ;rcases dE i y u hy hu with⟨p1,p2⟩|rfl
  ·rcases dE j z u2 hz kR with⟨p3,p4⟩|rfl
   ·exact h.ap i j y z u u2 b oE p1 p2 p3 p4 bp bQ
   ·cases bQ
  ·cases bp
 ·intro i y u b hy hu bp;rcases dE i y u hy hu with⟨hy,hu⟩|rfl
  ·exact h.nw i y u b hy hu bp
  ·cases bp
theorem HS.fill (h:HS cx bs w S H) {j:Nat} {x:aa} {v u0:Value} (hj:H[j]?=some .dead) (hbj:bs[j]?=some u0) (Za:nE u0=false) (ho:OR (bs.set j v) w S x v) (hb:∀b,Bk x v b->(cx.w0.heap.size<=b\/cx.M b)/\¬S b/\∀(i:Nat) (y:aa) (u:Value),H[i]?=some y->bs[i]?=some u->¬Bk y u b):HS cx (bs.set j v) w S (H.set j x):=by
 have hl:=(List.getElem?_eq_some_iff.1 hj).1;have mono:eI bs (bs.set j v):=λo u hu kR=>by
  rw[List.getElem?_set_ne (λe=>by subst e;rw[hbj] at hu;injection hu with hu;subst hu;rw[Za] at kR;cases kR)];exact hu
 have dE:∀(i:Nat) (y:aa) (u:Value),(H.set j x)[i]?=some y->(bs.set j v)[i]?=some u->(H[i]?=some y/\bs[i]?=some u)\/(i=j/\y=x/\u=v):=by
  intro i y u hy hu;by_cases e:j=i
  ·right
   subst e;rw[List.getElem?_set_self hl] at hy;rw[List.getElem?_set_self (by rw[h.len];exact hl)] at hu;exact⟨rfl,(Option.some.inj hy).symm,(Option.some.inj hu).symm⟩
  ·left
   rw[List.getElem?_set_ne e] at hy hu;exact⟨hy,hu⟩
 refine⟨by simp[h.len],?_,?_,?_,h.s,h.s0,h.os,h.tape,h.output,h.size,h.old,λi v p q r=>mono _ _ (h.an i v p q r) r⟩
 ·intro i y u hy hu;rcases dE i y u hy hu with⟨hy,hu⟩|⟨_,rfl,rfl⟩
  ·exact(h.o i y u hy hu).keep (cj (Below.refl _ _) (Nat.le_refl _) none) (by simp) (af.refl _ _) (λ_ h=>h) (λb q=>⟨(h.s b q).1,λe=>(h.nw i y u b hy hu e).2 q⟩) mono
  ·exact ho
 ·intro i j y z u u2 b oE hy hu hz kR bp bQ;rcases dE i y u hy hu with⟨p1,p2⟩|⟨e1,e3,e4⟩
  ·rcases dE j z u2 hz kR with⟨p3,p4⟩|⟨_,e5,e6⟩
   ·exact h.ap i j y z u u2 b oE p1 p2 p3 p4 bp bQ
   ·rw[e5,e6] at bQ;exact(hb b bQ).2.2 i y u p1 p2 bp
  ·rw[e3,e4] at bp;rcases dE j z u2 hz kR with⟨p3,p4⟩|⟨e2,_,_⟩
   ·exact(hb b bp).2.2 j z u2 p3 p4 bQ
   ·exact oE (e1.trans e2.symm)
 ·intro i y u b hy hu bp;rcases dE i y u hy hu with⟨hy,hu⟩|⟨_,rfl,rfl⟩
  ·exact h.nw i y u b hy hu bp
  ·exact⟨(hb b bp).1,(hb b bp).2.1⟩
theorem HS.mask (h:HS cx bs w S H) {H':List aa} (hl:H'.length=H.length) (hm:∀(i:Nat) (x:aa),H'[i]?=some x->x=.dead\/H[i]?=some x):HS cx bs w S H':=by
 refine⟨by rw[h.len,hl],?_,?_,?_,h.s,h.s0,h.os,h.tape,h.output,h.size,h.old,h.an⟩
 ·intro i x v hx hv;rcases hm i x hx with rfl|hx
  ·exact trivial
  ·exact h.o i x v hx hv
 ·intro i j x y u v b oE hx hu hy hv bp bQ;rcases hm i x hx with rfl|hx
  ·cases bp
  rcases hm j y hy with rfl|hy
  ·cases bQ
  exact h.ap i j x y u v b oE hx hu hy hv bp bQ
 ·intro i x v b hx hv hb;rcases hm i x hx with rfl|hx
  ·cases hb
  ·exact h.nw i x v b hx hv hb
theorem i7 (bs:List Value) (v:Value):eI bs (bs++[v]):=λo u hu _=>by
 rw[List.getElem?_append_left (List.getElem?_eq_some_iff.1 hu).1];exact hu
theorem HS.setB (h:HS cx bs w S H) {i:Nat} {x y:aa} {v:Value} (hx:H[i]?=some x) (hv:bs[i]?=some v) {row:Option Nat} (hg:w.grownBy w' row) (iw:∀c,row=some c->Bk x v c) (jG:OR bs w' S y v) (hbk:∀c,Bk y v c->Bk x v c):HS cx bs w' S (H.set i y):=by
 have hlt:=(List.getElem?_eq_some_iff.1 hx).1;have dE:∀(j:Nat) (z:aa),(H.set i y)[j]?=some z->(j=i/\z=y)\/(j≠i/\H[j]?=some z):=by
  intro j z hz;by_cases hj:j=i
  ·subst hj;rw[List.getElem?_set_self hlt] at hz;injection hz with hz
   exact .inl ⟨rfl,hz.symm⟩
  ·rw[List.getElem?_set_ne (Ne.symm hj)] at hz;exact .inr ⟨hj,hz⟩
 have hk:af S w w':=af.of_row hg λb q=>⟨(h.s b q).1,λe=>(h.nw i x v b hx hv (iw b e.symm)).2 q⟩;refine⟨by simp[h.len],?_,?_,?_,λb q=>⟨Nat.lt_of_lt_of_le (h.s b q).1 hg.size,(h.s b q).2⟩,h.s0,hg.os.trans h.os,hg.tape.trans h.tape,hg.output.trans h.output,Nat.le_trans h.size hg.size,?_,h.an⟩
 ·intro j z u hz hu;rcases dE j z hz with⟨rfl,rfl⟩|⟨hj,hz⟩
  ·rw[hv] at hu;injection hu with hu;subst hu;exact jG
  ·exact(h.o j z u hz hu).keep hg (λb hb e=>h.ap j i z x u v b hj hz hu hx hv hb (iw b e.symm)) hk (λ_ h=>h) (λb q=>⟨Nat.lt_of_lt_of_le (h.s b q).1 hg.size,λe=>(h.nw j z u b hz hu e).2 q⟩) (eI.refl _)
 ·intro j k z z2 u u2 b hjk hz hu hz2 kR bp bQ;have q:∀(j:Nat) (z:aa) (u:Value),(H.set i y)[j]?=some z->bs[j]?=some u->Bk z u b->∃z',H[j]?=some z'/\Bk z' u b:=by
   intro j z u hz hu hb;rcases dE j z hz with⟨rfl,rfl⟩|⟨_,hz⟩
   ·rw[hv] at hu;injection hu with hu;subst hu
    exact⟨x,hx,hbk b hb⟩
   ·exact⟨z,hz,hb⟩
  obtain⟨z',q1,q2⟩:=q j z u hz hu bp;obtain⟨z2',q3,q4⟩:=q k z2 u2 hz2 kR bQ;exact h.ap j k z' z2' u u2 b hjk q1 hu q3 kR q2 q4
 ·intro j z u b hz hu hb;rcases dE j z hz with⟨rfl,rfl⟩|⟨_,hz⟩
  ·rw[hv] at hu;injection hu with hu;subst hu
   exact h.nw j x v b hx hv (hbk b hb)
  ·exact h.nw j z u b hz hu hb
 ·intro b q1 q2;rw[hg.block b (Nat.lt_of_lt_of_le q1 h.size) λe=>?_]
  ·exact h.old b q1 q2
  ·rcases(h.nw i x v b hx hv (iw b e.symm)).1 with q|q
   ·omega
   ·exact q2 q
theorem HS.set (h:HS cx bs w S H) {i:Nat} {x y:aa} {v:Value} (hx:H[i]?=some x) (hv:bs[i]?=some v) (hg:w.grownBy w' (bk x v)) (jG:OR bs w' S y v) (hbk:bk y v=bk x v\/bk y v=none) (hy:∀c,Bk y v c->bk y v=some c:=by intro c h;exact h):HS cx bs w' S (H.set i y):=
 h.setB hx hv hg (λ_ e=>Fg e) jG λc hc=>by
  have hc:=hy c hc;rcases hbk with e|e
  ·exact Fg (e▸hc)
  ·rw[e] at hc;cases hc
theorem HS.keeps (h:HS cx bs w S H) {i:Nat} {x:aa} {v:Value} (hx:H[i]?=some x) (hv:bs[i]?=some v) (hg:w.grownBy w' (bk x v)):af S w w':=
 af.of_row hg λb q=>⟨(h.s b q).1,λe=>(h.nw i x v b hx hv (Fg e.symm)).2 q⟩
end
theorem oz.weak {kt:Kt} {x y:kt.K->Prop} {v:Value} {c:Nat} (h:oz kt x v c) (hy:∀k,y k->x k:=by intro k h;exact h.elim):oz kt y v c:=by
 obtain⟨b,l,e,h⟩:=h;exact⟨b,l,e,h.imp id λ⟨k,u,h1,h2⟩=>⟨k,u,λh=>h1 (hy k h),h2⟩⟩
section
variable {bs aD:List Value} {w w':World} {S S':Nat->Prop} {p n:Nat} {kt:Kt} {t:Ty} {e:TypeId} {f:kt.K->Option (List (El t))}
theorem mG.row {b:Nat} {l:List (Value×Value)} {k:kt.K} {v:Value} (wB:∀b,S b->b<w.heap.size) (h:mG bs w S p kt t e n f (λ_=>False) (lD b l)) (hv:(kt.val k,v)∈l\/(v=.slice none 0 0/\∀u,(kt.val k,u)∉l)):Own (α:=El t) w S 0 e v ((f k).getD []).reverse/\∀c,v.ownBlock=some c->oz kt (λ_=>False) (lD b l) c/\¬oz kt (·=k) (lD b l) c:=by
 obtain⟨b',l',g,e1,h1,h2,h3,h4,h5,h6⟩:=h;obtain⟨rfl,rfl⟩:=gL e1;have:=h4 k id;rcases hv with hv|⟨rfl,hv⟩
 ·have hg:=(h3 k v).2 hv;refine⟨?_,λc hc=>⟨⟨b,l,rfl,.inr ⟨k,v,id,hv,hc⟩⟩,λ⟨b',l',e2,h⟩=>?_⟩⟩
  ·cases hf:f k with
   | none=>rw[hf] at this;rw[this] at hg;cases hg
   | some xs=>
    rw[hf] at this;obtain⟨u,hu,ho⟩:=this;rw[hg] at hu;obtain rfl:=Option.some.inj hu;exact ho
  ·obtain⟨rfl,rfl⟩:=gL e2;rcases h with rfl|⟨k',u',hk,t8,Ep⟩
   ·exact h6 k v hg hc
   ·exact h5 k k' v u' c hg ((h3 k' u').2 t8) (Ne.symm hk) hc Ep
 ·refine⟨?_,λc hc=>by cases hc⟩;cases hf:f k with
  | none=>exact Own.nil' w S wB 0 e
  | some xs=>
   rw[hf] at this;obtain⟨u,hu,_⟩:=this;exact absurd ((h3 k u).1 hu) (hv u)
theorem mG.out {v:Value} {k:kt.K} (h:mG bs w S p kt t e n f (λ_=>False) v) {row:Option Nat} (hg:w.grownBy w' row) (hk:af S w w') (hn:∀c,S c->c<w'.heap.size/\¬oz kt (·=k) v c) (iw:∀c,row=some c->¬oz kt (·=k) v c):mG bs w' S p kt t e n f (·=k) v:=
 mG.keep (let ⟨b,l,g,h0,h1,h2,h3,h4,h5⟩:=h;⟨b,l,g,h0,h1,h2,h3,λk _=>h4 k id,h5⟩) hg (λc hc e=>iw c e.symm hc) hk (λ_ h=>h) hn (eI.refl _)
end
def ft:aa->Option AV
 | .row t _ rs=>some (.list t rs.reverse !rs.isEmpty)
 | .mp kt t _ f=>some (.map kt t f)
 | _=>none
def ii:AV->Option Nat
 | .own o=>some o
 | .mp o=>some o
 | _=>none
section
variable {bs:List Value} {w:World} {S S':Nat->Prop}
theorem ni {a:AV} {o:Nat} {v:Value} (h:VR bs w S a v) (ho:ii a=some o):bs[o]?=some v:=by
 cases a with
 | own i=>injection ho with ho;subst ho;exact h.1
 | mp i=>injection ho with ho;subst ho;exact h.1
 | _=>cases ho
theorem nh {t:Ty} {e:TypeId} {xs:List (El t)} {v:Value} (ho:Own (α:=El t) w S 0 e v xs) (hS:∀b,S b->S' b) (hB:∀c,v.ownBlock=some c->S' c):∃A n c,v=.slice A n c/\RS w S' A n c xs:=by
 obtain⟨A,n,c,rfl,hn⟩:=ho.slice;obtain⟨cs,q1,q2,_⟩:=ho;subst hn;exact⟨A,_,c,rfl,RS.of_own q1 (q2.keep hS (af.refl _ _)) rfl λg hg=>hB g hg⟩
theorem mO {y:aa} {x:AV} {v:Value} (jG:OR bs w S y v) (hx:ft y=some x) (hS:∀b,S b->S' b) (hB:∀c,Bk y v c->S' c):VR bs w S' x v:=by
 cases y with
 | row t e rs=>
  injection hx with hx
  subst hx;obtain⟨A,n,c,rfl,h⟩:=nh jG hS hB;exact⟨A,n,c,rfl,h,λe q=>by rw[List.reverse_eq_nil_iff.1 q] at e;cases e⟩
 | mp kt t n f=>
  injection hx with hx
  subst hx;obtain⟨b,g,rfl,hm,h⟩:=jG;exact .inr ⟨b,n,g,rfl,hB b rfl,hm,λk=>(h k).keep hS (af.refl _ _)⟩
 | _=>cases hx
end
def reach (ops:Array Oper) (i:Nat):Nat->Nat->Bool
 | 0,_=>false
 | f+1,k=>match ops[k]? with|none=>false|some o=>o.after.any λe=>Region.binds .any e&&(e.on==i||reach ops i f e.on)
section
variable {P:Program} {ops:Array Oper} {Q:Exit->Act->World->Prop} {n:Nat} {o:Oper}
end
def ia (n:Nat) (ops:Array Oper):Bool:=
 ops.size==n&&(List.range n).all λi=>((ops[i]?).map λo=>o.after.all λe=>!Region.binds .any e||decide (e.on<i)).getD false
def waits (ops:Array Oper) (i j:Nat):Bool:=((ops[i]?).map λo=>o.after.any λe=>Region.binds .any e&&e.on==j).getD false
def fu (d:Nat->Bool) (i:Nat) (j:Nat):Bool:=if j=i then true else d j
theorem dB (d:Nat->Bool) (i:Nat):fu d i i=true:=if_pos rfl
theorem aN (d:Nat->Bool) {i j:Nat} (h:j≠i):fu d i j=d j:=if_neg h
section
variable {P:Program} {ops:Array Oper} {Q:Exit->Act->World->Prop} {n:Nat}
theorem cQ (h:ia n ops=true):ops.size=n:=by
 simp only[ia,Bool.and_eq_true,beq_iff_eq] at h;exact h.1
theorem i6 (h:ia n ops=true) {i:Nat} {x:Oper} (hx:ops[i]?=some x):∀e∈x.after,Region.binds .any e=true->e.on<i:=by
 have hi:i<n:=by rw[<-cQ h];exact(Array.getElem?_eq_some_iff.1 hx).1
 simp only[ia,Bool.and_eq_true] at h;have:=List.all_eq_true.1 h.2 i (List.mem_range.2 hi);rw[hx] at this;simp only[Option.map_some,Option.getD_some,Array.all_eq_true_iff_forall_mem,Bool.or_eq_true,Bool.not_eq_true',decide_eq_true_eq] at this;exact λe he hb=>(this e he).resolve_left (by simp[hb])
theorem pY {listed:Array Bool} {i:Nat} (hi:i<listed.size):(λj=>(listed.setIfInBounds i true).getD j false)=fu (λj=>listed.getD j false) i:=by
 funext j
 unfold fu;by_cases h:j=i
 ·subst h;rw[if_pos rfl,Array.getD_eq_getD_getElem?,Array.getElem?_setIfInBounds_self_of_lt hi];rfl
 ·rw[if_neg h];exact getD_set_ne false (Ne.symm h)
theorem zl (Inv:(Nat->Bool)->Act->World->Prop) (hb:ia n ops=true) (iO:∀d a w i,i<n->Inv d a w->d i=false->(∀j,waits ops i j=true->d j=true)->wpOp P ops Q i (Inv (fu d i)) a w) (wz:∀d a w,Inv d a w->(∀i,i<n->d i=true)->Q .normal a w) : ∀(fuel:Nat) (listed:Array Bool) (a:Act) (w:World),listed.size=n->(List.range n).countP (λi=>!listed.getD i false)<=fuel->Inv (λj=>listed.getD j false) a w->wpAny P .any ops Q fuel listed a w:=by
 have jy:∀(listed:Array Bool),listed.size=n->Region.ready .any ops listed=[]->∀i,i<n->listed.getD i false=true:=by
  intro listed hs hr;have:∀m i,i<m->i<n->listed.getD i false=true:=by
   intro m;induction m with
   | zero=>intro i hi;omega
   | succ m ih=>
    intro i hi yD;by_cases hl:listed.getD i false=true
    ·exact hl
    ·exfalso
     have hlt:i<ops.size:=by rw[cQ hb];exact yD
     have:i∈Region.ready .any ops listed:=by
      refine mem_ready.2 ⟨?_,ops[i],Array.getElem?_eq_getElem hlt,λe he iy=>?_⟩
      ·rw[Array.getD_eq_getD_getElem?,Array.getElem?_eq_getElem (by omega)] at hl ⊢;simpa using hl
      ·have h1:=i6 hb (Array.getElem?_eq_getElem hlt) e he iy;exact ih _ (by omega) (by omega)
     rw[hr] at this;cases this
  exact λi hi=>this (i+1) i (by omega) hi
 intro fuel;induction fuel with
 | zero=>
  intro listed a w hs hc hi;have hd:∀i,i<n->listed.getD i false=true:=by
   intro i yD;have:=List.countP_eq_zero.1 (Nat.le_zero.1 hc) i (List.mem_range.2 yD);simpa using this
  refine⟨?_,wz _ a w hi hd⟩;apply List.eq_nil_iff_forall_not_mem.2;intro j hj;obtain⟨h1,o,ho,_⟩:=mem_ready.1 hj;have Qw:j<n:=by rw[<-cQ hb];exact(Array.getElem?_eq_some_iff.1 ho).1
  have h2:=hd j Qw;rw[Array.getD_eq_getD_getElem?,Array.getElem?_eq_getElem (by omega)] at h1 h2;simp only[Option.getD_some] at h1 h2;rw[h1] at h2;cases h2
 | succ fuel ih=>
  intro listed a w hs hc hi;refine⟨λh0=>wz _ a w hi (jy listed hs h0),λi Zc=>?_⟩;obtain⟨h1,o,ho,h2⟩:=mem_ready.1 Zc;have yD:i<n:=by rw[<-cQ hb];exact(Array.getElem?_eq_some_iff.1 ho).1
  have h3:listed.getD i false=false:=by
   rw[Array.getD_eq_getD_getElem?,Array.getElem?_eq_getElem (by omega)] at h1 ⊢;simpa using h1
  have gX:=iO _ a w i yD hi h3 (λj hj=>by
   unfold waits at hj;rw[ho] at hj;simp only[Option.map_some,Option.getD_some] at hj;rw[<-Array.any_toList,List.any_eq_true] at hj;obtain⟨e,he,hj⟩:=hj;have he:=Array.mem_toList_iff.1 he;simp only[Bool.and_eq_true,beq_iff_eq] at hj;rw[<-hj.2];exact h2 e he hj.1)
  refine wpOp_mono (λa' w' hI=>ih _ a' w' (by simpa using hs) ?_ ?_) gX
  ·have h4:∀l:List Nat,l.Nodup->i∈l->l.countP (λj=>!(listed.setIfInBounds i true).getD j false)+1=l.countP (λj=>!listed.getD j false):=by
    intro l;induction l with
    | nil=>intro _ h;cases h
    | cons x l ih2=>
     intro J5 rU;rw[List.nodup_cons] at J5;have hf:=congrFun (pY (listed:=listed) (i:=i) (by omega));by_cases hx:x=i
     ·subst hx;rw[List.countP_cons_of_neg (by rw[hf];simp[fu]),List.countP_cons_of_pos (by simp[h3])];have:l.countP (λj=>!(listed.setIfInBounds x true).getD j false)=l.countP (λj=>!listed.getD j false):=by
       apply List.countP_congr;intro j hj;rw[hf,aN _ (λh:j=x=>J5.1 (by rw[<-h];exact hj))]
      omega
     ·have hm:i∈l:=by
       rcases List.mem_cons.1 rU with h|h
       ·exact absurd h.symm hx
       ·exact h
      have:=ih2 J5.2 hm;rw[List.countP_cons,List.countP_cons,hf,aN _ hx];omega
   have:=h4 (List.range n) List.nodup_range (List.mem_range.2 yD);omega
  ·rw[pY (by omega)];exact hI
theorem oI {id:Nat} {a:Act} {w:World} (n:Nat) (Inv:(Nat->Bool)->Act->World->Prop) (hm:P.follows .mixedOrders=true) (hb:ia n ops=true) (h0:Inv (λ_=>false) a w.drew) (iO:∀d a w i,i<n->Inv d a w->d i=false->(∀j,waits ops i j=true->d j=true)->wpOp P ops Q i (Inv (fu d i)) a w) (wz:∀d a w,Inv d a w->(∀i,i<n->d i=true)->Q .normal a w):(Code.region id ops true).wp P Q a w:=by
 refine wp_region_any hm ?_;rw[cQ hb];refine zl Inv hb iO wz n _ _ _ (by simp) ?_ ?_
 ·exact Nat.le_trans List.countP_le_length (by simp)
 ·have:(λj=>(Array.replicate n false).getD j false)=λ_=>false:=by
   funext j
   rw[Array.getD_eq_getD_getElem?];by_cases h:j<n
   ·simp[h]
   ·rw[Array.getElem?_eq_none (by simp;omega)];rfl
  rw[this];exact h0
end
def bJ (ops:Array Oper) (j:Nat):Option Nat:=(ops[j]?).bind (·.dst)
def k7 (ops:Array Oper) (n t:Nat):Bool:=(List.range n).all λj=>!(bJ ops j==some t)
def qj (ops:Array Oper) (n size:Nat):Bool:=(List.range n).all λj=>match bJ ops j with|none=>true|some t=>decide (t<size)&&(List.range j).all λk=>!(bJ ops k==some t)
def nA (ops:Array Oper) (n m:Nat):Bool:=(List.range m).all λk=>decide (k<n)||(List.range k).all λi=>reach ops i 9 k
section
variable {P:Program} {ops:Array Oper} {Q:Exit->Act->World->Prop} {n:Nat}
theorem tH {t:Nat} (h:k7 ops n t=true) {j:Nat} (hj:j<n):bJ ops j≠some t:=by
 have:=List.all_eq_true.1 h j (List.mem_range.2 hj);simpa using this
theorem gZ {size:Nat} (h:qj ops n size=true) {j t:Nat} (hj:j<n) (ht:bJ ops j=some t):t<size/\∀k,k<j->bJ ops k≠some t:=by
 have:=List.all_eq_true.1 h j (List.mem_range.2 hj);rw[ht] at this;simp only[Bool.and_eq_true,decide_eq_true_eq] at this;refine⟨this.1,λk hk=>?_⟩;have:=List.all_eq_true.1 this.2 k (List.mem_range.2 hk);simpa using this
theorem yK {size:Nat} (h:qj ops n size=true) {j k:Nat} (hj:j<n) (hk:k<n) (hne:j≠k):∀d,bJ ops j=some d->bJ ops k≠some d:=by
 intro d hd IA;rcases Nat.lt_or_ge j k with h1|h1
 ·exact(gZ h hk IA).2 j h1 hd
 ·exact(gZ h hj hd).2 k (by omega) IA
theorem jS {d:Nat->Bool} {i:Nat}:∀(f k:Nat),(∀j,waits ops k j=true->d j=true)->(∀k,d k=true->∀j,waits ops k j=true->d j=true)->reach ops i f k=true->d i=true:=by
 intro f;induction f with
 | zero=>intro k _ _ hr;cases hr
 | succ f ih=>
  intro k hk pW hr;unfold reach at hr;cases hx:ops[k]? with
  | none=>rw[hx] at hr;cases hr
  | some x=>
   rw[hx] at hr;simp only[Array.any_eq_true,Bool.and_eq_true,Bool.or_eq_true,beq_iff_eq] at hr;obtain⟨q,hq,hb,hr⟩:=hr;have h1:=hk x.after[q].on (by
    unfold waits;rw[hx];simp only[Option.map_some,Option.getD_some,Array.any_eq_true,Bool.and_eq_true,beq_iff_eq];exact⟨q,hq,hb,rfl⟩)
   rcases hr with hr|hr
   ·rw[<-hr];exact h1
   ·exact ih _ (pW _ h1) pW hr
def xt (P:Program) (ops:Array Oper) (Q:Exit->Act->World->Prop):Nat->Nat->Act->World->Prop
 | 0,_=>λa w=>Q .normal a w
 | r+1,k=>wpOp P ops Q k (xt P ops Q r (k+1))
theorem j0 {m k i:Nat} (h:nA ops n m=true) (hk:k<m) (hn:n<=k) (hi:i<k):reach ops i 9 k=true:=by
 have:=List.all_eq_true.1 h k (List.mem_range.2 hk);simp only[Bool.or_eq_true,decide_eq_true_eq] at this;rcases this with h1|h1
 ·omega
 ·exact List.all_eq_true.1 h1 i (List.mem_range.2 hi)
end
def S4 (l:List (Nat×Value)):Operand->Value
 | .tmp t=>(l.lookup t).getD undef
 | .const v=>v
 | .global g=>.pointer (some ⟨g,0,none⟩)
 | .func f=>.func (.func f) #[] #[]
def rh:Op->Bool
 | .move _|.assign _|.pick ..|.alloc _|.box ..|.build ..|.buildSlice ..|.load ..|.store ..|.nilCheck _|.binOp ..|.unOp ..|.convert ..|.makeFunc ..|.slice ..|.fieldAddr ..|.indexAddr ..|.lookup ..|.extract ..|.field ..|.index ..|.makeSlice ..|.sliceToArrayPointer ..|.call _=>true
 | _=>false
theorem execOp_congr {ρ ρ':Operand->Value} {o:Oper} (hp:rh o.op=true) (h:∀x∈o.op.operands,ρ x=ρ' x):execOp ρ o=execOp ρ' o:=by
 unfold execOp;cases ho:o.op with
 | build t ps=>
  rw[ho] at h;have:(ps.map λ(i,x)=>(i,ρ x))=ps.map λ(i,x)=>(i,ρ' x):=by
   apply Array.map_congr_left;rintro⟨i,x⟩ hp;show(i,ρ x)=(i,ρ' x);rw[h x (by simp only[Op.operands,List.mem_toArray,List.mem_map];exact⟨(i,x),by simpa using hp,rfl⟩)]
  simp only[this]
 | buildSlice t n ps=>
  rw[ho] at h;have:(ps.map λ(i,x)=>(i,ρ x))=ps.map λ(i,x)=>(i,ρ' x):=by
   apply Array.map_congr_left;rintro⟨i,x⟩ hp;show(i,ρ x)=(i,ρ' x);rw[h x (by simp only[Op.operands,List.mem_toArray,List.mem_map];exact⟨(i,x),by simpa using hp,rfl⟩)]
  simp only[this]
 | makeFunc fn fs cs=>
  rw[ho] at h;have h1:fs.map ρ=fs.map ρ':=Array.map_congr_left λx hx=>h x (by simp[Op.operands,hx]);have h2:cs.map ρ=cs.map ρ':=Array.map_congr_left λx hx=>h x (by simp[Op.operands,hx]);simp only[h1,h2]
 | slice t x l hi m=>
  rw[ho] at h;have h0:=h x (by simp[Op.operands]);have h1:l.map ρ=l.map ρ':=by cases l with|none=>rfl|some y=>simp[h y (by simp[Op.operands])]
  have h2:hi.map ρ=hi.map ρ':=by cases hi with|none=>rfl|some y=>simp[h y (by simp[Op.operands])]
  have h3:m.map ρ=m.map ρ':=by cases m with|none=>rfl|some y=>simp[h y (by simp[Op.operands])]
  simp only[h0,h1,h2,h3]
 | call c=>
  rw[ho] at h;have h1:c.args.map ρ=c.args.map ρ':=Array.map_congr_left λx hx=>h x (by simp[Op.operands,Call.operands,hx]);have h2:resolve ρ c o.type=resolve ρ' c o.type:=by
   unfold resolve;simp only[h1];cases hc:c.callee with
   | builtin b=>rfl
   | invoke r n=>simp only[h r (by simp[Op.operands,Call.operands,hc])]
   | value f=>simp only[h f (by simp[Op.operands,Call.operands,hc])]
  simp only[h2]
 | alloc _=>rfl
 | move x=>rw[ho] at h;simp only[h x (by simp[Op.operands])]
 | assign x=>rw[ho] at h;simp only[h x (by simp[Op.operands])]
 | box t x=>rw[ho] at h;simp only[h x (by simp[Op.operands])]
 | load t x=>rw[ho] at h;simp only[h x (by simp[Op.operands])]
 | nilCheck x=>rw[ho] at h;simp only[h x (by simp[Op.operands])]
 | unOp k t x=>rw[ho] at h;simp only[h x (by simp[Op.operands])]
 | convert s t x=>rw[ho] at h;simp only[h x (by simp[Op.operands])]
 | fieldAddr s x i=>rw[ho] at h;simp only[h x (by simp[Op.operands])]
 | pick c x y=>rw[ho] at h;simp only[h c (by simp[Op.operands]),h x (by simp[Op.operands]),h y (by simp[Op.operands])]
 | store t x y=>rw[ho] at h;simp only[h x (by simp[Op.operands]),h y (by simp[Op.operands])]
 | binOp k t x y u=>rw[ho] at h;simp only[h x (by simp[Op.operands]),h y (by simp[Op.operands])]
 | indexAddr t x y=>rw[ho] at h;simp only[h x (by simp[Op.operands]),h y (by simp[Op.operands])]
 | lookup t x y c=>rw[ho] at h;simp only[h x (by simp[Op.operands]),h y (by simp[Op.operands])]
 | extract x i=>rw[ho] at h;simp only[h x (by simp[Op.operands])]
 | field s x i=>rw[ho] at h;simp only[h x (by simp[Op.operands])]
 | sliceToArrayPointer s x=>rw[ho] at h;simp only[h x (by simp[Op.operands])]
 | index t x y=>rw[ho] at h;simp only[h x (by simp[Op.operands]),h y (by simp[Op.operands])]
 | makeSlice t x y=>rw[ho] at h;simp only[h x (by simp[Op.operands]),h y (by simp[Op.operands])]
 | _=>(rw[ho] at hp)<;>cases hp
section
variable {P:Program} {ops:Array Oper} {Q:Exit->Act->World->Prop}
def Kn (a:Act) (l:List (Nat×Value)):Prop:=∀p∈l,a.tmps[p.1]?=some p.2
theorem Kn.nil {a:Act}:Kn a []:=λ_ h=>by cases h
theorem Kn.c {a:Act} {l:List (Nat×Value)} {t:Nat} {v:Value} (k:Kn a l) (h:a.tmps[t]?=some v):Kn a ((t,v)::l):=λp hp=>by
 rcases List.mem_cons.1 hp with rfl|hp
 ·exact h
 ·exact k p hp
theorem vU {l:List (Nat×Value)} {t:Nat} {v:Value} (h:l.lookup t=some v):(t,v)∈l:=by
 induction l with
 | nil=>cases h
 | cons p l ih=>
  obtain⟨u,x⟩:=p;rw[List.lookup_cons] at h;by_cases e:(t==u)=true
  ·rw[e] at h;have e2:=eq_of_beq e;injection h with h
   subst e2 h;exact List.mem_cons_self
  ·have e':(t==u)=false:=by simpa using e
   rw[e'] at h;exact List.mem_cons_of_mem _ (ih h)
def UK (l:List (Nat×Value)):Operand->Bool
 | .tmp t=>(l.lookup t).isSome
 | _=>true
def xU (l:List (Nat×Value)) (o:Op):Bool:=rh o&&o.operands.all (UK l)
theorem MU {a:Act} {l:List (Nat×Value)} (hk:Kn a l) {x:Operand} (hx:UK l x=true):a.eval x=S4 l x:=by
 cases x with
 | tmp t=>
  cases e:l.lookup t with
  | none=>
   have hx':(l.lookup t).isSome=true:=hx;rw[e] at hx';cases hx'
  | some v=>
   have:=hk _ (vU e);show a.tmps.getD t undef=(l.lookup t).getD undef;rw[e,Array.getD_eq_getD_getElem?,this]
 | _=>rfl
theorem EJ {a:Act} {l:List (Nat×Value)} (hk:Kn a l) {o:Oper} (h:xU l o.op=true):execOp a.eval o=execOp (S4 l) o:=by
 unfold xU at h;rw[Bool.and_eq_true] at h;refine execOp_congr h.1 λx hx=>MU hk ?_;have:=Array.all_eq_true'.1 h.2 x hx;exact this
section
variable {a:Act} {w:World} {o:Oper} {l:List (Nat×Value)}
theorem T1 {r:Result Next} (hk:Kn a l) (yD:xU l o.op=true) (hr:(execOp (S4 l) o).run P w=r):(execOp a.eval o).run P w=r:=by
 rw[EJ hk yD];exact hr
theorem JS {t:TypeId} {p:Addr} {v:Value} (hc:w.cell? p=some v) (ht:((P.underlying t).map λd=>match d with|.struct _|.array _ _=>true|_=>false)=some false):(Instr.loadAt t (.pointer (some p))).run P w=.ok v w:=by
 cases hu:P.underlying t with
 | none=>rw[hu] at ht;cases ht
 | some d=>
  rw[hu] at ht;have My:(isAgg t).run P w=.ok false w:=by
   unfold isAgg;rw[Sem.run_bind,run_underlying hu w];cases d<;>simp_all
  simp[Instr.loadAt,Instr.sureAddr,loadVar,Sem.run_bind,My,hc]
end
end
structure FB (g:Nat) (w w':World):Prop where
 g:w.grownBy w' (some g)
 s:w'.heap.size=w.heap.size
theorem FB.setRow (w:World) (g:Nat) (cs:Array Value):FB g w (w.setRow g cs):=by
 have hs:(w.setRow g cs).heap.size=w.heap.size:=by simp[World.setRow]
 exact⟨⟨rfl,rfl,rfl,by rw[hs];exact Nat.le_refl _,λk _ hne=>setRow_other _ _ _ _ λe=>hne (by rw[e])⟩,hs⟩
section
variable {P:Program} {ops:Array Oper} {Q:Exit->Act->World->Prop} {m r n:Nat} {l:List (Nat×Value)} {a:Act} {w:World} {o:Oper}
theorem qW {t ty:TypeId} {v:Value} {g k:Nat} {cs:Array Value} (hb:bS w g ty cs) (hsz:(P.info? t).map (·.size)=some v.cells.size) (Ee:k+v.cells.size<=cs.size) (h1:∀u∈v.cells.toList,u.oneCell'=true) : (Instr.storeAt t (.pointer (some ⟨g,k,none⟩)) v).run P w=.ok () (w.setRow g (cs.toList.take k++v.cells.toList++cs.toList.drop (k+v.cells.size)).toArray):=by
 have gX:=run_storeCells_at P g k ty v.cells.toList 0 cs w hb (by simpa using Ee) h1;cases hq:P.info? t with
 | none=>rw[hq] at hsz;cases hsz
 | some i=>
  rw[hq] at hsz;have UY:i.size=v.cells.size:=by simpa using hsz
  simp[Instr.storeAt,storeVar,Instr.sureAddr,sizeOf,typeInfo,hq,UY];simpa using gX
end
section
variable {P:Program} {Q:Exit->Act->World->Prop} {m:Nat} {l:List (Nat×Value)} {a:Act} {w:World}
end
def Fw (P:Program) (t:TypeId):Option Bool:=(P.underlying t).map λd=>match d with|.struct _|.array _ _=>true|_=>false
theorem JR {P:Program} {w:World} {t:TypeId} {p:Addr} {cs:List Value} (hc:bb w p cs) (h1:Fw P t=some true) (h2:(P.info? t).map (·.size)=some cs.length):(Instr.loadAt t (.pointer (some p))).run P w=.ok (.agg cs.toArray) w:=by
 unfold Fw at h1;cases hu:P.underlying t with
 | none=>rw[hu] at h1;cases h1
 | some d=>
  rw[hu] at h1;cases hi:P.info? t with
  | none=>rw[hi] at h2;cases h2
  | some i=>
   rw[hi] at h2;have hs:i.size=cs.length:=by simpa using h2
   have My:(isAgg t).run P w=.ok true w:=by
    unfold isAgg;rw[Sem.run_bind,run_underlying hu w];cases d<;>simp_all
   have hl:=run_loadCells_list (P:=P) w p cs hc;simp[Instr.loadAt,Instr.sureAddr,loadVar,Sem.run_bind,My,sizeOf,typeInfo,hi,hs,hl]
section
variable {P:Program} {ops:Array Oper} {Q:Exit->Act->World->Prop} {m:Nat} {l:List (Nat×Value)} {a:Act} {w:World}
section
end
end
section
variable {P:Program} {w:World}
theorem addr_add (b o k:Nat):(⟨b,o,none⟩:Addr).add k=⟨b,o+k,none⟩:=by unfold Addr.add;split<;>simp_all
end
theorem iZ (w:World) (o:Obj):Below w.heap.size w (w.alloc o):=(Below.refl _ _).alloc (Nat.le_refl _) _
theorem mK {P:Program} {ops:Array Oper} {Q:Exit->Act->World->Prop} {i:Nat} {o:Oper} {a:Act} {w:World} {K:Act->World->Prop} (ho:ops[i]?=some o) (hw:Region.wanted o (yielded ops a.tmps)=true) (h:o.wp P a w K Q):wpOp P ops Q i K a w:=by
 unfold wpOp;rw[ho];simp only[hw,if_true];exact .inl h
inductive T (α:Type) where
 | lf (a:α)
 | br (b:Bool) (x y:T α)
 | nd (p:Prop) (t:T α)
 | bad
def T.hit {α:Type}:T α->α->Prop
 | .lf a,r=>a=r
 | .br b x y,r=>(b=true->x.hit r)/\(b=false->y.hit r)
 | .nd p t,r=>p/\t.hit r
 | .bad,_=>False
def T.bind {α β:Type}:T α->(α->T β)->T β
 | .lf a,f=>f a
 | .br b x y,f=>.br b (x.bind f) (y.bind f)
 | .nd p t,f=>.nd p (t.bind f)
 | .bad,_=>.bad
def T.op {α:Type}:Option α->T α
 | some a=>.lf a
 | none=>.bad
theorem T.hit_bind {α β:Type} {f:α->T β} {r:β}:∀{t:T α},(t.bind f).hit r->∃q,t.hit q/\(f q).hit r
 | .lf a,h=>⟨a,rfl,h⟩
 | .br b x y,h=>by
  cases b with
  | true=>obtain⟨q,h1,h2⟩:=T.hit_bind (h.1 rfl);exact⟨q,⟨λ_=>h1,λe=>by cases e⟩,h2⟩
  | false=>obtain⟨q,h1,h2⟩:=T.hit_bind (h.2 rfl);exact⟨q,⟨(λe=>by cases e),λ_=>h1⟩,h2⟩
 | .nd p t,h=>by obtain⟨q,h1,h2⟩:=T.hit_bind h.2;exact⟨q,⟨h.1,h1⟩,h2⟩
theorem T.hit_op {α:Type} {x:Option α} {r:α} (h:(T.op x).hit r):x=some r:=by
 cases x with
 | none=>exact h.elim
 | some a=>exact congrArg some h
def Py (c:Bool) (v:Value):AV:=if c then .val v else .sym v
def Lw (c:Bool):Value->Option XV
 | .agg cs=>if cs.all (·.oneCell') then some (.agg (cs.toList.map (Py c))) else none
 | .tuple _=>none
 | v=>some (.one (Py c v))
def ev (env:Env):Operand->Option XV
 | .tmp t=>env.lookup t
 | .const v=>Lw true v
 | .func f=>some (.one (.val (.func (.func f) #[] #[])))
 | .global _=>none
def WI:AV->Option (Value×Bool)
 | .val v=>some (v,true)
 | .sym v=>some (v,false)
 | _=>none
def wL:List AV->Option (List Value×Bool)
 | []=>some ([],true)
 | a::l=>match WI a,wL l with
  | some p,some q=>some (p.1::q.1,p.2&&q.2)
  | _,_=>none
def Q8:XV->Option (Value×Bool)
 | .one a=>WI a
 | .agg cs=>(wL cs).map λp=>(.agg p.1.toArray,p.2)
 | .tup _=>none
def Q9 (env:Env):List Operand->Option (List (Nat×Value)×Bool)
 | []=>some ([],true)
 | .tmp t::r=>match (env.lookup t).bind Q8,Q9 env r with
  | some p,some q=>some ((t,p.1)::q.1,p.2&&q.2)
  | _,_=>none
 | _::r=>Q9 env r
def KV {α:Type} (P:Program):Sem α->Option α
 | .pure a=>some a
 | .program k=>KV P (k P)
 | _=>none
theorem xE {α:Type} {P:Program} {a:α}:∀{s:Sem α},KV P s=some a->∀w,s.run P w=.ok a w
 | .pure b,h,w=>by injection h with h;subst h;rfl
 | .program k,h,w=>xE (s:=k P) h w
section
variable {cx:Cx} {bs:List Value} {w:World} {S:Nat->Prop} {m:Nat} {env:Env} {a:Act}
theorem fR {t:Nat} {x:XV}:∀{env:Env},env.lookup t=some x->(t,x)∈env
 | (u,y)::l,h=>by
  rw[List.lookup_cons] at h;by_cases e:(t==u)=true
  ·rw[e] at h;have e2:=eq_of_beq e;injection h with h
   subst e2 h;exact List.mem_cons_self
  ·have e':(t==u)=false:=by simpa using e
   rw[e'] at h;exact List.mem_cons_of_mem _ (fR h)
theorem vT {c:Bool} {v:Value} (h:v.oneCell'=true):VR bs w S (Py c v) v:=by
 cases c<;>exact⟨rfl,h⟩
theorem ru {c:Bool}:∀{l:List Value},(∀v∈l,v.oneCell'=true)->F2 (VR bs w S) (l.map (Py c)) l
 | [],_=>.nil
 | v::_,h=>.cons (vT (h v List.mem_cons_self)) (ru λu hu=>h u (List.mem_cons_of_mem _ hu))
theorem vR {c:Bool} {v:Value} {x:XV} (h:Lw c v=some x):XR bs w S x v:=by
 unfold Lw at h;split at h
 ·rename_i cs;split at h
  ·rename_i h1;injection h with h
   subst h;exact⟨cs.toList,rfl,ru λv hv=>Array.all_eq_true'.1 h1 v (by simpa using hv)⟩
  ·cases h
 ·cases h
 ·rename_i h1 h2;injection h with h
  subst h;refine vT ?_;cases v with
  | agg cs=>exact absurd rfl (h1 cs)
  | tuple cs=>exact absurd rfl (h2 cs)
  | _=>rfl
theorem ly (he:ER m bs w S env a) {t:Nat} {x:XV} (h:env.lookup t=some x):XR bs w S x (a.eval (.tmp t)):=by
 obtain⟨v,h1,h2⟩:=he.k t x (fR h);show XR bs w S x (a.tmps.getD t undef);rw[Array.getD_eq_getD_getElem?,h1];exact h2
theorem aZ (he:ER m bs w S env a) {x:Operand} {y:XV} (h:ev env x=some y):XR bs w S y (a.eval x):=by
 cases x with
 | tmp t=>exact ly he h
 | const v=>exact vR h
 | func f=>injection h with h;subst h;exact⟨rfl,rfl⟩
 | global g=>cases h
theorem EZ {x:AV} {p:Value×Bool} {v:Value} (h:WI x=some p) (hx:VR bs w S x v):v=p.1:=by
 cases x with
 | val u=>injection h with h;subst h;exact hx.1
 | sym u=>injection h with h;subst h;exact hx.1
 | _=>cases h
theorem yN:∀{l:List AV} {p:List Value×Bool} {vs:List Value},wL l=some p->F2 (VR bs w S) l vs->vs=p.1
 | [],p,_,h,hx=>by cases hx;injection h with h;subst h;rfl
 | x::l,p,_,h,hx=>by
  cases hx with
  | cons h1 h2=>
   unfold wL at h;split at h
   ·rename_i q r hq hr;injection h with h
    subst h;rw[EZ hq h1,yN hr h2]
   ·cases h
theorem EY {x:XV} {p:Value×Bool} {v:Value} (h:Q8 x=some p) (hx:XR bs w S x v):v=p.1:=by
 cases x with
 | one a=>exact EZ h hx
 | agg cs=>
  obtain⟨vs,rfl,hx⟩:=hx;cases e:wL cs with
  | none=>have h:Option.map _ (wL cs)=some p:=h;rw[e] at h;cases h
  | some q=>
   have h:Option.map _ (wL cs)=some p:=h;rw[e] at h;injection h with h
   subst h;rw[yN e hx]
 | tup l=>cases h
theorem od (he:ER m bs w S env a):∀{l:List Operand} {p:List (Nat×Value)×Bool},Q9 env l=some p->Kn a p.1/\∀x∈l,∀l',(∀t v,p.1.lookup t=some v->(l'.lookup t).isSome)->UK l' x=true
 | [],p,h=>by injection h with h;subst h;exact⟨Kn.nil,λ_ h=>by cases h⟩
 | .tmp t::_,p,h=>by
  unfold Q9 at h;split at h
  ·rename_i q s hq hs;injection h with h
   subst h;obtain⟨k1,k2⟩:=od he hs;cases e:env.lookup t with
   | none=>rw[e] at hq;cases hq
   | some x=>
    rw[e] at hq;obtain⟨v,h1,h2⟩:=he.k t x (fR e);have hv:=EY hq h2;subst hv;refine⟨k1.c h1,λx hx l' hl=>?_⟩;rcases List.mem_cons.1 hx with rfl|hx
    ·exact hl t q.1 (by rw[List.lookup_cons,beq_self_eq_true])
    ·refine k2 x hx l' λu v hu=>?_;by_cases e:u=t
     ·subst e;exact hl u q.1 (by rw[List.lookup_cons,beq_self_eq_true])
     ·exact hl u v (by rw[List.lookup_cons,show(u==t)=false by simpa using e];exact hu)
  ·cases h
 | .const v::r,p,h=>by
  obtain⟨k1,k2⟩:=od (l:=r) he h;exact⟨k1,λx hx l' hl=>(List.mem_cons.1 hx).elim (λe=>by subst e;rfl) λhx=>k2 x hx l' hl⟩
 | .func v::r,p,h=>by
  obtain⟨k1,k2⟩:=od (l:=r) he h;exact⟨k1,λx hx l' hl=>(List.mem_cons.1 hx).elim (λe=>by subst e;rfl) λhx=>k2 x hx l' hl⟩
 | .global v::r,p,h=>by
  obtain⟨k1,k2⟩:=od (l:=r) he h;exact⟨k1,λx hx l' hl=>(List.mem_cons.1 hx).elim (λe=>by subst e;rfl) λhx=>k2 x hx l' hl⟩
end
def ig (P:Program) (env:Env) (o:Oper):Option XV:=match Q9 env o.op.operands.toList with
 | some (l,c)=>if rh o.op then match KV P (execOp (S4 l) o) with
  | some (.value v)=>Lw c v
  | _=>none
  else none
 | none=>none
def eA (P:Program) (o:Oper) (bs:List Value) (w:World) (S:Nat->Prop) (a:Act) (bg:Nat) (r:XV×Option aa):Prop:=
 ∀(K:Act->World->Prop) (Q:Exit->Act->World->Prop),(∀v w' S' u,Below w.heap.size w w'->(∀b,S b->S' b)->(∀b,S' b->S b\/(w.heap.size<=b/\b<w'.heap.size))->
  (∀aD,eI bs aD->(r.2.isSome->aD[bg]?=some u)->XR aD w' S' r.1 v/\∀x,r.2=some x->OR aD w' S' x u)->(∀x,r.2=some x->∀b,Bk x u b->w.heap.size<=b/\¬S' b)->K (a.put o.dst v) w')->o.wp P a w K Q
section
variable {P:Program} {o:Oper} {cx:Cx} {bs:List Value} {w:World} {S:Nat->Prop} {H:List aa} {m:Nat} {env:Env} {a:Act} {bg:Nat}
theorem dW {x:XV} {v:Value} (hr:(execOp a.eval o).run P w=.ok (.value v) w) (hx:XR bs w S x v):eA P o bs w S a bg (x,none):=by
 intro K Q h;unfold Oper.wp;rw[hr,Oper.upon_value];exact h v w S undef (Below.refl _ _) (λ_ h=>h) (λ_ h=>.inl h) (λaD hb _=>⟨hx.keep (λ_ h=>h) (af.refl _ _) hb,λ_ e=>by cases e⟩) (λ_ e=>by cases e)
theorem kq (he:ER m bs w S env a) {x:XV} (h:ig P env o=some x):eA P o bs w S a bg (x,none):=by
 unfold ig at h;split at h
 ·rename_i l c hl;split at h
  ·rename_i hp;split at h
   ·rename_i v hv;obtain⟨k1,k2⟩:=od he hl;refine dW (T1 k1 ?_ (xE hv w)) (vR h);unfold xU;rw[Bool.and_eq_true];refine⟨hp,Array.all_eq_true'.2 λx hx=>k2 x (by simpa using hx) l λt v h=>by rw[h];rfl⟩
   ·cases h
  ·cases h
 ·cases h
end
end Go.Proofs.YtichkplomldgiaaGreatDoor
