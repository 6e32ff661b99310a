/- MDrd MFrz MHook -/
import Derived.Test.YtdbpbfglhbiadaaGreatDoorL00
import Derived.Test.YtdbpbfglhbiadaaGreatDoorL28
set_option maxHeartbeats 8000000
set_option maxRecDepth 100000
namespace Go.Proofs.YtdbpbfglhbiadaaGreatDoor
open Go Go.RowKit
structure Dl where
 x:XV
 nw:Option ai
 ch:List (Nat×ai)
def fq:List (Nat×ai)→Nat→Option ai
 | [],_=>none
 | p::l,o=>match fq l o with
  | some y=>some y
  | none=>if p.1=o then some p.2 else none
def oL (N0:Nat) (rs:List Dl) (j o:Nat):Option ai:=match rs[j]? with
 | some r=>if o=N0+j then some (r.nw.getD .dead) else fq r.ch o
 | none=>none
def fD (N0:Nat) (rs:List Dl) (d:Nat→Bool) (x0:ai) (o:Nat) (n:Nat):ai:=(List.range n).foldl (fun x j=>if d j then(oL N0 rs j o).getD x else x) x0
section
variable {N0 o:Nat} {rs:List Dl} {d d':Nat→Bool} {x0:ai}
theorem lz {n:Nat}:fD N0 rs d x0 o (n+1)=if d n then(oL N0 rs n o).getD (fD N0 rs d x0 o n) else fD N0 rs d x0 o n:=by
 unfold fD;rw[List.range_succ,List.foldl_append];rfl
theorem oI:∀{n:Nat},(∀j,j<n→d j=d' j∨oL N0 rs j o=none)→fD N0 rs d x0 o n=fD N0 rs d' x0 o n
 | 0,_=>rfl
 | n+1,h=>by
  rw[lz,lz,oI (n:=n) fun j hj=>h j (by omega)];rcases h n (by omega) with e|e
  ·rw[e]
  ·rw[e];simp
theorem QB {i:Nat} (hd:d i=false):∀{n:Nat},i<n→(∀j,i<j→j<n→d j=true→oL N0 rs j o=none∨oL N0 rs i o=none)→fD N0 rs (ky d i) x0 o n=(oL N0 rs i o).getD (fD N0 rs d x0 o n)
 | n+1,hi,h=>by
  rw[lz,lz];by_cases e:i=n
  ·subst e;rw[gP,if_pos rfl,hd,oI (d':=d) fun j hj=>.inl (bN d (by omega))];simp
  ·rw[bN d (acp e),QB hd (n:=n) (by omega) fun j h1 h2 h3=>h j h1 (by omega) h3];cases hn:d n with
   | false=>simp
   | true=>
    rcases h n (by omega) (by omega) hn with q|q
    ·rw[q];simp
    ·rw[q];simp
end
theorem Nw {P:Program} {Hv Hf:List ai} {t:TypeId} {x y:Option XV} {p:Nat×ai} (hv:yr Hv Hf) (h:AZ P Hv t x y=some p):AZ P Hf t x y=some p:=by
 unfold AZ at h ⊢;split at h
 ·split at h
  ·rename_i hH;rcases hv.2 _ _ hH with e|e
   ·cases e
   ·simp only[*]
  ·cases h
 ·split at h
  ·rename_i hH;rcases hv.2 _ _ hH with e|e
   ·cases e
   ·simp only[*]
  ·cases h
 ·split at h
  ·rename_i hH;rcases hv.2 _ _ hH with e|e
   ·cases e
   ·simp only[*]
  ·cases h
 ·cases h
def apK (H:List ai) (x:Option XV):List (Nat×ai):=match x with
 | some (.one (.own ob))=>[(ob,.dead)]
 | some (.one (.mrow q kt k))=>match H[q]? with
  | some (.mr p lu t e' n f)=>match Kt.eq? kt lu with
   | some h=>[(q,.mx p lu t e' n f (h.down▸k))]
   | none=>[]
  | _=>[]
 | _=>[]
theorem VO {ty:TypeId→Option Ty} {Hv Hf H':List ai} {e:TypeId} {x:Option XV} {q:(y:Ty)×List (El y)} (hv:yr Hv Hf) (h:apS ty Hv e x=some (H',q)):apS ty Hf e x=some (jl (apK Hv x) Hf,q):=by
 unfold apS at h ⊢;split at h
 ·split at h
  ·rename_i ob _ y e' rs hH;rcases hv.2 _ _ hH with e2|e2
   ·cases e2
   ·split at h
    ·rename_i he;injection h with h
     injection h with h1 h2
     subst h2;simp only[e2,he,if_true];rfl
    ·cases h
  ·cases h
 ·cases hte:ty e with
  | none=>rw[hte] at h;cases h
  | some y=>
   rw[hte] at h;injection h with h
   injection h with h1 h2
   subst h2;rfl
 ·rename_i q kt k;split at h
  ·rename_i p lu t e' n f hH;rcases hv.2 _ _ hH with e2|e2
   ·cases e2
   ·split at h
    ·rename_i hk hZ;split at h
     ·rename_i he;injection h with h
      injection h with h1 h2
      subst h2;subst he;simp only[e2,hZ,if_true];simp only[apK,hH,hZ];rfl
     ·cases h
    ·cases h
  ·cases h
 ·cases h
theorem VN {Hv Hf:List ai} {y:Ty} {x:Option XV} {ys:List (El y)} (hv:yr Hv Hf) (h:apY Hv y x=some ys):apY Hf y x=some ys:=by
 unfold apY at h ⊢;split at h
 ·split at h
  ·rename_i hH;rcases hv.2 _ _ hH with e2|e2
   ·cases e2
   ·simp only[e2];exact h
  ·cases h
 ·exact h
 ·cases h
theorem Rz {P:Program} {ty:TypeId→Option Ty} {Hv Hf:List ai} {t:TypeId} {s x:Option XV} {r:List ai×(y:Ty)×TypeId×List (El y)} (hv:yr Hv Hf) (h:(Hq P ty Hv t s x).hit r):(Hq P ty Hf t s x).hit (jl (apK Hv s) Hf,r.2):=by
 unfold Hq at h ⊢;cases fU:slI P t with
 | none=>rw[fU] at h;exact h.elim
 | some q=>
  obtain⟨e,sz,bytes⟩:=q;rw[fU] at h;simp only at h ⊢;cases hs:apS ty Hv e s with
  | none=>rw[hs] at h;exact h.elim
  | some q=>
   obtain⟨H',y,rs⟩:=q;rw[hs] at h;rw[VO hv hs];simp only at h ⊢;cases hy:apY Hv y x with
   | none=>rw[hy] at h;exact h.elim
   | some ys=>
    rw[hy] at h;rw[VN hv hy];simp only at h ⊢;split at h
    ·rename_i jM;rw[if_pos jM];obtain⟨h1,h2⟩:=h;exact⟨h1,by obtain rfl:=h2;rfl⟩
    ·exact h.elim
def Wy (cs:List AV):List Nat:=cs.filterMap nl
def M5 (H:List ai):XV→XV
 | .one a=>.one (CK H a)
 | .agg cs=>.agg (cs.map (CK H))
 | x=>x
def zu (xs:List XV):List Nat:=xs.flatMap fun
 | .one a=>Wy [a]
 | .agg cs=>Wy cs
 | .tup _=>[]
def dop {P:Program} (C:ik P) (cZ:Nat) (env:Env) (H:List ai) (o:Oper):T Dl:=match o.op with
 | .store t x y=>match o.dst with
  | none=>T.op ((AZ P H t (ev env x) (ev env y)).map fun p=>⟨.tup [],none,[p]⟩)
  | some _=>.bad
 | .call { callee:=.builtin .append,args:=args,argTypes:=ts }=>match args.toList,ts.toList with
  | [s,x],[t,t']=>if t=t' then(Hq P C.ty H t (ev env s) (ev env x)).bind fun r=>.lf ⟨.one (.own cZ),some (.row r.2.1 r.2.2.1 r.2.2.2),apK H (ev env s)⟩ else .bad
  | _,_=>.bad
 | .mapUpdate t x k v=>match o.dst with
  | none=>(Y4 P C.ty cZ H t (ev env x) (ev env k) (ev env v)).bind fun r=>.lf ⟨.tup [],r.2,r.1⟩
  | some _=>.bad
 | .buildSlice t n ps=>match lL env ps.toList with
  | some l=>(T.op (KC P C.ty cZ t n (some (Wo H l)))).bind fun r=>.lf ⟨r.1,r.2,ml (wR l)⟩
  | none=>.bad
 | .call { callee:=.value (.func f),args:=args,argTypes:=_ }=>if C.eff o then(C.d o env H).bind fun r=>.lf ⟨r.1,none,r.2⟩ else(match ka env args.toList with
  | some xs=>if xs.any TB&&(C.D.find? fun s=>s.f==f).any Sm.al then(Wx C.ty C.D (H.map fun _=>ai.dead) f (some (xs.map (M5 H)))).bind fun x=>.lf ⟨x,none,ml (zu xs)⟩ else(Xi C.ty C.D cZ env H o).bind fun r=>.lf ⟨r.1,r.2,[]⟩
  | none=>.bad)
 | _=>if C.eff o then(C.d o env H).bind fun r=>.lf ⟨r.1,none,r.2⟩ else(Xi C.ty C.D cZ env H o).bind fun r=>.lf ⟨r.1,r.2,[]⟩
theorem NM {α:Type} {l:List α} {i:Nat} {x:α} (h:l[i]?=some x):l.set i x=l:=by
 refine acy fun j=>?_;by_cases e:i=j
 ·subst e;rw[aaQ (aag.1 h).1,h]
 ·rw[aaK e]
theorem yr.hide {Hv Hf:List ai} (hv:yr Hv Hf) {cx:Cx} {bs:List Value} {w:World} {S:Nat→Prop} (hs:HS cx bs w S Hf):HS cx bs w S Hv:=hs.mask hv.1 hv.2
theorem iD:∀{l l':List (Nat×ai)} {H:List ai},jl (l++l') H=jl l' (jl l H)
 | [],_,_=>rfl
 | _::l,_,_=>iD (l:=l)
theorem gE:∀{l:List (Nat×ai)} {H:List ai},(jl l H).length=H.length
 | [],_=>rfl
 | p::l,H=>by show(jl l (H.set p.1 p.2)).length=_;rw[gE,abY]
theorem lY:∀{l:List (Nat×ai)} {H:List ai} {o:Nat} {y:ai},H[o]?=some y→(jl l H)[o]?=some ((fq l o).getD y)
 | [],_,_,_,h=>h
 | p::l,H,o,y,h=>by
  show(jl l (H.set p.1 p.2))[o]?=_;by_cases e:p.1=o
  ·subst e;rw[lY (l:=l) (aaQ (aag.1 h).1)];show _=some (Option.getD (match fq l p.1 with|some y=>some y|none=>if p.1=p.1 then some p.2 else none) y);cases fq l p.1<;>simp
  ·rw[lY (l:=l) (by rw[aaK e];exact h)];show _=some (Option.getD (match fq l o with|some y=>some y|none=>if p.1=o then some p.2 else none) y);cases fq l o<;>simp[e]
theorem xv {k:Nat} {x:ai}:∀{l:List (Nat×ai)} {o:Nat},fq (l++[(k,x)]) o=if k=o then some x else fq l o
 | [],o=>by show(match (none:Option ai) with|some y=>some y|none=>if k=o then some x else none)=_;rfl
 | p::l,o=>by
  show(match fq (l++[(k,x)]) o with|some y=>some y|none=>if p.1=o then some p.2 else none)=if k=o then some x else(match fq l o with|some y=>some y|none=>if p.1=o then some p.2 else none)
  rw[xv (l:=l)];by_cases e:k=o
  ·rw[if_pos e,if_pos e]
  ·rw[if_neg e,if_neg e]
theorem zU {x:ai}:∀{l:List (Nat×ai)} {o:Nat},fq l o=some x→∃p∈l,p.1=o
 | p::l,o,h=>by
  have h:(match fq l o with|some y=>some y|none=>if p.1=o then some p.2 else none)=some x:=h;cases e:fq l o with
  | some y=>obtain⟨q,h1,h2⟩:=zU e;exact⟨q,aaN _ h1,h2⟩
  | none=>
   rw[e] at h;simp only at h;split at h
   ·rename_i h1;exact⟨p,aaw,h1⟩
   ·cases h
theorem Db {H:List ai} {i:Nat} (h:∀x,H[i]?=some x→x=.dead):H.set i .dead=H:=by
 refine acy fun j=>?_;by_cases e:i=j
 ·subst e;cases hx:H[i]? with
  | none=>rw[abN (by rw[abY];exact List.getElem?_eq_none_iff.1 hx)]
  | some x=>rw[aaQ (aag.1 hx).1,h x hx]
 ·rw[aaK e]
theorem U5 {P:Program} {o:Oper} {cx:Cx} {bs:List Value} {w:World} {S:Nat→Prop} {Hf:List ai} {cZ:Nat} {a:Act} {q:XV×Option ai} {K:Act→World→Prop} {Q:Exit→Act→World→Prop} (hs:HS cx bs w S Hf) (hn:Hf[cZ]?=some .dead) (hb:bs[cZ]?=some undef) (h:jR P o bs w S a cZ q) (hK:∀v w' bn S',HS cx bn w' S' (Hf.set cZ (q.2.getD .dead))→(∀b,S b→S' b)→aA S w w'→jB bs bn→(∀j,j≠cZ→bn[j]?=bs[j]?)→(o.dst.isSome=true→XR bn w' S' q.1 v)→K (a.put o.dst v) w'):o.wp P a w K Q:=by
 refine h _ _ fun v w' S' u yD hS vQ hx hf=>?_;have fV:=hs.grow yD hS vQ;have bX:aA S w w':=(aA.of_below yD).sub fun b q=>(hs.s b q).1;cases hq:q.2 with
 | none=>
  refine hK v w' bs S' ?_ hS bX (jB.refl _) (fun _ _=>rfl) fun _=>(hx bs (jB.refl _) (by rw[hq];intro h;cases h)).1;rw[hq];show HS cx bs w' S' (Hf.set cZ .dead);rw[Db fun x hx=>by rw[hn] at hx;exact(aal hx).symm];exact fV
 | some x=>
  have xM:jB bs (bs.set cZ u):=fun i z hz iO=>by
   rw[aaK (fun e=>by subst e;rw[hb] at hz;obtain rfl:=aal hz;cases iO)];exact hz
  obtain⟨UD,Cw⟩:=hx (bs.set cZ u) xM (fun _=>aaQ (aag.1 hb).1);refine hK v w' (bs.set cZ u) S' ?_ hS bX xM (fun j hj=>aaK (acp hj)) fun _=>UD;rw[hq];refine fV.fill hn hb rfl (Cw x hq) fun b gD=>⟨.inl (aaM hs.size (hf x hq b gD).1),(hf x hq b gD).2,fun i z p hz hp e=>?_⟩;have:=(hs.o i z p hz hp).lt e;have:=(hf x hq b gD).1;omega
theorem qH {o:Nat}:∀os:List Nat,fq (ml os) o=none∨fq (ml os) o=some .dead
 | []=>.inl rfl
 | i::os=>by
  show(match fq (ml os) o with|some y=>some y|none=>if i=o then some ai.dead else none)=none∨_=some ai.dead;rcases qH (o:=o) os with e|e
  ·by_cases h:i=o
   ·exact .inr (by show(match fq (ml os) o with|some y=>some y|none=>if i=o then some ai.dead else none)=_;rw[e];simp[h])
   ·exact .inl (by rw[e];simp[h])
  ·exact .inr (by show(match fq (ml os) o with|some y=>some y|none=>if i=o then some ai.dead else none)=_;rw[e])
theorem wj {bs:List Value} {w:World} {S S':Nat→Prop} {Hv Hf:List ai} {os:List Nat} (hv:yr Hv Hf) (hS:∀b,S b→S' b) (hk:∀o∈os,∀(y:ai) (x:AV) (v:Value),Hf[o]?=some y→kx y=some x→bs[o]?=some v→VR bs w S' x v) {x:AV} {v:Value} (hx:∀o,nl x=some o→o∈os) (h:VR bs w S x v):VR bs w S' (CK Hv x) v:=by
 have up:VR bs w S' x v:=h.keep hS (aA.refl _ _) (jB.refl _);unfold CK;split
 ·rename_i o ho;cases e:Hv[o]? with
  | none=>exact up
  | some y=>
   show VR bs w S' ((kx y).getD x) v;cases e2:kx y with
   | none=>exact up
   | some z=>
    rcases hv.2 _ _ e with e3|e3
    ·subst e3;cases e2
    ·exact hk o (hx o ho) y z v e3 e2 (wV h ho)
 ·exact up
theorem M6 {bs:List Value} {w:World} {S S':Nat→Prop} {Hv Hf:List ai} {os:List Nat} (hv:yr Hv Hf) (hS:∀b,S b→S' b) (hk:∀o∈os,∀(y:ai) (x:AV) (v:Value),Hf[o]?=some y→kx y=some x→bs[o]?=some v→VR bs w S' x v) {l:List (Nat×List AV)} {m:List (Nat×Value)} (h:F2 (fun p q=>p.1=q.1∧F2 (VR bs w S) p.2 q.2.cells.toList) l m) (hm:∀p∈l,∀x∈p.2,∀o,nl x=some o→o∈os):F2 (fun p q=>p.1=q.1∧F2 (VR bs w S') p.2 q.2.cells.toList) (Wo Hv l) m:=
 h.mapL fun p hp _ hr=>⟨hr.1,hr.2.mapL fun x hx _ hvr=>wj hv hS hk (hm p hp x hx) hvr⟩
theorem KV {l:List (Nat×List AV)}:∀p∈l,∀x∈p.2,∀o,nl x=some o→o∈wR l:=fun p hp x hx _ e=>List.mem_flatMap.2 ⟨p,hp,ac3.2 ⟨x,hx,e⟩⟩
theorem Kc {bs:List Value} {w:World} {S S':Nat→Prop} {Hv Hf:List ai} {os:List Nat} (hv:yr Hv Hf) (hS:∀b,S b→S' b) (hk:∀o∈os,∀(y:ai) (x:AV) (v:Value),Hf[o]?=some y→kx y=some x→bs[o]?=some v→VR bs w S' x v) {l:List XV} {m:List Value} (h:F2 (XR bs w S) l m) (hm:∀x∈l,∀a o,(x=.one a∨∃cs,x=.agg cs∧a∈cs)→nl a=some o→o∈os):F2 (XR bs w S') (l.map (M5 Hv)) m:=by
 refine h.mapL fun x hx v hvr=>?_;cases x with
 | one a=>exact wj hv hS hk (fun o e=>hm _ hx a o (.inl rfl) e) hvr
 | agg cs=>
  obtain⟨vs,e,hf⟩:=hvr;exact⟨vs,e,hf.mapL fun y hy u hu=>wj hv hS hk (fun o e2=>hm _ hx y o (.inr ⟨cs,rfl,hy⟩) e2) hu⟩
 | tup l=>exact XR.keep hvr hS (aA.refl _ _) (jB.refl _)
theorem KU {l:List XV}:∀x∈l,∀a o,(x=.one a∨∃cs,x=.agg cs∧a∈cs)→nl a=some o→o∈zu l:=by
 intro x hx a o h e;refine List.mem_flatMap.2 ⟨x,hx,?_⟩;rcases h with rfl|⟨cs,rfl,h⟩
 ·exact ac3.2 ⟨a,ab5.2 rfl,e⟩
 ·exact ac3.2 ⟨a,h,e⟩
theorem mQ {Hv Hf:List ai} (hv:yr Hv Hf) {i:Nat} {y:ai} (h:Hv[i]?=some y) (hy:y≠.dead):Hf[i]?=some y:=(hv.2 _ _ h).elim (fun e=>absurd e hy) id
theorem TP {P:Program} {ty:TypeId→Option Ty} {cZ:Nat} {Hv Hf:List ai} {t:TypeId} {m x v:Option XV} {r:List (Nat×ai)×Option ai} (hv:yr Hv Hf) (h:(Y4 P ty cZ Hv t m x v).hit r):(Y4 P ty cZ Hf t m x v).hit r:=by
 unfold Y4 at h ⊢;split at h
 ·split at h
  ·rename_i hk hH;simp only[hk,mQ hv hH (fun e=>by cases e)];exact h
  ·rename_i hk hH;simp only[hk,mQ hv hH (fun e=>by cases e)];split at h
   ·rename_i hQ;simp only[mQ hv hQ (fun e=>by cases e)];split at h
    ·rename_i hR;simp only[mQ hv hR (fun e=>by cases e)];exact h
    ·exact h.elim
   ·exact h.elim
  ·exact h.elim
 ·exact h.elim
theorem abf {P:Program} {C:ik P} {o:Oper} {cx:Cx} {bs:List Value} {w:World} {S:Nat→Prop} {Hv Hf:List ai} {m cZ:Nat} {env:Env} {a:Act} {r:Dl} {K:Act→World→Prop} {Q:Exit→Act→World→Prop} (hv:yr Hv Hf) (hs:HS cx bs w S Hf) (he:ER m bs w S env a) (hn:Hf[cZ]?=some .dead) (hb:bs[cZ]?=some undef) (h:(dop C cZ env Hv o).hit r) (hK:∀v w' bn S',HS cx bn w' S' (jl (r.ch++[(cZ,r.nw.getD .dead)]) Hf)→(∀b,S b→S' b)→aA S w w'→jB bs bn→(∀j,j≠cZ→bn[j]?=bs[j]?)→(o.dst.isSome=true→XR bn w' S' r.x v)→K (a.put o.dst v) w'):o.wp P a w K Q:=by
 unfold dop at h;split at h
 ·rename_i t x y hop;split at h
  ·rename_i xK;have h:=T.hit_op h;cases hp:AZ P Hv t (ev env x) (ev env y) with
   | none=>rw[hp] at h;cases h
   | some p=>
    rw[hp] at h;obtain rfl:=aal h;refine Ir hs he hop xK (Nw hv hp) fun w' q1 q2=>?_;have:=hK undef w' bs S (q1.mask (by show((Hf.set p.1 p.2).set cZ .dead).length=_;rw[abY]) fun i x hx=>by
     have hx:((Hf.set p.1 p.2).set cZ .dead)[i]?=some x:=hx;by_cases e:cZ=i
     ·subst e;rw[aaQ (by rw[abY];exact(aag.1 hn).1)] at hx;exact .inl (aal hx).symm
     ·rw[aaK e] at hx;exact .inr hx) (fun _ h=>h) q2 (jB.refl _) (fun _ _=>rfl) (fun e=>by rw[xK] at e;cases e)
    rw[xK] at this;exact this
  ·exact h.elim
 ·rename_i args ts hop;split at h
  ·rename_i s x t t' ha ht;split at h
   ·rename_i e;subst e;obtain⟨q,h1,h2⟩:=T.hit_bind h;obtain rfl:(⟨.one (.own cZ),some (.row q.2.1 q.2.2.1 q.2.2.2),apK Hv (ev env s)⟩:Dl)=r:=h2;have ha':args=#[s,x]:=by rw[←acd (xs:=args),ha]
    have UI:ts=#[t,t]:=by rw[←acd (xs:=ts),ht]
    rw[ha',UI] at hop;refine JR hs he hop (Rz hv h1) fun v w' cK hHl UT bX ii cm=>?_;have hj:(jl (apK Hv (ev env s)) Hf)[cZ]?=some .dead:=by
     exact UT cZ hn
    have j5:=cK.fill (x:=.row q.2.1 q.2.2.1 q.2.2.2) (v:=v) hj hb rfl ii cm;obtain⟨A',n',c',Ls,_⟩:=ii.slice;refine hK v w' (bs.set cZ v) S (by rw[iD];exact j5) (fun _ h=>h) bX (fun i u hu ti=>?_) (fun j hj=>aaK (acp hj)) fun _=>⟨aaQ (aag.1 hb).1,A',n',c',Ls⟩;rw[aaK (fun e=>by subst e;rw[hb] at hu;obtain rfl:=aal hu;cases ti)];exact hu
   ·exact h.elim
  ·exact h.elim
 ·rename_i t x k v hop;split at h
  ·rename_i xK;obtain⟨q,h1,h2⟩:=T.hit_bind h;obtain rfl:(⟨.tup [],q.2,q.1⟩:Dl)=r:=h2;refine OL hs he C.isP hop xK hn hb (TP hv h1) fun w' bn q1 q2 q3 q4=>?_;have:=hK undef w' bn S q1 (fun _ h=>h) q2 q3 q4 (fun e=>by rw[xK] at e;cases e);rw[xK] at this;exact this
  ·exact h.elim
 ·rename_i t n ps hop;split at h
  ·rename_i l hp;obtain⟨q,h1,h2⟩:=T.hit_bind h;obtain rfl:(⟨q.1,q.2,ml (wR l)⟩:Dl)=r:=h2;obtain⟨S',k1,k2,k3⟩:=BI (wR l) hs;have vQ:(jl (ml (wR l)) Hf)[cZ]?=some .dead:=by
    rw[lY hn];rcases qH (o:=cZ) (wR l) with e|e
    ·rw[e];rfl
    ·rw[e];rfl
   have GH:=M6 hv k1 k3 (l9 he hp) KV;refine U5 k2 vQ hb (Iz k2 GH hop (T.hit_op h1)) fun v w' bn S'' q1 q2 q3 q4 q5 q6=>?_;exact hK v w' bn S'' (by rw[iD];exact q1) (fun b h=>q2 b (k1 b h)) (q3.sub k1) q4 q5 q6
  ·exact h.elim
 ·rename_i f args ts hop;split at h
  ·rename_i P9;obtain⟨q,h1,h2⟩:=T.hit_bind h;obtain rfl:(⟨q.1,none,q.2⟩:Dl)=r:=h2;refine C.dok m o cx bs S env Hv Hf a w q K Q P9 hv hs he h1 fun v w' S' q1 q2 q3 q4=>?_;refine hK v w' bs S' ?_ q2 q3 (jB.refl _) (fun _ _=>rfl) fun _=>q4;refine q1.mask (by rw[gE,gE]) fun i x hx=>?_;rw[iD] at hx;have hx:((jl q.2 Hf).set cZ .dead)[i]?=some x:=hx;by_cases e:cZ=i
   ·subst e;rw[aaQ (by rw[gE];exact(aag.1 hn).1)] at hx;exact .inl (aal hx).symm
   ·rw[aaK e] at hx;exact .inr hx
  ·split at h
   ·rename_i xs hx;split at h
    ·obtain⟨q,h1,h2⟩:=T.hit_bind h;obtain rfl:(⟨q,none,ml (zu xs)⟩:Dl)=r:=h2;obtain⟨S',k1,k2,k3⟩:=BI (zu xs) hs;have vQ:(jl (ml (zu xs)) Hf)[cZ]?=some .dead:=by
      rw[lY hn];rcases qH (o:=cZ) (zu xs) with e|e
      ·rw[e];rfl
      ·rw[e];rfl
     have En:=Kc hv k1 k3 (jP he hx) KU;have hd:HS cx bs w S' (Hv.map fun _=>ai.dead):=k2.mask (by rw[ace,gE];exact hv.1) fun i x hx=>by
      rw[acz] at hx;cases e:Hv[i]? with
      | none=>rw[e] at hx;cases hx
      | some y=>rw[e] at hx;exact .inl (aal hx).symm
     refine U5 k2 vQ hb (wQ (cap:=#[]) hd (fun ys hy=>by obtain rfl:=aal hy;rw[Array.toList_empty,acn];exact En) rfl hop h1) fun v w' bn S'' q1 q2 q3 q4 q5 q6=>?_;exact hK v w' bn S'' (by rw[iD];exact q1) (fun b h=>q2 b (k1 b h)) (q3.sub k1) q4 q5 q6
    ·obtain⟨q,h1,h2⟩:=T.hit_bind h;obtain rfl:(⟨q.1,q.2,[]⟩:Dl)=r:=h2;exact U5 hs hn hb (B6 C.isP (hv.hide hs) he h1) hK
   ·exact h.elim
 ·split at h
  ·rename_i P9;obtain⟨q,h1,h2⟩:=T.hit_bind h;obtain rfl:(⟨q.1,none,q.2⟩:Dl)=r:=h2;refine C.dok m o cx bs S env Hv Hf a w q K Q P9 hv hs he h1 fun v w' S' q1 q2 q3 q4=>?_;refine hK v w' bs S' ?_ q2 q3 (jB.refl _) (fun _ _=>rfl) fun _=>q4;refine q1.mask (by rw[gE,gE]) fun i x hx=>?_;rw[iD] at hx;have hx:((jl q.2 Hf).set cZ .dead)[i]?=some x:=hx;by_cases e:cZ=i
   ·subst e;rw[aaQ (by rw[gE];exact(aag.1 hn).1)] at hx;exact .inl (aal hx).symm
   ·rw[aaK e] at hx;exact .inr hx
  ·obtain⟨q,h1,h2⟩:=T.hit_bind h;obtain rfl:(⟨q.1,q.2,[]⟩:Dl)=r:=h2;exact U5 hs hn hb (B6 C.isP (hv.hide hs) he h1) hK
theorem QC {N0 o:Nat} {rs:List Dl} {d:Nat→Bool} {x0:ai} {i:Nat}:∀{n:Nat},i≤n→(∀j,i≤j→j<n→d j=false)→fD N0 rs d x0 o n=fD N0 rs d x0 o i
 | 0,h,_=>by
  obtain rfl:i=0:=by omega
  rfl
 | n+1,h,hd=>by
  by_cases e:i=n+1
  ·rw[e]
  ·rw[lz,hd n (by omega) (by omega),QC (n:=n) (by omega) fun j h1 h2=>hd j h1 (by omega)];simp
theorem Xk {N0 o:Nat} {rs rs':List Dl} {d:Nat→Bool} {x0:ai}:∀{n:Nat},(∀j,j<n→rs[j]?=rs'[j]?)→fD N0 rs d x0 o n=fD N0 rs' d x0 o n
 | 0,_=>rfl
 | n+1,h=>by
  rw[lz,lz,Xk (n:=n) fun j hj=>h j (by omega)];have:oL N0 rs n o=oL N0 rs' n o:=by unfold oL;rw[h n (by omega)]
  rw[this]
theorem Cb {N0 o:Nat} {rs:List Dl} {x0:ai}:∀{n:Nat},fD N0 rs (fun _=>false) x0 o n=x0
 | 0=>rfl
 | n+1=>by rw[lz,Cb (n:=n)];simp
def lJ (rs:List Dl):Rs:=rs.map fun r=>some (r.x,r.nw)
def jq (H0:List ai) (n:Nat) (rs:List Dl) (d:Nat→Bool):List ai:=(List.range (H0.length+n)).map fun o=>fD H0.length rs d (H0.getD o .dead) o n
def Dc (H0:List ai) (n:Nat) (rs:List Dl) (zm hid:Nat→Bool):List ai:=(List.range (H0.length+n)).map fun o=>if hid o then .dead else fD H0.length rs zm (H0.getD o .dead) o rs.length
def Lx (N0:Nat) (ms gs:List Nat) (i o:Nat):Bool:=(decide (N0≤o)&&!(selB ms i (o-N0)))||(List.range gs.length).any fun j=>j !=i&&!(selB ms i j)&&!(selB ms j i)&&(gs.getD j 0).testBit o
def gsB (N0 n:Nat) (ms gs:List Nat):Bool:=gs.length==n&&(List.range n).all fun i=>(List.range (N0+n)).all fun o=>!((gs.getD i 0).testBit o)||((decide (o<N0)||selB ms i (o-N0))&&(List.range i).all fun j=>selB ms i j||!((gs.getD j 0).testBit o))
def chB (gs:List Nat) (i k:Nat) (r:Dl):Bool:=r.ch.all fun p=>decide (p.1<k)&&(gs.getD i 0).testBit p.1
def skD:Dl:=⟨.tup [],none,[]⟩
def bD (b:Bool):Dl:=⟨.one (.val (.bool b)),none,[]⟩
def pU {P:Program} (C:ik P) (ops:Array Oper) (n:Nat) (ms gs:List Nat) (chk:Bool) (dP:Env) (H0:List ai):List Oper→List Dl→T (List Dl)
 | [],rs=>.lf rs
 | o::l,rs=>match SC ops rs.length o (lJ rs) with
  | some false=>pU C ops n ms gs chk dP H0 l (rs++[skD])
  | some true=>(dop C (H0.length+rs.length) (mC ops (Ux ops n ms rs.length) dP (selB ms rs.length) (lJ rs)) (Dc H0 n rs (selB ms rs.length) (Lx H0.length ms gs rs.length)) o).bind fun r=>
   if !chk||chB gs rs.length (H0.length+n) r then(match aeI ops rs.length,r with
    | true,⟨.one (.sym (.bool b)),none,[]⟩=>.br b (pU C ops n ms gs chk dP H0 l (rs++[bD true])) (pU C ops n ms gs chk dP H0 l (rs++[bD false]))
    | _,r=>pU C ops n ms gs chk dP H0 l (rs++[r])) else .bad
  | none=>.bad
def T.lvs {α:Type}:T α→List α
 | .lf a=>[a]
 | .br _ x y=>x.lvs++y.lvs
 | .nd _ t=>t.lvs
 | .bad=>[]
def aej (r:Dl):Nat:=r.ch.foldl (fun s p=>s||| 2^p.1) 0
def afT (n:Nat) (l:List (List Dl)):List Nat:=(List.range n).map fun i=>l.foldl (fun s rs=>s||| (match rs[i]? with
 | some r=>aej r
 | none=>0)) 0
def xV:List Nat→List Oper→Nat
 | _,[]=>0
 | rd,o::l=>if(match o.dst with|some t=>rd.contains t|none=>false) then 0 else xV (ad4 o++rd) l+1
def Vl {P:Program} (C:ik P) (m:Nat) (ops:Array Oper) (n:Nat) (st:eu):T eu:=
 if P.follows .mixedOrders&&nj (n+(ops.size-n)) ops&&xw ops n (n+(ops.size-n))&&AC ops n m then
  (fun(l:List Oper) (ms:List Nat)=>(fun(gs:List Nat)=>if gsB st.heap.length n ms gs then(pU C ops n ms gs true st.env st.heap l []).bind fun rs=>
   F5 C m ops (ops.toList.drop n) ⟨mC ops (tB ops n) st.env (fun _=>true) (lJ rs),jq st.heap n rs (fun _=>true)⟩ else .bad) (afT n (pU C ops n ms [] false st.env st.heap l []).lvs)) (ops.toList.take n) (xi (ops.toList.take n) [])
 else .bad
section
variable {P:Program} {ops:Array Oper} {Q:Exit→Act→World→Prop} {C:ik P} {n m:Nat} {cx:Cx} {ms gs:List Nat} {dP:Env} {H0:List ai}
def td (C:ik P) (ops:Array Oper) (n:Nat) (ms gs:List Nat) (dP:Env) (H0:List ai) (rs:List Dl) (i:Nat):Prop:=
 ∃o r,ops[i]?=some o∧rs[i]?=some r∧((SC ops i o (lJ (rs.take i))=some false∧r=skD)∨
  (SC ops i o (lJ (rs.take i))=some true∧∃r0,(dop C (H0.length+i) (mC ops (Ux ops n ms i) dP (selB ms i) (lJ (rs.take i))) (Dc H0 n (rs.take i) (selB ms i) (Lx H0.length ms gs i)) o).hit r0∧chB gs i (H0.length+n) r0=true∧(r=r0∨∃b,r0=⟨.one (.sym (.bool b)),none,[]⟩∧r=bD b)))
theorem td.more {rs:List Dl} {i:Nat} (h:td C ops n ms gs dP H0 rs i) (hi:i<rs.length) (x:Dl):td C ops n ms gs dP H0 (rs++[x]) i:=by
 unfold td at h ⊢;rw[acj (by omega),aaz hi];exact h
theorem Er:∀(l:List Oper) (rs rs':List Dl),(pU C ops n ms gs true dP H0 l rs).hit rs'→(∀(k:Nat) (o:Oper),l[k]?=some o→ops[rs.length+k]?=some o)→(∀i,i<rs.length→td C ops n ms gs dP H0 rs i)→rs'.length=rs.length+l.length∧∀i,i<rs'.length→td C ops n ms gs dP H0 rs' i
 | [],rs,rs',h,_,hs=>by have h:rs=rs':=h;subst h;exact⟨rfl,hs⟩
 | o::l,rs,rs',h,hl,hs=>by
  have ho:=hl 0 o rfl;rw[ac7] at ho;have next:∀(x:Dl),(pU C ops n ms gs true dP H0 l (rs++[x])).hit rs'→td C ops n ms gs dP H0 (rs++[x]) rs.length→rs'.length=rs.length+(o::l).length∧∀i,i<rs'.length→td C ops n ms gs dP H0 rs' i:=by
   intro x h hx;obtain⟨q1,q2⟩:=Er l (rs++[x]) rs' h (fun k o' hk=>by
    rw[aaD,aaO,abZ,aci,adn (0+1)];exact hl (k+1) o' (by simpa using hk)) fun i hi=>by
     rw[aaD,aaO,abZ] at hi;by_cases e:i=rs.length
     ·rw[e];exact hx
     ·exact(hs i (by omega)).more (by omega) x
   refine⟨?_,q2⟩;rw[q1,aaD,aaO,abZ,aaO];omega
  have tY:∀x,(rs++[x]).take rs.length=rs:=fun x=>by rw[acj (aaJ _),List.take_length]
  have gS:∀x,(rs++[x])[rs.length]?=some x:=fun x=>by rw[aam (aaJ _)];simp
  unfold pU at h;split at h
  ·rename_i hg;exact next _ h ⟨o,_,ho,gS _,.inl ⟨by rw[tY];exact hg,rfl⟩⟩
  ·rename_i hg;obtain⟨r0,h1,h2⟩:=T.hit_bind h;simp only[Bool.not_true,acH] at h2;split at h2
   ·rename_i hch;split at h2
    ·rename_i b ua;cases b with
     | true=>exact next _ (h2.1 rfl) ⟨o,_,ho,gS _,.inr ⟨by rw[tY];exact hg,_,by rw[tY];exact h1,hch,.inr ⟨true,rfl,rfl⟩⟩⟩
     | false=>exact next _ (h2.2 rfl) ⟨o,_,ho,gS _,.inr ⟨by rw[tY];exact hg,_,by rw[tY];exact h1,hch,.inr ⟨false,rfl,rfl⟩⟩⟩
    ·exact next _ h2 ⟨o,_,ho,gS _,.inr ⟨by rw[tY];exact hg,_,by rw[tY];exact h1,hch,.inl rfl⟩⟩
   ·exact h2.elim
  ·exact h.elim
theorem mw {rs:List Dl} {d:Nat→Bool}:(jq H0 n rs d).length=H0.length+n:=by simp[jq]
theorem my {rs:List Dl} {d:Nat→Bool} {o:Nat} (ho:o<H0.length+n):(jq H0 n rs d)[o]?=some (fD H0.length rs d (H0.getD o .dead) o n):=by
 unfold jq;rw[acz,acT ho];rfl
theorem NS {rs:List Dl} {j:Nat} {r:Dl} (h:rs[j]?=some r):(lJ rs)[j]?=some (some (r.x,r.nw)):=by
 unfold lJ;rw[acz,h];rfl
theorem KB {rs:List Dl} {i:Nat}:lJ (rs.take i)=(lJ rs).take i:=by unfold lJ;rw[List.map_take]
theorem lZ {rs:List Dl}:(lJ rs).length=rs.length:=by unfold lJ;rw[ace]
def DJ (m:Nat) (cx:Cx) (ops:Array Oper) (n:Nat) (dP:Env) (H0:List ai) (rs:List Dl) (d:Nat→Bool) (a:Act) (w:World):Prop:=
 ∃bs S,HS cx bs w S (jq H0 n rs d)∧(∀j,j<n→d j=false→bs[H0.length+j]?=some undef)∧ER m bs w S (mC ops (Lj ops n d) dP d (lJ rs)) a
theorem DJ.step {rs:List Dl} (bG:rs.length=n) (_:n≤ops.size) (fb:∀i,i<n→td C ops n ms gs dP H0 rs i) (hgs:gsB H0.length n ms gs=true) (BQ:Fl ops ms) (Sw:ms.length=n) (mz:AC ops n m=true) (uH:∀(i j:Nat),waits ops i j=true→j<i) {Q':Exit→Act→World→Prop} {d:Nat→Bool} {a:Act} {w:World} {i:Nat} (hi:i<n) (h:DJ m cx ops n dP H0 rs d a w) (pE:d i=false) (vm:∀j,n≤j→d j=false) (hc:∀k q,d k=true→waits ops k q=true→d q=true) (hw:∀q,waits ops i q=true→d q=true) : wpOp P ops Q' i (DJ m cx ops n dP H0 rs (ky d i)) a w:=by
 obtain⟨bs,S,hs,hu,he⟩:=h;obtain⟨o,r,ho,hr,Qk⟩:=fb i hi;have yD:bs.length=H0.length+n:=by rw[hs.len,mw]
 have xJ:∀t,dL ops i=some t→t<m:=fun t ht=>(m5 mz hi ht).1;have WX:o.dst=dL ops i:=by unfold dL;rw[ho];rfl
 have Ws:∀{j k:Nat},j<n→selB ms j k=true→(∀q,waits ops j q=true→d q=true)→k<j∧d k=true:=by
  intro j k hj hk Si;unfold selB at hk;rw[aaI,decide_eq_true_eq] at hk;refine⟨hk.1,?_⟩;have him:j<ms.length:=by rw[Sw];exact hj
  have xG:=hk.2;rw[aai,aae him] at xG;exact BQ j _ (aae him) k xG d hc Si
 have GC:∀j,selB ms i j=true→j<i∧d j=true:=fun j hj=>Ws hi hj hw;have Jq:∀j,d j=true→j<n:=fun j hj=>by
  rcases Nat.lt_or_ge j n with h|h
  ·exact h
  ·rw[vm j h] at hj;cases hj
 have Z6:∀j,d j=true→selB ms j i=false:=fun j hj=>by
  cases e:selB ms j i with
  | false=>rfl
  | true=>rw[(Ws (Jq j hj) e fun q=>hc j q hj).2] at pE;cases pE
 have aah:=hgs;unfold gsB at aah;rw[aaI,beq_iff_eq] at aah;obtain⟨hgl,hga⟩:=aah;have U3:∀{j o:Nat},j<n→o<H0.length+n→(gs.getD j 0).testBit o=true→(o<H0.length∨selB ms j (o-H0.length)=true)∧∀k,k<j→selB ms j k=true∨(gs.getD k 0).testBit o=false:=by
  intro j o hj ho hb;have:=aaR.1 (aaR.1 hga j (abX.2 hj)) o (abX.2 ho);rw[hb] at this;simp only[Bool.not_true,acH,aaI,acs,decide_eq_true_eq] at this;refine⟨this.1,fun k hk=>?_⟩;have:=aaR.1 this.2 k (abX.2 hk);simpa using this
 have hch:∀{j o:Nat} {q:Dl} {x:ai},j<n→rs[j]?=some q→fq q.ch o=some x→o<H0.length+n∧(gs.getD j 0).testBit o=true:=by
  intro j o q x hj hq hx;obtain⟨p,hp,rfl⟩:=zU hx;obtain⟨o',r',_,j4,Qm⟩:=fb j hj;rw[hq] at j4;obtain rfl:=aal j4;rcases Qm with⟨_,rfl⟩|⟨_,r0,_,LC,rfl|⟨b,rfl,rfl⟩⟩
  ·cases hp
  ·have:=aaR.1 LC p hp;simpa using this
  ·cases hp
 have Ei:∀{j o:Nat} {x:ai},j<n→oL H0.length rs j o=some x→o=H0.length+j∨(o<H0.length+n∧(gs.getD j 0).testBit o=true):=by
  intro j o x hj hx;unfold oL at hx;cases hq:rs[j]? with
  | none=>rw[hq] at hx;cases hx
  | some q=>
   rw[hq] at hx;simp only at hx;split at hx
   ·rename_i e;exact .inl e
   ·exact .inr (hch hj hq hx)
 have tZ:∀(v:Value) t,dL ops i≠some t→(a.put o.dst v).tmps[t]?=a.tmps[t]?:=by
  intro v t hx;rw[WX];cases e:dL ops i with
  | none=>rfl
  | some q=>
   have fG:q≠t:=fun e2=>hx (by rw[e,e2]);show(a.tmps.setIfInBounds q v)[t]?=_;rw[acP fG]
 have sj:∀v:Value,(a.put o.dst v).tmps.size=m∧(a.put o.dst v).defers=[]:=by
  intro v;cases o.dst with
  | none=>exact⟨he.s,he.d⟩
  | some q=>exact⟨by show(a.tmps.setIfInBounds q v).size=m;rw[Array.size_setIfInBounds];exact he.s,he.d⟩
 have xL:∀t x,(t,x)∈mC ops (Lj ops n (ky d i)) dP (ky d i) (lJ rs)→((t,x)∈mC ops (Lj ops n d) dP d (lJ rs)∧dL ops i≠some t)∨(dL ops i=some t∧r.x=x):=by
  intro t x hx;rcases jN hx with⟨j,q,hj,fV,ht,hq,hqx⟩|⟨h1,hn⟩
  ·by_cases e:j=i
   ·subst e;rw[NS hr] at hq;obtain rfl:=aal (aal hq);exact .inr ⟨ht,hqx⟩
   ·rw[bN d e] at fV;subst hqx;exact .inl ⟨jD hj fV ht hq,fun e2=>JB mz hi (by rw[lZ] at hj;omega) (fun e3=>e e3.symm) t e2 ht⟩
  ·obtain⟨k1,k2⟩:=Ja hi hn pE;exact .inl ⟨mB h1 k1,k2⟩
 have Ee:∀j,j<i→(lJ (rs.take i))[j]?=(lJ rs)[j]?:=fun j hj=>by rw[KB,acm,if_pos hj]
 have xH:∀{c:Bool},SC ops i o (lJ (rs.take i))=some c→Region.wanted o (yielded ops a.tmps)=c:=by
  intro c hg;unfold SC at hg;split at hg
  ·rename_i ua;injection hg with hg
   subst hg;simp[Region.wanted,ua]
  ·rename_i j want ua;split at hg
   ·rename_i Si;have P1:=uH i j Si;rw[Ee j P1] at hg;split at hg
    ·rename_i t b _ ht hr;injection hg with hg
     subst hg;obtain⟨v,hv,hx⟩:=he.k t _ (jD (by rw[lZ];omega) (hw j Si) ht hr);obtain⟨rfl,_⟩:=hx;exact oX ua ht hv
    ·rename_i t _ ht hr;injection hg with hg
     subst hg;obtain⟨v,hv,vs,e1,e2⟩:=he.k t _ (jD (by rw[lZ];omega) (hw j Si) ht hr);cases e2
     exact tp ua ht (by rw[hv,e1];rfl)
    ·cases hg
   ·cases hg
 have aff:(jq H0 n rs d)[H0.length+i]?=some .dead:=by
  rw[my (by omega)];have:fD H0.length rs d (H0.getD (H0.length+i) .dead) (H0.length+i) n=fD H0.length rs (fun _=>false) (H0.getD (H0.length+i) .dead) (H0.length+i) n:=by
   refine oI fun j hj=>?_;cases qL:d j with
   | false=>exact .inl rfl
   | true=>
    right
    cases hx:oL H0.length rs j (H0.length+i) with
    | none=>rfl
    | some x=>
     rcases Ei hj hx with e|⟨_,e⟩
     ·have:i=j:=by omega
      subst this;rw[pE] at qL;cases qL
     ·rcases(U3 hj (by omega) e).1 with q|q
      ·omega
      ·rw[abK,Z6 j qL] at q;cases q
  rw[this,Cb,aai,abN (by omega)];rfl
 have W6:∀q:Dl,q.ch=r.ch→q.nw=r.nw→jl (q.ch++[(H0.length+i,q.nw.getD .dead)]) (jq H0 n rs d)=jq H0 n rs (ky d i):=by
  intro q e1 e2;rw[e1,e2];refine acy fun k=>?_;by_cases hk:k<H0.length+n
  ·rw[lY (my hk),my hk,xv];congr 1
   have hci:oL H0.length rs i k=if H0.length+i=k then some (r.nw.getD .dead) else fq r.ch k:=by
    unfold oL;rw[hr];by_cases e:H0.length+i=k
    ·subst e;simp
    ·rw[if_neg e];simp only;rw[if_neg (acp e)]
   rw[←hci];refine(QB pE hi fun j hj1 xG qL=>?_).symm;cases hx:oL H0.length rs j k with
   | none=>exact .inl rfl
   | some x=>
    right
    cases hy:oL H0.length rs i k with
    | none=>rfl
    | some y=>
     exfalso
     have hns:=Z6 j qL;rcases Ei xG hx with e|⟨_,e⟩
     ·rcases Ei hi hy with e'|⟨_,e'⟩
      ·omega
      ·rcases(U3 hi hk e').1 with q|q
       ·omega
       ·rw[e,abK] at q;have:=(GC j q).1;omega
     ·rcases Ei hi hy with e'|⟨_,e'⟩
      ·rcases(U3 xG hk e).1 with q|q
       ·omega
       ·rw[e',abK,hns] at q;cases q
      ·rcases(U3 xG hk e).2 i hj1 with q|q
       ·rw[hns] at q;cases q
       ·rw[e'] at q;cases q
  ·rw[abN (by rw[gE,mw];omega),abN (by rw[mw];omega)]
 rcases Qk with⟨hg,rfl⟩|⟨hg,r0,akK,LC,UL⟩
 ·
  have Ed:=xH hg;unfold wpOp;rw[ho];simp only[Ed,abs,if_false];have hh:=W6 skD rfl rfl;have hh:(jq H0 n rs d).set (H0.length+i) .dead=jq H0 n rs (ky d i):=hh;rw[Db fun x hx=>by rw[aff] at hx;exact(aal hx).symm] at hh;refine⟨bs,S,hh▸hs,fun j hj qL=>hu j hj ?_,(sj undef).2,(sj undef).1,fun t x hx=>?_⟩
  ·by_cases e:j=i
   ·subst e;exact pE
   ·rw[bN d e] at qL;exact qL
  ·rcases xL t x hx with⟨hx,fG⟩|⟨ht,rfl⟩
   ·obtain⟨v,q1,q2⟩:=he.k t x hx;exact⟨v,(tZ undef t fG).trans q1,q2⟩
   ·refine⟨undef,?_,[],rfl,.nil⟩;rw[WX,ht];show(a.tmps.setIfInBounds t undef)[t]?=_;exact acc (by rw[he.s];exact xJ t ht)
 ·have Ed:=xH hg;have hrc:r0.ch=r.ch∧r0.nw=r.nw:=by
   rcases UL with rfl|⟨b,rfl,rfl⟩<;>exact⟨rfl,rfl⟩
  have ajR:yr (Dc H0 n (rs.take i) (selB ms i) (Lx H0.length ms gs i)) (jq H0 n rs d):=by
   refine⟨by rw[mw];simp[Dc],fun k x hx=>?_⟩;unfold Dc at hx;rw[acz] at hx;by_cases hk:k<H0.length+n
   ·rw[acT hk] at hx;have hx:(if Lx H0.length ms gs i k then ai.dead else fD H0.length (rs.take i) (selB ms i) (H0.getD k .dead) k (rs.take i).length)=x:=aal hx;cases hh:Lx H0.length ms gs i k with
    | true=>rw[hh] at hx;exact .inl (by simpa using hx.symm)
    | false=>
     right
     rw[hh] at hx;have hx:fD H0.length (rs.take i) (selB ms i) (H0.getD k .dead) k (rs.take i).length=x:=by simpa using hx
     rw[my hk,←hx];congr 1
     rw[acb,adz (by omega),Xk (rs:=rs.take i) (rs':=rs) (n:=i) fun j hj=>by rw[acm,if_pos hj]];rw[←QC (d:=selB ms i) (i:=i) (n:=n) (by omega) fun j h1 h2=>by
      cases e:selB ms i j with
      | false=>rfl
      | true=>have:=(GC j e).1;omega]
     refine oI fun j hj=>?_;cases qL:d j with
     | false=>
      left
      cases e:selB ms i j with
      | false=>rfl
      | true=>have:=(GC j e).2;rw[qL] at this;cases this
     | true=>
      cases e:selB ms i j with
      | true=>exact .inl rfl
      | false=>
       right
       have yC:j≠i:=fun e=>by subst e;rw[pE] at qL;cases qL
       unfold Lx at hh;rw[Bool.or_eq_false_iff] at hh;cases hx:oL H0.length rs j k with
       | none=>rfl
       | some y=>
        exfalso
        rcases Ei hj hx with e2|⟨_,e2⟩
        ·have h1:=hh.1;rw[e2,abK,e] at h1;simp at h1
        ·have:=List.any_eq_false.1 hh.2 j (abX.2 (by omega));rw[e,Z6 j qL,e2] at this;simp[yC] at this
   ·rw[abN (by simpa using hk)] at hx;cases hx
  have hem:ER m bs w S (mC ops (Ux ops n ms i) dP (selB ms i) (lJ (rs.take i))) a:=by
   refine⟨he.d,he.s,fun t x hx=>?_⟩;rcases jN hx with⟨j,q,hj,fV,ht,hq,rfl⟩|⟨h1,hn⟩
   ·obtain⟨q1,q2⟩:=GC j fV;rw[Ee j q1] at hq;exact he.k t _ (jD (by rw[lZ];omega) q2 ht hq)
   ·exact he.k t x (mB h1 (WR BQ Sw pE hc hn))
  refine vZ ho Ed (abf ajR hs hem aff (hu i hi pE) akK fun v w' bn S' fV hS bX xM hsame hx=>?_);rw[W6 r0 hrc.1 hrc.2] at fV;refine⟨bn,S',fV,fun j hj qL=>?_,(sj v).2,(sj v).1,fun t x hxe=>?_⟩
  ·by_cases e:j=i
   ·subst e;rw[gP] at qL;cases qL
   ·rw[bN d e] at qL;rw[hsame _ (by omega)];exact hu j hj qL
  ·rcases xL t x hxe with⟨hxe,fG⟩|⟨ht,rfl⟩
   ·obtain⟨z,q1,q2⟩:=he.k t x hxe;exact⟨z,(tZ v t fG).trans q1,q2.keep hS bX xM⟩
   ·refine⟨v,?_,?_⟩
    ·rw[WX,ht];show(a.tmps.setIfInBounds t v)[t]?=_;exact acc (by rw[he.s];exact xJ t ht)
    ·have ji:=hx (by rw[WX,ht];rfl);rcases UL with rfl|⟨b,rfl,rfl⟩
     ·exact ji
     ·exact ji
theorem QP {id:Nat} {st dK:eu} {a:Act} {w:World} {n:Nat} (h:(Vl C m ops n st).hit dK) (cA:fJ m cx st a w) (hQ:∀a' w',fJ m cx dK a' w'→Q .normal a' w'):(Code.region id ops true).wp P Q a w:=by
 unfold Vl at h;split at h
 ·rename_i hc;simp only[aaI] at hc;obtain⟨⟨⟨hm,hb⟩,kJ⟩,mz⟩:=hc;simp only at h;generalize afT n (pU C ops n (xi (ops.toList.take n) []) [] false st.env st.heap (ops.toList.take n) []).lvs=gs at h;split at h
  ·rename_i hgs;obtain⟨rs,h1,h2⟩:=T.hit_bind h;have jM:=fO hb;have GI:n≤ops.size:=by omega
   have Fv:(ops.toList.take n).length=n:=by rw[acb,abM];omega
   have gS:∀(k:Nat) (o:Oper),(ops.toList.take n)[k]?=some o→ops[k]?=some o:=fun k o hk=>by
    rw[acm] at hk;split at hk
    ·simpa using hk
    ·cases hk
   obtain⟨q1,q2⟩:=Er _ [] rs h1 (fun k o hk=>by rw[abZ,ab7];exact gS k o hk) fun i hi=>absurd hi (Nat.not_lt_zero _);rw[abZ,ab7,Fv] at q1;have BQ:Fl ops (xi (ops.toList.take n) []):=BA _ [] (fun i s hs=>by cases hs) fun k o hk=>by rw[abZ,ab7];exact gS k o hk
   have Sw:∀(l:List Oper) (ew:List Nat),(xi l ew).length=ew.length+l.length:=by
    intro l;induction l with
    | nil=>intro ew;rfl
    | cons o l ih=>intro ew;show(xi l _).length=_;rw[ih,aaD,aaO,abZ,aaO];omega
   have uH:∀(i j:Nat),waits ops i j=true→j<i:=by
    intro i j hw;unfold waits at hw;cases ho:ops[i]? with
    | none=>rw[ho] at hw;cases hw
    | some o=>
     rw[ho] at hw;simp only[acJ,abw,Array.any_eq_true',aaI,beq_iff_eq] at hw;obtain⟨e,he,hbi,rfl⟩:=hw;exact oP hb ho e he hbi
   refine nV n (ops.size-n) (DJ m cx ops n st.env st.heap rs) hm hb kJ ?_ (fun Q' d a w i hi hI pE vm hc hw=>DJ.step q1 GI (fun i hi=>q2 i (by omega)) hgs BQ (by rw[Sw,abZ,ab7,Fv]) mz uH hi hI pE vm hc hw) fun d a w hI eR=>?_
   ·obtain⟨bs,S,hs,he⟩:=cA;have hd:Below w.heap.size w w.drew:=(Below.refl _ _).drew;have hh0:jq st.heap n rs (fun _=>false)=st.heap++List.replicate n .dead:=by
     refine acy fun k=>?_;by_cases hk:k<st.heap.length+n
     ·rw[my hk,Cb];by_cases hZ:k<st.heap.length
      ·rw[aaz hZ,aai,aae hZ];rfl
      ·rw[aam (by omega),acW,if_pos (by omega),aai,abN (by omega)];rfl
     ·rw[abN (by rw[mw];omega),abN (by rw[aaD,ac6];omega)]
    refine⟨bs++List.replicate n undef,S,by rw[hh0];exact(hs.grow hd (fun _ h=>h) fun _ h=>.inl h).pads n,fun j hj _=>?_,he.d,he.s,fun t x hx=>?_⟩
    ·rw[←hs.len,aam (by omega),abK,acW,if_pos hj]
    ·rcases jN hx with⟨j,r,_,h,_⟩|⟨h1,_⟩
     ·cases h
     ·obtain⟨v,k1,k2⟩:=he.k t x h1;exact⟨v,k1,k2.keep (fun _ h=>h) (fun _ _=>rfl) fun o u hu _=>by rw[aaz (aag.1 hu).1];exact hu⟩
   ·obtain⟨bs,S,hs,_,he⟩:=hI;have nA:fJ m cx ⟨mC ops (tB ops n) st.env (fun _=>true) (lJ rs),jq st.heap n rs (fun _=>true)⟩ a w:=by
     refine⟨bs,S,?_,he.d,he.s,fun t x hx=>he.k t x ?_⟩
     ·have:jq st.heap n rs (fun _=>true)=jq st.heap n rs d:=by
       unfold jq;refine List.map_congr_left fun o _=>oI fun j hj=>.inl ?_;rw[eR j hj]
      show HS cx bs w S (jq st.heap n rs (fun _=>true));rw[this];exact hs
     ·rcases jN hx with⟨j,r,hj,_,ht,hr,rfl⟩|⟨k1,k2⟩
      ·rw[lZ] at hj;exact jD (by rw[lZ];exact hj) (eR j (by omega)) ht hr
      ·exact mB k1 (Jb k2)
    have:=vA (C:=C) (Q:=Q) (cx:=cx) (ops.toList.drop n) n rfl h2 nA hQ
    rwa [acv,abM] at this
  ·exact h.elim
 ·exact h.elim
end
def WE (l:List Oper):Bool:=l.any fun o=>match o.op with
 | .build _ ps=>ps.toList.any fun p=>match p.2 with
  | .tmp t=>l.any fun q=>match q.op with
   | .buildSlice _ _ _=>q.dst==some t
   | _=>false
  | _=>false
 | _=>false
def WC {P:Program} (C:ik P) (l:List Oper):Bool:=l.any fun o=>match o.op with
 | .call { callee:=.value (.func f),args:=args, .. }=>(C.D.find? fun s=>s.f==f).any Sm.al&&args.toList.any fun x=>match x with
  | .tmp t=>l.any fun q=>match q.op with
   | .buildSlice _ _ _=>q.dst==some t
   | .makeSlice _ _ _=>q.dst==some t
   | _=>false
  | _=>false
 | _=>false
def abJ {P:Program} (C:ik P) (m:Nat) (ops:Array Oper) (st:eu):T eu:=
 if !(WE ops.toList)&&!(WC C ops.toList)&&xw ops (EA C [] ops.toList) (EA C [] ops.toList+(ops.size-EA C [] ops.toList)) then Vk C m ops (EA C [] ops.toList) st
 else if !(WE ops.toList)&&!(WC C ops.toList)&&xw ops (xU C ops.toList) (xU C ops.toList+(ops.size-xU C ops.toList)) then Vk C m ops (xU C ops.toList) st
 else if xw ops (xV [] ops.toList) (xV [] ops.toList+(ops.size-xV [] ops.toList)) then Vl C m ops (xV [] ops.toList) st else Vl C m ops ops.size st
def Xv {P:Program} (C:ik P) (m:Nat) (fn:Func) (pb:List Nat) (vw:Bool) (hv:pb=[]∨vw=false):Rg P m where
 fn:=fn
 pb:=pb
 reg id ops dr st:=if dr then abJ C m ops st else F5 C m ops ops.toList st
 ok id ops dr cx st dK a w Q h hs hQ:=by
  cases dr with
  | true=>
   have h:(abJ C m ops st).hit dK:=h;unfold abJ at h;split at h
   ·exact QO h hs hQ
   ·split at h
    ·exact QO h hs hQ
    ·split at h
     ·exact QP h hs hQ
     ·exact QP h hs hQ
  | false=>exact KL h hs hQ
 res:=YC P C.ty fn vw
 resOk cx st a w r nT h hs:=To (hv.imp (fun e=>nT.trans e) id) h hs
theorem T.hit_map {α β:Type} {f:α→β} {t:T α} {r:β} (h:(t.bind fun x=>.lf (f x)).hit r):∃q,t.hit q∧f q=r:=T.hit_bind h
def Qw {P:Program} {m:Nat} (R:Rg P m) (tb:List (Nat×List Nat)):Rg P m:={ R with
 reg:=fun id ops dr st=>match tb.lookup id with
  | some l=>(R.reg id ops dr st).bind fun st=>.lf (l.foldl B7 st)
  | none=>R.reg id ops dr st
 ok:=fun id ops dr cx st dK a w Q h hs hQ=>by
  revert h
  split
  ·intro h;obtain⟨q,h1,h2⟩:=T.hit_map h;exact R.ok id ops dr cx st q a w Q h1 hs fun a' w' h'=>hQ a' w' (h2▸B8 h')
  ·intro h;exact R.ok id ops dr cx st dK a w Q h hs hQ }
structure Cr where
 f:eu→T eu
 ok:∀(m:Nat) (cx:Cx) (st dK:eu) (a:Act) (w:World),(f st).hit dK→fJ m cx st a w→fJ m cx dK a w
def rowAt (H:List ai) (q k:Nat):Option Nat:=match H[q]? with
 | some (.cells _ cs)=>match cs[k]? with
  | some (.own o)=>some o
  | _=>none
 | _=>none
section
variable {m:Nat} {cx:Cx} {st:eu} {a:Act} {w:World} {S:Nat→Prop}
theorem TA {α:Type} [aF α] {k B:Nat} {e:TypeId} {v:Value} {xs:List α} (hk:aF.sz α=k) (h:Own w S B e v xs):∃bS:List (ko k),Own w S B e v bS∧bS.length=xs.length∧∀(j:Nat) (r:ko k) (x:α),bS[j]?=some r→xs[j]?=some x→aF.rep w S r.cells x:=by
 subst hk;obtain⟨cs,h1,h2,h3⟩:=h;have:∀{cs:List Value} {xs:List α},Flat w S cs xs→∃bS:List (ko (aF.sz α)),Flat w S cs bS∧bS.length=xs.length∧∀(j:Nat) (r:ko (aF.sz α)) (x:α),bS[j]?=some r→xs[j]?=some x→aF.rep w S r.cells x:=by
  intro cs xs hf;induction hf with
  | nil=>exact⟨[],.nil,rfl,fun j r x h=>by cases h⟩
  | @snoc cs ds xs x hf hr ih=>
   obtain⟨bS,q1,q2,q3⟩:=ih;refine⟨bS++[⟨ds,aF.len hr⟩],.snoc q1 rfl,by simp[q2],fun j r y hj hy=>?_⟩;by_cases hjl:j<bS.length
   ·rw[aaz hjl] at hj;rw[aaz (by omega)] at hy;exact q3 j r y hj hy
   ·have xG:j=bS.length:=by have:=(aag.1 hj).1;simp at this;omega
    subst xG;rw[aam (aaJ _)] at hj;rw[q2,aam (aaJ _)] at hy;simp at hj hy;subst hj hy;exact hr
 obtain⟨bS,q1,q2,q3⟩:=this h2;exact⟨bS,⟨cs,by rw[q2];exact h1,q1,h3⟩,q2,q3⟩
theorem Tv {α:Type} [aF α] {B:Nat} {e:TypeId} {v:Value} {xs:List α} {bS:List (ko (aF.sz α))} (h:Own w S B e v bS) (hl:bS.length=xs.length) (hr:∀(j:Nat) (r:ko (aF.sz α)) (x:α),bS[j]?=some r→xs[j]?=some x→aF.rep w S r.cells x):Own w S B e v xs:=by
 obtain⟨cs,h1,h2,h3⟩:=h;have:∀{cs:List Value} {bS:List (ko (aF.sz α))},Flat w S cs bS→∀xs:List α,bS.length=xs.length→(∀(j:Nat) (r:ko (aF.sz α)) (x:α),bS[j]?=some r→xs[j]?=some x→aF.rep w S r.cells x)→Flat w S cs xs:=by
  intro cs bS hf;induction hf with
  | nil=>intro xs hl _;rw[aaS hl.symm];exact .nil
  | @snoc cs ds bS r hf hd ih=>
   intro xs hl hr;have fG:xs≠[]:=fun e=>by rw[e] at hl;simp at hl
   have PC:xs=xs.dropLast++[xs.getLast fG]:=(List.dropLast_concat_getLast fG).symm;have bG:bS.length=xs.dropLast.length:=by rw[List.length_dropLast];simp at hl;omega
   rw[PC];have hd:ds=r.cells:=hd;refine .snoc (ih _ bG fun j r' x hj hx=>hr j r' x (by rw[aaz (aag.1 hj).1];exact hj) (by rw[PC,aaz (aag.1 hx).1];exact hx)) ?_;rw[hd];exact hr bS.length r _ (by rw[aam (aaJ _)];simp) (by
    conv=>lhs;rw[PC]
    rw[bG,aam (aaJ _)];simp)
 exact⟨cs,by rw[←hl];exact h1,this h2 xs hl hr,h3⟩
theorem HS.alt {bs:List Value} {H:List ai} (h:HS cx bs w S H) {i:Nat} {x y:ai} {v:Value} (hx:H[i]?=some x) (hv:bs[i]?=some v) (lT:OR bs w S y v) (hb:∀c,Bk y v c→Bk x v c:=by intro c h;exact h):HS cx bs w S (H.set i y):=
 h.setB hx hv (row:=none) ⟨rfl,rfl,rfl,aaJ _,fun _ _ _=>rfl⟩ (fun _ e=>by cases e) lT hb
def FI (q k:Nat) (t tn:Ty) (st:eu):T eu:=match rowAt st.heap q k with
 | some o=>match st.heap[o]? with
  | some (.row Ni e rs)=>match Ty.eq? Ni tn with
   | some h=>if aF.sz (El tn)=aF.sz (El t) then .lf ⟨st.env,st.heap.set o (.zc e t tn rs.length [] (h.down▸rs.reverse))⟩ else .bad
   | none=>.bad
  | _=>.bad
 | none=>.bad
theorem J9 {q k:Nat} {t tn:Ty} {dK:eu} (h:(FI q k t tn st).hit dK) (cA:fJ m cx st a w):fJ m cx dK a w:=by
 unfold FI at h;split at h
 ·rename_i o _;split at h
  ·rename_i Ni e rs hH;split at h
   ·rename_i hq _;obtain⟨hq⟩:=hq;subst hq;split at h
    ·rename_i jM;obtain rfl:=h;obtain⟨bs,S,hs,he⟩:=cA;have yU:o<bs.length:=by rw[hs.len];exact(aag.1 hH).1
     have hv:=aae yU;obtain⟨bS,r1,r2,r3⟩:=TA jM (hs.o o _ _ hH hv);refine⟨bs,S,hs.alt hH hv ⟨bS,r1,by rw[r2,aaH],fun j r hj=>⟨fun x hx=>(by cases hx),fun _=>?_⟩⟩,he⟩;have hjl:j<rs.reverse.length:=by rw[←r2];exact(aag.1 hj).1
     have hx:=aae hjl;have hg:rs.reverse.getD (j-([]:List (El t)).length) (CG Ni)=rs.reverse[j]:=by
      rw[abZ,Nat.sub_zero,aai,hx];rfl
     show aF.rep w S r.cells (rs.reverse.getD (j-([]:List (El t)).length) (CG Ni));rw[hg];exact r3 j r _ hj hx
    ·exact h.elim
   ·exact h.elim
  ·exact h.elim
 ·exact h.elim
def aek (H:List ai) (q k:Nat):Option Nat:=match H[q]? with
 | some (.cells _ cs)=>match cs[k]? with
  | some (.mp o)=>some o
  | _=>none
 | _=>none
def MP (q k:Nat) (e:TypeId) (st:eu):T eu:=match aek st.heap q k with
 | some o=>match st.heap[o]? with
  | some (.mp kt (.list t) n f)=>.nd (∀k,f k=none) (.lf ⟨st.env,(st.heap.set o (.mq st.heap.length))++[.mr o kt t e n fun _=>none]⟩)
  | _=>.bad
 | none=>.bad
theorem MO {q k:Nat} {e:TypeId} {dK:eu} (h:(MP q k e st).hit dK) (cA:fJ m cx st a w):fJ m cx dK a w:=by
 unfold MP at h;split at h
 ·rename_i o _;split at h
  ·rename_i kt t n f hH;obtain⟨hf,h⟩:=h;obtain rfl:=h;obtain⟨bs,S,hs,he⟩:=cA;have yU:o<st.heap.length:=(aag.1 hH).1;obtain⟨v,hv⟩:∃v,bs[o]?=some v:=⟨_,aae (by rw[hs.len];exact yU)⟩;obtain⟨b,g,e1,hg,hfg⟩:=hs.o o _ _ hH hv;have hB:Bk (.mp kt (.list t) n f) v b:=by rw[e1];rfl
   have hgn:∀k,g k=none:=fun k=>by have:=hfg k;rw[hf k] at this;exact this
   have s1:=hs.alt hH hv (y:=.mq st.heap.length) ⟨b,e1⟩ (fun _ h=>by cases h);have PN:=s1.pad;have hl1:(st.heap.set o (.mq st.heap.length)).length=st.heap.length:=abY;have hj:((st.heap.set o (.mq st.heap.length))++[ai.dead])[st.heap.length]?=some .dead:=by rw[aam (by rw[hl1];exact aaJ _),hl1];simp
   have xG:(bs++[undef])[st.heap.length]?=some undef:=by rw[←hs.len,aam (aaJ _)];simp
   have j5:=PN.fill (x:=.mr o kt t e n fun _=>none) (v:=uk b []) hj xG rfl
    ⟨b,[],g,rfl,by rw[aaK (by omega),aaz (by rw[hs.len];exact yU),hv,e1],hg,fun k u=>by rw[hgn k];simp,fun k _=>hgn k,(fun k k' u u' c q=>by rw[hgn k] at q;cases q),fun k u q=>by rw[hgn k] at q;cases q⟩
    (fun c hc=>by
     obtain⟨b',l',e2,hc⟩:=hc;obtain⟨rfl,rfl⟩:=mJ e2;rcases hc with rfl|⟨_,_,_,hu,_⟩
     ·refine⟨(hs.nw _ _ _ _ hH hv hB).1,(hs.nw _ _ _ _ hH hv hB).2,fun i y u hy hu hc1=>?_⟩;by_cases hi:i<st.heap.length
      ·rw[aaz (by rw[hl1];exact hi)] at hy;rw[aaz (by rw[hs.len];exact hi)] at hu;by_cases hio:i=o
       ·subst hio;rw[aaQ yU] at hy;obtain rfl:=aal hy;cases hc1
       ·rw[aaK (acp hio)] at hy;exact hs.ap i o _ _ _ _ _ hio hy hu hH hv hc1 hB
      ·have hlt:=(aag.1 hy).1;rw[aaD,hl1] at hlt;obtain rfl:i=st.heap.length:=by simp at hlt;omega
       rw[hj] at hy;obtain rfl:=aal hy;cases hc1
     ·cases hu)
   have e3:((st.heap.set o (.mq st.heap.length))++[ai.dead]).set st.heap.length (.mr o kt t e n fun _=>none)=(st.heap.set o (.mq st.heap.length))++[.mr o kt t e n fun _=>none]:=by
    rw[acq _ _ (by rw[hl1];exact aaJ _),hl1];simp
   rw[e3] at j5;refine⟨_,S,j5,he.keep (fun _ h=>h) (aA.refl _ _) fun i u hu ti=>?_⟩;have hi:=(aag.1 hu).1;rw[hs.len] at hi;rw[aaK (by omega),aaz (by rw[hs.len];exact hi)];exact hu
  ·exact h.elim
 ·exact h.elim
def MR (q k:Nat) (st:eu):T eu:=match rowAt st.heap q k with
 | some o=>match st.heap[o]? with
  | some (.zc e t tn im done rest)=>.nd (done.length<im) (.lf ⟨st.env,(st.heap++[ai.dead]).set o (.zip st.heap.length e t tn im done (kS tn (rest.getD 0 (CG tn))) (rest.drop 1))⟩)
  | _=>.bad
 | none=>.bad
theorem MQ {q k:Nat} {dK:eu} (h:(MR q k st).hit dK) (cA:fJ m cx st a w):fJ m cx dK a w:=by
 unfold MR at h;split at h
 ·rename_i o _;split at h
  ·rename_i e t tn im done rest hH;obtain⟨hlt,h⟩:=h;obtain rfl:=h;obtain⟨bs,S,hs,he⟩:=cA;have yU:o<bs.length:=by rw[hs.len];exact(aag.1 hH).1
   have hv:=aae yU;obtain⟨bS,ho,hz⟩:=hs.o o _ _ hH hv;obtain⟨g,n,c,hvs⟩:∃g n c,bs[o]=.slice (some ⟨g,0,none⟩) n c:=by
    obtain⟨cs,⟨_,h2⟩,_⟩:=ho;rcases h2 with⟨_,hn⟩|⟨g,cap,cur,lv,_⟩
    ·rw[hz.1] at hn;omega
    ·exact⟨g,_,_,lv⟩
   have PN:=hs.pad;have hj:(st.heap++[ai.dead])[st.heap.length]?=some .dead:=by rw[aam (aaJ _)];simp
   have xG:(bs++[undef])[st.heap.length]?=some undef:=by rw[←hs.len,aam (aaJ _)];simp
   have j5:=PN.fill (x:=.dead) (v:=.pointer (some ⟨g,done.length*aF.sz (El t),none⟩)) hj xG rfl trivial (fun b hb=>by cases hb);rw[NM hj] at j5;have Ae:(bs++[undef]).set st.heap.length (.pointer (some ⟨g,done.length*aF.sz (El t),none⟩))=bs++[.pointer (some ⟨g,done.length*aF.sz (El t),none⟩)]:=by
    rw[←hs.len,acq _ _ (aaJ _)];simp
   rw[Ae] at j5;have hH2:(st.heap++[ai.dead])[o]?=some (.zc e t tn im done rest):=by rw[aaz (aag.1 hH).1];exact hH
   have lv:(bs++[.pointer (some ⟨g,done.length*aF.sz (El t),none⟩)])[o]?=some bs[o]:=by rw[aaz yU];exact hv
   have hd:∀k,(rest.drop 1).getD k (CG tn)=rest.getD (k+1) (CG tn):=fun k=>by
    rw[aai,aai,acl,adn]
   refine⟨_,S,j5.alt (y:=.zip st.heap.length e t tn im done (kS tn (rest.getD 0 (CG tn))) (rest.drop 1)) hH2 lv ⟨bS,ho,⟨hz.1,fun j r hr=>?_⟩,hlt,.pointer (some ⟨g,done.length*aF.sz (El t),none⟩),by rw[←hs.len,aam (aaJ _)];simp,rfl,fun g' n' c' e=>by rw[hvs] at e;injection e with e;injection e with e;injection e with e;rw[e]⟩,he.keep (fun _ h=>h) (aA.refl _ _) (oQ _ _)⟩;obtain⟨z1,z2⟩:=hz.2 j r hr;refine⟨z1,fun e=>?_,fun jX=>?_⟩
   ·have:=z2 (by omega);rw[show j-done.length=0 by omega] at this;exact ki this
   ·rw[hd,show j-done.length-1+1=j-done.length by omega];exact z2 (by omega)
  ·exact h.elim
 ·exact h.elim
def YP (cs:List AV):List Nat:=cs.filterMap fun
 | .own o=>some o
 | _=>none
def Ib (q k:Nat) (st:eu):T eu:=match rowAt st.heap q k with
 | some o=>match st.heap[o]? with
  | some (.zip _ e t tn im done cur rest)=>(T.op (un t cur)).bind fun y=>.lf ⟨st.env,st.heap.set o (.zc e t tn im (done++[y]) rest)⟩
  | _=>.bad
 | none=>.bad
def SJ (q k:Nat) (st:eu):eu:=match rowAt st.heap q k with
 | some o=>match st.heap[o]? with
  | some (.zip _ _ _ _ _ _ cur _)=>(YP cur).foldl (fun st i=>Va i st) st
  | _=>st
 | none=>st
def FH (q k:Nat) (st:eu):T eu:=Ib q k (SJ q k st)
theorem J8 {q k:Nat} {dK:eu} (h:(FH q k st).hit dK) (cA:fJ m cx st a w):fJ m cx dK a w:=by
 have hf:fJ m cx (SJ q k st) a w:=by
  unfold SJ;split
  ·split
   ·rename_i cur _ _;have:∀(l:List Nat) (st:eu),fJ m cx st a w→fJ m cx (l.foldl (fun st i=>Va i st) st) a w:=by
     intro l;induction l with
     | nil=>intro st h;exact h
     | cons i l ih=>intro st h;exact ih _ (xP h)
    exact this _ _ cA
   ·exact cA
  ·exact cA
 unfold FH at h;generalize SJ q k st=st1 at h hf;unfold Ib at h;split at h
 ·rename_i o _;split at h
  ·rename_i o2 e t tn im done cur rest hH;obtain⟨y,h1,h2⟩:=T.hit_bind h;obtain rfl:=h2;have hy:=T.hit_op h1;obtain⟨bs,S,hs,he⟩:=hf;have yU:o<bs.length:=by rw[hs.len];exact(aag.1 hH).1
   have hv:=aae yU;obtain⟨bS,ho,hz,_⟩:=hs.o o _ _ hH hv;refine⟨bs,S,hs.alt hH hv ⟨bS,ho,hz.1,fun j r hr=>?_⟩,he⟩;obtain⟨z1,z2,z3⟩:=hz.2 j r hr;refine⟨fun x hx=>?_,fun hl=>?_⟩
   ·by_cases hj:j<done.length
    ·rw[aaz hj] at hx;exact z1 x hx
    ·have xG:j=done.length:=by have:=(aag.1 hx).1;simp at this;omega
     subst xG;rw[aam (aaJ _)] at hx;simp at hx;subst hx;exact kz hy (z2 rfl)
   ·rw[aaD,abE] at hl ⊢;rw[show j-(done.length+1)=j-done.length-1 by omega];exact z3 (by omega)
  ·exact h.elim
 ·exact h.elim
def XJ (q k:Nat) (st:eu):T eu:=match rowAt st.heap q k with
 | some o=>match st.heap[o]? with
  | some (.zc e t _ im done _)=>.nd (im=done.length) (.lf ⟨st.env,st.heap.set o (.row t e done.reverse)⟩)
  | _=>.bad
 | none=>.bad
theorem SK {q k:Nat} {dK:eu} (h:(XJ q k st).hit dK) (cA:fJ m cx st a w):fJ m cx dK a w:=by
 unfold XJ at h;split at h
 ·rename_i o _;split at h
  ·rename_i e t tn im done rest hH;obtain⟨hlt,h⟩:=h;obtain rfl:=h;obtain⟨bs,S,hs,he⟩:=cA;have yU:o<bs.length:=by rw[hs.len];exact(aag.1 hH).1
   have hv:=aae yU;obtain⟨bS,ho,hz⟩:=hs.o o _ _ hH hv;refine⟨bs,S,hs.alt hH hv ?_,he⟩;show Own (α:=El t) w S 0 e _ done.reverse.reverse;rw[aap];exact Tv ho (hz.1.trans hlt) fun j r x hr hx=>(hz.2 j r hr).1 x hx
  ·exact h.elim
 ·exact h.elim
end
def afQ (q k:Nat) (e:TypeId):Cr:=⟨MP q k e,fun _ _ _ _ _ _=>MO⟩
def Qs (q k:Nat) (t tn:Ty):Cr:=⟨FI q k t tn,fun _ _ _ _ _ _=>J9⟩
def Xh (q k:Nat):Cr:=⟨MR q k,fun _ _ _ _ _ _=>MQ⟩
def oG (q k:Nat):Cr:=⟨FH q k,fun _ _ _ _ _ _=>J8⟩
def afS (q k:Nat):Cr:=⟨XJ q k,fun _ _ _ _ _ _=>SK⟩
def hkT (l:List (Nat×Cr)) (id:Nat) (st:eu):T eu:=match l.lookup id with
 | some h=>h.f st
 | none=>.lf st
theorem PZ {m:Nat} {cx:Cx} {l:List (Nat×Cr)} {id:Nat} {st dK:eu} {a:Act} {w:World} (h:(hkT l id st).hit dK) (cA:fJ m cx st a w):fJ m cx dK a w:=by
 unfold hkT at h;split at h
 ·exact Cr.ok _ m cx st dK a w h cA
 ·obtain rfl:=h;exact cA
def BP {P:Program} {m:Nat} (R:Rg P m) (pre post:List (Nat×Cr)):Rg P m:={ R with
 reg:=fun id ops dr st=>(hkT pre id st).bind fun st=>(R.reg id ops dr st).bind fun st=>hkT post id st
 ok:=fun id ops dr cx st dK a w Q h hs hQ=>by
  obtain⟨s1,h1,h2⟩:=T.hit_bind h;obtain⟨s2,h3,h4⟩:=T.hit_bind h2;exact R.ok id ops dr cx s1 s2 a w Q h3 (PZ h1 hs) fun a' w' h'=>hQ a' w' (PZ h4 h') }
end Go.Proofs.YtdbpbfglhbiadaaGreatDoor
