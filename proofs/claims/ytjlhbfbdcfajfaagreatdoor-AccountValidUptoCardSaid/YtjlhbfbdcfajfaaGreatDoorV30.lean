/- MDrd MFrz MHook -/
import Derived.Test.YtjlhbfbdcfajfaaGreatDoorV00
import Derived.Test.YtjlhbfbdcfajfaaGreatDoorV29
set_option maxHeartbeats 8000000
set_option maxRecDepth 100000
namespace Go.Proofs.YtjlhbfbdcfajfaaGreatDoor
open Go Go.RowKit
structure Dl where
 x:XV
 nw:Option ai
 ch:List (Nat×ai)
def fe:List (Nat×ai)→Nat→Option ai
 | [],_=>none
 | p::l,o=>match fe l o with
  | some y=>some y
  | none=>if p.1=o then some p.2 else none
def og (N0:Nat) (rs:List Dl) (j o:Nat):Option ai:=match rs[j]? with
 | some r=>if o=N0+j then some (r.nw.getD .dead) else fe r.ch o
 | none=>none
def fD (N0:Nat) (rs:List Dl) (d:Nat→Bool) (x0:ai) (o:Nat) (n:Nat):ai:=(List.range n).foldl (fun x j=>if d j then(og N0 rs j o).getD x else x) x0
section
variable {N0 o:Nat} {rs:List Dl} {d d':Nat→Bool} {x0:ai}
theorem kY {n:Nat}:fD N0 rs d x0 o (n+1)=if d n then(og N0 rs n o).getD (fD N0 rs d x0 o n) else fD N0 rs d x0 o n:=by
 unfold fD;rw[List.range_succ,List.foldl_append];rfl
theorem od:∀{n:Nat},(∀j,j<n→d j=d' j∨og N0 rs j o=none)→fD N0 rs d x0 o n=fD N0 rs d' x0 o n
 | 0,_=>rfl
 | n+1,h=>by
  rw[kY,kY,od (n:=n) fun j hj=>h j (by omega)];rcases h n (by omega) with e|e
  ·rw[e]
  ·rw[e];simp
theorem OF {i:Nat} (hd:d i=false):∀{n:Nat},i<n→(∀j,i<j→j<n→d j=true→og N0 rs j o=none∨og N0 rs i o=none)→fD N0 rs (kd d i) x0 o n=(og N0 rs i o).getD (fD N0 rs d x0 o n)
 | n+1,hi,h=>by
  rw[kY,kY];by_cases e:i=n
  ·subst e;rw[gE,if_pos rfl,hd,od (d':=d) fun j hj=>.inl (bK d (by omega))];simp
  ·rw[bK d (acJ e),OF hd (n:=n) (by omega) fun j h1 h2 h3=>h j h1 (by omega) h3];cases hn:d n with
   | false=>simp
   | true=>
    rcases h n (by omega) (by omega) hn with q|q
    ·rw[q];simp
    ·rw[q];simp
end
theorem LP {P:Program} {Hv Hf:List ai} {t:TypeId} {x y:Option XV} {p:Nat×ai} (hv:xa Hv Hf) (h:zt P Hv t x y=some p):zt P Hf t x y=some p:=by
 unfold zt at h ⊢;split at h
 ·split at h
  ·rename_i hH;rcases hv.2 _ _ hH with e|e
   ·cases e
   ·simp only[*]
  ·cases h
 ·split at h
  ·rename_i hH;rcases hv.2 _ _ hH with e|e
   ·cases e
   ·simp only[*]
  ·cases h
 ·split at h
  ·rename_i hH;rcases hv.2 _ _ hH with e|e
   ·cases e
   ·simp only[*]
  ·cases h
 ·cases h
def Zt (H:List ai) (x:Option XV):List (Nat×ai):=match x with
 | some (.one (.own ob))=>[(ob,.dead)]
 | some (.one (.mrow q kt k))=>match H[q]? with
  | some (.mr p kT t e' n f)=>match Kt.eq? kt kT with
   | some h=>[(q,.mx p kT t e' n f (h.down▸k))]
   | none=>[]
  | _=>[]
 | _=>[]
theorem TL {ty:TypeId→Option Ty} {Hv Hf H':List ai} {e:TypeId} {x:Option XV} {q:(y:Ty)×List (El y)} (hv:xa Hv Hf) (h:Zs ty Hv e x=some (H',q)):Zs ty Hf e x=some (jb (Zt Hv x) Hf,q):=by
 unfold Zs at h ⊢;split at h
 ·split at h
  ·rename_i ob _ y e' rs hH;rcases hv.2 _ _ hH with e2|e2
   ·cases e2
   ·split at h
    ·rename_i he;injection h with h
     injection h with h1 h2
     subst h2;simp only[e2,he,if_true];rfl
    ·cases h
  ·cases h
 ·cases hte:ty e with
  | none=>rw[hte] at h;cases h
  | some y=>
   rw[hte] at h;injection h with h
   injection h with h1 h2
   subst h2;rfl
 ·rename_i q kt k;split at h
  ·rename_i p kT t e' n f hH;rcases hv.2 _ _ hH with e2|e2
   ·cases e2
   ·split at h
    ·rename_i hk gR;split at h
     ·rename_i he;injection h with h
      injection h with h1 h2
      subst h2;subst he;simp only[e2,gR,if_true];simp only[Zt,hH,gR];rfl
     ·cases h
    ·cases h
  ·cases h
 ·cases h
theorem TK {Hv Hf:List ai} {y:Ty} {x:Option XV} {ys:List (El y)} (hv:xa Hv Hf) (h:Zr Hv y x=some ys):Zr Hf y x=some ys:=by
 unfold Zr at h ⊢;split at h
 ·split at h
  ·rename_i hH;rcases hv.2 _ _ hH with e2|e2
   ·cases e2
   ·simp only[e2];exact h
  ·cases h
 ·exact h
 ·cases h
theorem Py {P:Program} {ty:TypeId→Option Ty} {Hv Hf:List ai} {t:TypeId} {s x:Option XV} {r:List ai×(y:Ty)×TypeId×List (El y)} (hv:xa Hv Hf) (h:(FV P ty Hv t s x).hit r):(FV P ty Hf t s x).hit (jb (Zt Hv s) Hf,r.2):=by
 unfold FV at h ⊢;cases fJ:slI P t with
 | none=>rw[fJ] at h;exact h.elim
 | some q=>
  obtain⟨e,sz,bytes⟩:=q;rw[fJ] at h;simp only at h ⊢;cases hs:Zs ty Hv e s with
  | none=>rw[hs] at h;exact h.elim
  | some q=>
   obtain⟨H',y,rs⟩:=q;rw[hs] at h;rw[TL hv hs];simp only at h ⊢;cases hy:Zr Hv y x with
   | none=>rw[hy] at h;exact h.elim
   | some ys=>
    rw[hy] at h;rw[TK hv hy];simp only at h ⊢;split at h
    ·rename_i jB;rw[if_pos jB];obtain⟨h1,h2⟩:=h;exact⟨h1,by obtain rfl:=h2;rfl⟩
    ·exact h.elim
def Uo (cs:List AV):List Nat:=cs.filterMap mS
def Lr (H:List ai):XV→XV
 | .one a=>.one (Bm H a)
 | .agg cs=>.agg (cs.map (Bm H))
 | x=>x
def ya (xs:List XV):List Nat:=xs.flatMap fun
 | .one a=>Uo [a]
 | .agg cs=>Uo cs
 | .tup _=>[]
def dop {P:Program} (C:iZ P) (cR:Nat) (env:Env) (H:List ai) (o:Oper):T Dl:=match o.op with
 | .store t x y=>match o.dst with
  | none=>T.op ((zt P H t (ev env x) (ev env y)).map fun p=>⟨.tup [],none,[p]⟩)
  | some _=>.bad
 | .call { callee:=.builtin .append,args:=args,argTypes:=ts }=>match args.toList,ts.toList with
  | [s,x],[t,t']=>if t=t' then(FV P C.ty H t (ev env s) (ev env x)).bind fun r=>.lf ⟨.one (.own cR),some (.row r.2.1 r.2.2.1 r.2.2.2),Zt H (ev env s)⟩ else .bad
  | _,_=>.bad
 | .mapUpdate t x k v=>match o.dst with
  | none=>(Wl P C.ty cR H t (ev env x) (ev env k) (ev env v)).bind fun r=>.lf ⟨.tup [],r.2,r.1⟩
  | some _=>.bad
 | .buildSlice t n ps=>match lq env ps.toList with
  | some l=>(T.op (Jd P C.ty cR t n (some (Uk H l)))).bind fun r=>.lf ⟨r.1,r.2,lN (vf l)⟩
  | none=>.bad
 | .call { callee:=.value (.func f),args:=args,argTypes:=_ }=>if C.eff o then(C.d o env H).bind fun r=>.lf ⟨r.1,none,r.2⟩ else(match mZ env args.toList with
  | some xs=>if xs.any Q6&&(C.D.find? fun s=>s.f==f).any Sm.al then(Y0 C.ty C.D (H.map fun _=>ai.dead) f (some (xs.map (Lr H)))).bind fun x=>.lf ⟨x,none,lN (ya xs)⟩ else(U5 C.ty C.D cR env H o).bind fun r=>.lf ⟨r.1,r.2,[]⟩
  | none=>.bad)
 | _=>if C.eff o then(C.d o env H).bind fun r=>.lf ⟨r.1,none,r.2⟩ else(U5 C.ty C.D cR env H o).bind fun r=>.lf ⟨r.1,r.2,[]⟩
theorem L5 {α:Type} {l:List α} {i:Nat} {x:α} (h:l[i]?=some x):l.set i x=l:=by
 refine acW fun j=>?_;by_cases e:i=j
 ·subst e;rw[abc (aab.1 h).1,h]
 ·rw[aaY e]
theorem xa.hide {Hv Hf:List ai} (hv:xa Hv Hf) {cx:Cx} {bs:List Value} {w:World} {S:Nat→Prop} (hs:HS cx bs w S Hf):HS cx bs w S Hv:=hs.mask hv.1 hv.2
theorem il:∀{l l':List (Nat×ai)} {H:List ai},jb (l++l') H=jb l' (jb l H)
 | [],_,_=>rfl
 | _::l,_,_=>il (l:=l)
theorem gm:∀{l:List (Nat×ai)} {H:List ai},(jb l H).length=H.length
 | [],_=>rfl
 | p::l,H=>by show(jb l (H.set p.1 p.2)).length=_;rw[gm,abN]
theorem lD:∀{l:List (Nat×ai)} {H:List ai} {o:Nat} {y:ai},H[o]?=some y→(jb l H)[o]?=some ((fe l o).getD y)
 | [],_,_,_,h=>h
 | p::l,H,o,y,h=>by
  show(jb l (H.set p.1 p.2))[o]?=_;by_cases e:p.1=o
  ·subst e;rw[lD (l:=l) (abc (aab.1 h).1)];show _=some (Option.getD (match fe l p.1 with|some y=>some y|none=>if p.1=p.1 then some p.2 else none) y);cases fe l p.1<;>simp
  ·rw[lD (l:=l) (by rw[aaY e];exact h)];show _=some (Option.getD (match fe l o with|some y=>some y|none=>if p.1=o then some p.2 else none) y);cases fe l o<;>simp[e]
theorem vV {k:Nat} {x:ai}:∀{l:List (Nat×ai)} {o:Nat},fe (l++[(k,x)]) o=if k=o then some x else fe l o
 | [],o=>by show(match (none:Option ai) with|some y=>some y|none=>if k=o then some x else none)=_;rfl
 | p::l,o=>by
  show(match fe (l++[(k,x)]) o with|some y=>some y|none=>if p.1=o then some p.2 else none)=if k=o then some x else(match fe l o with|some y=>some y|none=>if p.1=o then some p.2 else none)
  rw[vV (l:=l)];by_cases e:k=o
  ·rw[if_pos e,if_pos e]
  ·rw[if_neg e,if_neg e]
theorem yu {x:ai}:∀{l:List (Nat×ai)} {o:Nat},fe l o=some x→∃p∈l,p.1=o
 | p::l,o,h=>by
  have h:(match fe l o with|some y=>some y|none=>if p.1=o then some p.2 else none)=some x:=h;cases e:fe l o with
  | some y=>obtain⟨q,h1,h2⟩:=yu e;exact⟨q,aa9 _ h1,h2⟩
  | none=>
   rw[e] at h;simp only at h;split at h
   ·rename_i h1;exact⟨p,aaS,h1⟩
   ·cases h
theorem Bw {H:List ai} {i:Nat} (h:∀x,H[i]?=some x→x=.dead):H.set i .dead=H:=by
 refine acW fun j=>?_;by_cases e:i=j
 ·subst e;cases hx:H[i]? with
  | none=>rw[abL (by rw[abN];exact List.getElem?_eq_none_iff.1 hx)]
  | some x=>rw[abc (aab.1 hx).1,h x hx]
 ·rw[aaY e]
theorem SU {P:Program} {o:Oper} {cx:Cx} {bs:List Value} {w:World} {S:Nat→Prop} {Hf:List ai} {cR:Nat} {a:Act} {q:XV×Option ai} {K:Act→World→Prop} {Q:Exit→Act→World→Prop} (hs:HS cx bs w S Hf) (hn:Hf[cR]?=some .dead) (hb:bs[cR]?=some undef) (h:jM P o bs w S a cR q) (hK:∀v w' bm S',HS cx bm w' S' (Hf.set cR (q.2.getD .dead))→(∀b,S b→S' b)→aA S w w'→jq bs bm→(∀j,j≠cR→bm[j]?=bs[j]?)→(o.dst.isSome=true→XR bm w' S' q.1 v)→K (a.put o.dst v) w'):o.wp P a w K Q:=by
 refine h _ _ fun v w' S' u xl hS uz hx hf=>?_;have fK:=hs.grow xl hS uz;have bS:aA S w w':=(aA.of_below xl).sub fun b q=>(hs.s b q).1;cases hq:q.2 with
 | none=>
  refine hK v w' bs S' ?_ hS bS (jq.refl _) (fun _ _=>rfl) fun _=>(hx bs (jq.refl _) (by rw[hq];intro h;cases h)).1;rw[hq];show HS cx bs w' S' (Hf.set cR .dead);rw[Bw fun x hx=>by rw[hn] at hx;exact(aae hx).symm];exact fK
 | some x=>
  have ww:jq bs (bs.set cR u):=fun i z hz iE=>by
   rw[aaY (fun e=>by subst e;rw[hb] at hz;obtain rfl:=aae hz;cases iE)];exact hz
  obtain⟨Sc,Bb⟩:=hx (bs.set cR u) ww (fun _=>abc (aab.1 hb).1);refine hK v w' (bs.set cR u) S' ?_ hS bS ww (fun j hj=>aaY (acJ hj)) fun _=>Sc;rw[hq];refine fK.fill hn hb rfl (Bb x hq) fun b gl=>⟨.inl (aa7 hs.size (hf x hq b gl).1),(hf x hq b gl).2,fun i z p hz hp e=>?_⟩;have:=(hs.o i z p hz hp).lt e;have:=(hf x hq b gl).1;omega
theorem pJ {o:Nat}:∀os:List Nat,fe (lN os) o=none∨fe (lN os) o=some .dead
 | []=>.inl rfl
 | i::os=>by
  show(match fe (lN os) o with|some y=>some y|none=>if i=o then some ai.dead else none)=none∨_=some ai.dead;rcases pJ (o:=o) os with e|e
  ·by_cases h:i=o
   ·exact .inr (by show(match fe (lN os) o with|some y=>some y|none=>if i=o then some ai.dead else none)=_;rw[e];simp[h])
   ·exact .inl (by rw[e];simp[h])
  ·exact .inr (by show(match fe (lN os) o with|some y=>some y|none=>if i=o then some ai.dead else none)=_;rw[e])
theorem uL {bs:List Value} {w:World} {S S':Nat→Prop} {Hv Hf:List ai} {os:List Nat} (hv:xa Hv Hf) (hS:∀b,S b→S' b) (hk:∀o∈os,∀(y:ai) (x:AV) (v:Value),Hf[o]?=some y→kb y=some x→bs[o]?=some v→VR bs w S' x v) {x:AV} {v:Value} (hx:∀o,mS x=some o→o∈os) (h:VR bs w S x v):VR bs w S' (Bm Hv x) v:=by
 have up:VR bs w S' x v:=h.keep hS (aA.refl _ _) (jq.refl _);unfold Bm;split
 ·rename_i o ho;cases e:Hv[o]? with
  | none=>exact up
  | some y=>
   show VR bs w S' ((kb y).getD x) v;cases e2:kb y with
   | none=>exact up
   | some z=>
    rcases hv.2 _ _ e with e3|e3
    ·subst e3;cases e2
    ·exact hk o (hx o ho) y z v e3 e2 (vi h ho)
 ·exact up
theorem Ls {bs:List Value} {w:World} {S S':Nat→Prop} {Hv Hf:List ai} {os:List Nat} (hv:xa Hv Hf) (hS:∀b,S b→S' b) (hk:∀o∈os,∀(y:ai) (x:AV) (v:Value),Hf[o]?=some y→kb y=some x→bs[o]?=some v→VR bs w S' x v) {l:List (Nat×List AV)} {m:List (Nat×Value)} (h:F2 (fun p q=>p.1=q.1∧F2 (VR bs w S) p.2 q.2.cells.toList) l m) (hm:∀p∈l,∀x∈p.2,∀o,mS x=some o→o∈os):F2 (fun p q=>p.1=q.1∧F2 (VR bs w S') p.2 q.2.cells.toList) (Uk Hv l) m:=
 h.mapL fun p hp _ hr=>⟨hr.1,hr.2.mapL fun x hx _ hvr=>uL hv hS hk (hm p hp x hx) hvr⟩
theorem Jw {l:List (Nat×List AV)}:∀p∈l,∀x∈p.2,∀o,mS x=some o→o∈vf l:=fun p hp x hx _ e=>List.mem_flatMap.2 ⟨p,hp,adw.2 ⟨x,hx,e⟩⟩
theorem IQ {bs:List Value} {w:World} {S S':Nat→Prop} {Hv Hf:List ai} {os:List Nat} (hv:xa Hv Hf) (hS:∀b,S b→S' b) (hk:∀o∈os,∀(y:ai) (x:AV) (v:Value),Hf[o]?=some y→kb y=some x→bs[o]?=some v→VR bs w S' x v) {l:List XV} {m:List Value} (h:F2 (XR bs w S) l m) (hm:∀x∈l,∀a o,(x=.one a∨∃cs,x=.agg cs∧a∈cs)→mS a=some o→o∈os):F2 (XR bs w S') (l.map (Lr Hv)) m:=by
 refine h.mapL fun x hx v hvr=>?_;cases x with
 | one a=>exact uL hv hS hk (fun o e=>hm _ hx a o (.inl rfl) e) hvr
 | agg cs=>
  obtain⟨vs,e,hf⟩:=hvr;exact⟨vs,e,hf.mapL fun y hy u hu=>uL hv hS hk (fun o e2=>hm _ hx y o (.inr ⟨cs,rfl,hy⟩) e2) hu⟩
 | tup l=>exact XR.keep hvr hS (aA.refl _ _) (jq.refl _)
theorem Jv {l:List XV}:∀x∈l,∀a o,(x=.one a∨∃cs,x=.agg cs∧a∈cs)→mS a=some o→o∈ya l:=by
 intro x hx a o h e;refine List.mem_flatMap.2 ⟨x,hx,?_⟩;rcases h with rfl|⟨cs,rfl,h⟩
 ·exact adw.2 ⟨a,acB.2 rfl,e⟩
 ·exact adw.2 ⟨a,h,e⟩
theorem mj {Hv Hf:List ai} (hv:xa Hv Hf) {i:Nat} {y:ai} (h:Hv[i]?=some y) (hy:y≠.dead):Hf[i]?=some y:=(hv.2 _ _ h).elim (fun e=>absurd e hy) id
theorem Ro {P:Program} {ty:TypeId→Option Ty} {cR:Nat} {Hv Hf:List ai} {t:TypeId} {m x v:Option XV} {r:List (Nat×ai)×Option ai} (hv:xa Hv Hf) (h:(Wl P ty cR Hv t m x v).hit r):(Wl P ty cR Hf t m x v).hit r:=by
 unfold Wl at h ⊢;split at h
 ·split at h
  ·rename_i hk hH;simp only[hk,mj hv hH (fun e=>by cases e)];exact h
  ·rename_i hk hH;simp only[hk,mj hv hH (fun e=>by cases e)];split at h
   ·rename_i hQ;simp only[mj hv hQ (fun e=>by cases e)];split at h
    ·rename_i hR;simp only[mj hv hR (fun e=>by cases e)];exact h
    ·exact h.elim
   ·exact h.elim
  ·exact h.elim
 ·exact h.elim
theorem X7 {P:Program} {C:iZ P} {o:Oper} {cx:Cx} {bs:List Value} {w:World} {S:Nat→Prop} {Hv Hf:List ai} {m cR:Nat} {env:Env} {a:Act} {r:Dl} {K:Act→World→Prop} {Q:Exit→Act→World→Prop} (hv:xa Hv Hf) (hs:HS cx bs w S Hf) (he:ER m bs w S env a) (hn:Hf[cR]?=some .dead) (hb:bs[cR]?=some undef) (h:(dop C cR env Hv o).hit r) (hK:∀v w' bm S',HS cx bm w' S' (jb (r.ch++[(cR,r.nw.getD .dead)]) Hf)→(∀b,S b→S' b)→aA S w w'→jq bs bm→(∀j,j≠cR→bm[j]?=bs[j]?)→(o.dst.isSome=true→XR bm w' S' r.x v)→K (a.put o.dst v) w'):o.wp P a w K Q:=by
 unfold dop at h;split at h
 ·rename_i t x y hop;split at h
  ·rename_i wu;have h:=T.hit_op h;cases hp:zt P Hv t (ev env x) (ev env y) with
   | none=>rw[hp] at h;cases h
   | some p=>
    rw[hp] at h;obtain rfl:=aae h;refine Gj hs he hop wu (LP hv hp) fun w' q1 q2=>?_;have:=hK undef w' bs S (q1.mask (by show((Hf.set p.1 p.2).set cR .dead).length=_;rw[abN]) fun i x hx=>by
     have hx:((Hf.set p.1 p.2).set cR .dead)[i]?=some x:=hx;by_cases e:cR=i
     ·subst e;rw[abc (by rw[abN];exact(aab.1 hn).1)] at hx;exact .inl (aae hx).symm
     ·rw[aaY e] at hx;exact .inr hx) (fun _ h=>h) q2 (jq.refl _) (fun _ _=>rfl) (fun e=>by rw[wu] at e;cases e)
    rw[wu] at this;exact this
  ·exact h.elim
 ·rename_i args ts hop;split at h
  ·rename_i s x t t' ha ht;split at h
   ·rename_i e;subst e;obtain⟨q,h1,h2⟩:=T.hit_bind h;obtain rfl:(⟨.one (.own cR),some (.row q.2.1 q.2.2.1 q.2.2.2),Zt Hv (ev env s)⟩:Dl)=r:=h2;have ha':args=#[s,x]:=by rw[←acj (xs:=args),ha]
    have Sg:ts=#[t,t]:=by rw[←acj (xs:=ts),ht]
    rw[ha',Sg] at hop;refine Iu hs he hop (Py hv h1) fun v w' cI hHl Sx bS gV bZ=>?_;have hj:(jb (Zt Hv (ev env s)) Hf)[cR]?=some .dead:=by
     exact Sx cR hn
    have jR:=cI.fill (x:=.row q.2.1 q.2.2.1 q.2.2.2) (v:=v) hj hb rfl gV bZ;obtain⟨A',n',c',NF,_⟩:=gV.slice;refine hK v w' (bs.set cR v) S (by rw[il];exact jR) (fun _ h=>h) bS (fun i u hu rF=>?_) (fun j hj=>aaY (acJ hj)) fun _=>⟨abc (aab.1 hb).1,A',n',c',NF⟩;rw[aaY (fun e=>by subst e;rw[hb] at hu;obtain rfl:=aae hu;cases rF)];exact hu
   ·exact h.elim
  ·exact h.elim
 ·rename_i t x k v hop;split at h
  ·rename_i wu;obtain⟨q,h1,h2⟩:=T.hit_bind h;obtain rfl:(⟨.tup [],q.2,q.1⟩:Dl)=r:=h2;refine MQ hs he C.isP hop wu hn hb (Ro hv h1) fun w' bm q1 q2 q3 q4=>?_;have:=hK undef w' bm S q1 (fun _ h=>h) q2 q3 q4 (fun e=>by rw[wu] at e;cases e);rw[wu] at this;exact this
  ·exact h.elim
 ·rename_i t n ps hop;split at h
  ·rename_i l hp;obtain⟨q,h1,h2⟩:=T.hit_bind h;obtain rfl:(⟨q.1,q.2,lN (vf l)⟩:Dl)=r:=h2;obtain⟨S',k1,k2,k3⟩:=Ae (vf l) hs;have uz:(jb (lN (vf l)) Hf)[cR]?=some .dead:=by
    rw[lD hn];rcases pJ (o:=cR) (vf l) with e|e
    ·rw[e];rfl
    ·rw[e];rfl
   have Fg:=Ls hv k1 k3 (lF he hp) Jw;refine SU k2 uz hb (Gr k2 Fg hop (T.hit_op h1)) fun v w' bm S'' q1 q2 q3 q4 q5 q6=>?_;exact hK v w' bm S'' (by rw[il];exact q1) (fun b h=>q2 b (k1 b h)) (q3.sub k1) q4 q5 q6
  ·exact h.elim
 ·rename_i f args ts hop;split at h
  ·rename_i Oa;obtain⟨q,h1,h2⟩:=T.hit_bind h;obtain rfl:(⟨q.1,none,q.2⟩:Dl)=r:=h2;refine C.dok m o cx bs S env Hv Hf a w q K Q Oa hv hs he h1 fun v w' S' q1 q2 q3 q4=>?_;refine hK v w' bs S' ?_ q2 q3 (jq.refl _) (fun _ _=>rfl) fun _=>q4;refine q1.mask (by rw[gm,gm]) fun i x hx=>?_;rw[il] at hx;have hx:((jb q.2 Hf).set cR .dead)[i]?=some x:=hx;by_cases e:cR=i
   ·subst e;rw[abc (by rw[gm];exact(aab.1 hn).1)] at hx;exact .inl (aae hx).symm
   ·rw[aaY e] at hx;exact .inr hx
  ·split at h
   ·rename_i xs hx;split at h
    ·obtain⟨q,h1,h2⟩:=T.hit_bind h;obtain rfl:(⟨q,none,lN (ya xs)⟩:Dl)=r:=h2;obtain⟨S',k1,k2,k3⟩:=Ae (ya xs) hs;have uz:(jb (lN (ya xs)) Hf)[cR]?=some .dead:=by
      rw[lD hn];rcases pJ (o:=cR) (ya xs) with e|e
      ·rw[e];rfl
      ·rw[e];rfl
     have CH:=IQ hv k1 k3 (l9 he hx) Jv;have hd:HS cx bs w S' (Hv.map fun _=>ai.dead):=k2.mask (by rw[acn,gm];exact hv.1) fun i x hx=>by
      rw[acX] at hx;cases e:Hv[i]? with
      | none=>rw[e] at hx;cases hx
      | some y=>rw[e] at hx;exact .inl (aae hx).symm
     refine SU k2 uz hb (ET hd (fun ys hy=>by obtain rfl:=aae hy;exact CH) rfl hop h1) fun v w' bm S'' q1 q2 q3 q4 q5 q6=>?_;exact hK v w' bm S'' (by rw[il];exact q1) (fun b h=>q2 b (k1 b h)) (q3.sub k1) q4 q5 q6
    ·obtain⟨q,h1,h2⟩:=T.hit_bind h;obtain rfl:(⟨q.1,q.2,[]⟩:Dl)=r:=h2;exact SU hs hn hb (AA C.isP (hv.hide hs) he h1) hK
   ·exact h.elim
 ·split at h
  ·rename_i Oa;obtain⟨q,h1,h2⟩:=T.hit_bind h;obtain rfl:(⟨q.1,none,q.2⟩:Dl)=r:=h2;refine C.dok m o cx bs S env Hv Hf a w q K Q Oa hv hs he h1 fun v w' S' q1 q2 q3 q4=>?_;refine hK v w' bs S' ?_ q2 q3 (jq.refl _) (fun _ _=>rfl) fun _=>q4;refine q1.mask (by rw[gm,gm]) fun i x hx=>?_;rw[il] at hx;have hx:((jb q.2 Hf).set cR .dead)[i]?=some x:=hx;by_cases e:cR=i
   ·subst e;rw[abc (by rw[gm];exact(aab.1 hn).1)] at hx;exact .inl (aae hx).symm
   ·rw[aaY e] at hx;exact .inr hx
  ·obtain⟨q,h1,h2⟩:=T.hit_bind h;obtain rfl:(⟨q.1,q.2,[]⟩:Dl)=r:=h2;exact SU hs hn hb (AA C.isP (hv.hide hs) he h1) hK
theorem OG {N0 o:Nat} {rs:List Dl} {d:Nat→Bool} {x0:ai} {i:Nat}:∀{n:Nat},i≤n→(∀j,i≤j→j<n→d j=false)→fD N0 rs d x0 o n=fD N0 rs d x0 o i
 | 0,h,_=>by
  obtain rfl:i=0:=by omega
  rfl
 | n+1,h,hd=>by
  by_cases e:i=n+1
  ·rw[e]
  ·rw[kY,hd n (by omega) (by omega),OG (n:=n) (by omega) fun j h1 h2=>hd j h1 (by omega)];simp
theorem U7 {N0 o:Nat} {rs rs':List Dl} {d:Nat→Bool} {x0:ai}:∀{n:Nat},(∀j,j<n→rs[j]?=rs'[j]?)→fD N0 rs d x0 o n=fD N0 rs' d x0 o n
 | 0,_=>rfl
 | n+1,h=>by
  rw[kY,kY,U7 (n:=n) fun j hj=>h j (by omega)];have:og N0 rs n o=og N0 rs' n o:=by unfold og;rw[h n (by omega)]
  rw[this]
theorem AE {N0 o:Nat} {rs:List Dl} {x0:ai}:∀{n:Nat},fD N0 rs (fun _=>false) x0 o n=x0
 | 0=>rfl
 | n+1=>by rw[kY,AE (n:=n)];simp
def lm (rs:List Dl):Rs:=rs.map fun r=>some (r.x,r.nw)
def je (H0:List ai) (n:Nat) (rs:List Dl) (d:Nat→Bool):List ai:=(List.range (H0.length+n)).map fun o=>fD H0.length rs d (H0.getD o .dead) o n
def By (H0:List ai) (n:Nat) (rs:List Dl) (xV hid:Nat→Bool):List ai:=(List.range (H0.length+n)).map fun o=>if hid o then .dead else fD H0.length rs xV (H0.getD o .dead) o rs.length
def J1 (N0:Nat) (ms gs:List Nat) (i o:Nat):Bool:=(decide (N0≤o)&&!(selB ms i (o-N0)))||(List.range gs.length).any fun j=>j !=i&&!(selB ms i j)&&!(selB ms j i)&&(gs.getD j 0).testBit o
def gsB (N0 n:Nat) (ms gs:List Nat):Bool:=gs.length==n&&(List.range n).all fun i=>(List.range (N0+n)).all fun o=>!((gs.getD i 0).testBit o)||((decide (o<N0)||selB ms i (o-N0))&&(List.range i).all fun j=>selB ms i j||!((gs.getD j 0).testBit o))
def chB (gs:List Nat) (i k:Nat) (r:Dl):Bool:=r.ch.all fun p=>decide (p.1<k)&&(gs.getD i 0).testBit p.1
def skD:Dl:=⟨.tup [],none,[]⟩
def bD (b:Bool):Dl:=⟨.one (.val (.bool b)),none,[]⟩
def pc {P:Program} (C:iZ P) (ops:Array Oper) (n:Nat) (ms gs:List Nat) (chk:Bool) (dG:Env) (H0:List ai):List Oper→List Dl→T (List Dl)
 | [],rs=>.lf rs
 | o::l,rs=>match Qf ops rs.length o (lm rs) with
  | some false=>pc C ops n ms gs chk dG H0 l (rs++[skD])
  | some true=>(dop C (H0.length+rs.length) (lU ops (R1 ops n ms rs.length) dG (selB ms rs.length) (lm rs)) (By H0 n rs (selB ms rs.length) (J1 H0.length ms gs rs.length)) o).bind fun r=>
   if !chk||chB gs rs.length (H0.length+n) r then(match aaZ ops rs.length,r with
    | true,⟨.one (.sym (.bool b)),none,[]⟩=>.br b (pc C ops n ms gs chk dG H0 l (rs++[bD true])) (pc C ops n ms gs chk dG H0 l (rs++[bD false]))
    | _,r=>pc C ops n ms gs chk dG H0 l (rs++[r])) else .bad
  | none=>.bad
def T.lvs {α:Type}:T α→List α
 | .lf a=>[a]
 | .br _ x y=>x.lvs++y.lvs
 | .nd _ t=>t.lvs
 | .bad=>[]
def aaM (r:Dl):Nat:=r.ch.foldl (fun s p=>s||| 2^p.1) 0
def acf (n:Nat) (l:List (List Dl)):List Nat:=(List.range n).map fun i=>l.foldl (fun s rs=>s||| (match rs[i]? with
 | some r=>aaM r
 | none=>0)) 0
def wH:List Nat→List Oper→Nat
 | _,[]=>0
 | rd,o::l=>if(match o.dst with|some t=>rd.contains t|none=>false) then 0 else wH (aay o++rd) l+1
def Tg {P:Program} (C:iZ P) (m:Nat) (ops:Array Oper) (n:Nat) (st:dX):T dX:=
 if P.follows .mixedOrders&&mQ (n+(ops.size-n)) ops&&vW ops n (n+(ops.size-n))&&yT ops n m then
  (fun(l:List Oper) (ms:List Nat)=>(fun(gs:List Nat)=>if gsB st.heap.length n ms gs then(pc C ops n ms gs true st.env st.heap l []).bind fun rs=>
   EF C m ops (ops.toList.drop n) ⟨lU ops (rW ops n) st.env (fun _=>true) (lm rs),je st.heap n rs (fun _=>true)⟩ else .bad) (acf n (pc C ops n ms [] false st.env st.heap l []).lvs)) (ops.toList.take n) (vH (ops.toList.take n) [])
 else .bad
section
variable {P:Program} {ops:Array Oper} {Q:Exit→Act→World→Prop} {C:iZ P} {n m:Nat} {cx:Cx} {ms gs:List Nat} {dG:Env} {H0:List ai}
def rD (C:iZ P) (ops:Array Oper) (n:Nat) (ms gs:List Nat) (dG:Env) (H0:List ai) (rs:List Dl) (i:Nat):Prop:=
 ∃o r,ops[i]?=some o∧rs[i]?=some r∧((Qf ops i o (lm (rs.take i))=some false∧r=skD)∨
  (Qf ops i o (lm (rs.take i))=some true∧∃r0,(dop C (H0.length+i) (lU ops (R1 ops n ms i) dG (selB ms i) (lm (rs.take i))) (By H0 n (rs.take i) (selB ms i) (J1 H0.length ms gs i)) o).hit r0∧chB gs i (H0.length+n) r0=true∧(r=r0∨∃b,r0=⟨.one (.sym (.bool b)),none,[]⟩∧r=bD b)))
theorem rD.more {rs:List Dl} {i:Nat} (h:rD C ops n ms gs dG H0 rs i) (hi:i<rs.length) (x:Dl):rD C ops n ms gs dG H0 (rs++[x]) i:=by
 unfold rD at h ⊢;rw[acv (by omega),aaK hi];exact h
theorem CK:∀(l:List Oper) (rs rs':List Dl),(pc C ops n ms gs true dG H0 l rs).hit rs'→(∀(k:Nat) (o:Oper),l[k]?=some o→ops[rs.length+k]?=some o)→(∀i,i<rs.length→rD C ops n ms gs dG H0 rs i)→rs'.length=rs.length+l.length∧∀i,i<rs'.length→rD C ops n ms gs dG H0 rs' i
 | [],rs,rs',h,_,hs=>by have h:rs=rs':=h;subst h;exact⟨rfl,hs⟩
 | o::l,rs,rs',h,hl,hs=>by
  have ho:=hl 0 o rfl;rw[adA] at ho;have next:∀(x:Dl),(pc C ops n ms gs true dG H0 l (rs++[x])).hit rs'→rD C ops n ms gs dG H0 (rs++[x]) rs.length→rs'.length=rs.length+(o::l).length∧∀i,i<rs'.length→rD C ops n ms gs dG H0 rs' i:=by
   intro x h hx;obtain⟨q1,q2⟩:=CK l (rs++[x]) rs' h (fun k o' hk=>by
    rw[aa8,abs,ab1,act,adN (0+1)];exact hl (k+1) o' (by simpa using hk)) fun i hi=>by
     rw[aa8,abs,ab1] at hi;by_cases e:i=rs.length
     ·rw[e];exact hx
     ·exact(hs i (by omega)).more (by omega) x
   refine⟨?_,q2⟩;rw[q1,aa8,abs,ab1,abs];omega
  have sJ:∀x,(rs++[x]).take rs.length=rs:=fun x=>by rw[acv (aaW _),List.take_length]
  have gI:∀x,(rs++[x])[rs.length]?=some x:=fun x=>by rw[aag (aaW _)];simp
  unfold pc at h;split at h
  ·rename_i hg;exact next _ h ⟨o,_,ho,gI _,.inl ⟨by rw[sJ];exact hg,rfl⟩⟩
  ·rename_i hg;obtain⟨r0,h1,h2⟩:=T.hit_bind h;simp only[Bool.not_true,adc] at h2;split at h2
   ·rename_i XC;split at h2
    ·rename_i b sP;cases b with
     | true=>exact next _ (h2.1 rfl) ⟨o,_,ho,gI _,.inr ⟨by rw[sJ];exact hg,_,by rw[sJ];exact h1,XC,.inr ⟨true,rfl,rfl⟩⟩⟩
     | false=>exact next _ (h2.2 rfl) ⟨o,_,ho,gI _,.inr ⟨by rw[sJ];exact hg,_,by rw[sJ];exact h1,XC,.inr ⟨false,rfl,rfl⟩⟩⟩
    ·exact next _ h2 ⟨o,_,ho,gI _,.inr ⟨by rw[sJ];exact hg,_,by rw[sJ];exact h1,XC,.inl rfl⟩⟩
   ·exact h2.elim
  ·exact h.elim
theorem lO {rs:List Dl} {d:Nat→Bool}:(je H0 n rs d).length=H0.length+n:=by simp[je]
theorem lP {rs:List Dl} {d:Nat→Bool} {o:Nat} (ho:o<H0.length+n):(je H0 n rs d)[o]?=some (fD H0.length rs d (H0.getD o .dead) o n):=by
 unfold je;rw[acX,adr ho];rfl
theorem Ma {rs:List Dl} {j:Nat} {r:Dl} (h:rs[j]?=some r):(lm rs)[j]?=some (some (r.x,r.nw)):=by
 unfold lm;rw[acX,h];rfl
theorem Jb {rs:List Dl} {i:Nat}:lm (rs.take i)=(lm rs).take i:=by unfold lm;rw[List.map_take]
theorem lE {rs:List Dl}:(lm rs).length=rs.length:=by unfold lm;rw[acn]
def DJ (m:Nat) (cx:Cx) (ops:Array Oper) (n:Nat) (dG:Env) (H0:List ai) (rs:List Dl) (d:Nat→Bool) (a:Act) (w:World):Prop:=
 ∃bs S,HS cx bs w S (je H0 n rs d)∧(∀j,j<n→d j=false→bs[H0.length+j]?=some undef)∧ER m bs w S (lU ops (JN ops n d) dG d (lm rs)) a
theorem DJ.step {rs:List Dl} (bM:rs.length=n) (_:n≤ops.size) (eM:∀i,i<n→rD C ops n ms gs dG H0 rs i) (hgs:gsB H0.length n ms gs=true) (An:DT ops ms) (Qa:ms.length=n) (lQ:yT ops n m=true) (tA:∀(i j:Nat),waits ops i j=true→j<i) {Q':Exit→Act→World→Prop} {d:Nat→Bool} {a:Act} {w:World} {i:Nat} (hi:i<n) (h:DJ m cx ops n dG H0 rs d a w) (oY:d i=false) (ug:∀j,n≤j→d j=false) (hc:∀k q,d k=true→waits ops k q=true→d q=true) (hw:∀q,waits ops i q=true→d q=true) : wpOp P ops Q' i (DJ m cx ops n dG H0 rs (kd d i)) a w:=by
 obtain⟨bs,S,hs,hu,he⟩:=h;obtain⟨o,r,ho,hr,Ol⟩:=eM i hi;have xl:bs.length=H0.length+n:=by rw[hs.len,lO]
 have wt:∀t,dC ops i=some t→t<m:=fun t ht=>(mI lQ hi ht).1;have UK:o.dst=dC ops i:=by unfold dC;rw[ho];rfl
 have Un:∀{j k:Nat},j<n→selB ms j k=true→(∀q,waits ops j q=true→d q=true)→k<j∧d k=true:=by
  intro j k hj hk P2;unfold selB at hk;rw[aaO,decide_eq_true_eq] at hk;refine⟨hk.1,?_⟩;have him:j<ms.length:=by rw[Qa];exact hj
  have wl:=hk.2;rw[aar,aac him] at wl;exact An j _ (aac him) k wl d hc P2
 have Fb:∀j,selB ms i j=true→j<i∧d j=true:=fun j hj=>Un hi hj hw;have Hu:∀j,d j=true→j<n:=fun j hj=>by
  rcases Nat.lt_or_ge j n with h|h
  ·exact h
  ·rw[ug j h] at hj;cases hj
 have Xb:∀j,d j=true→selB ms j i=false:=fun j hj=>by
  cases e:selB ms j i with
  | false=>rfl
  | true=>rw[(Un (Hu j hj) e fun q=>hc j q hj).2] at oY;cases oY
 have Xl:=hgs;unfold gsB at Xl;rw[aaO,beq_iff_eq] at Xl;obtain⟨hgl,Xo⟩:=Xl;have SP:∀{j o:Nat},j<n→o<H0.length+n→(gs.getD j 0).testBit o=true→(o<H0.length∨selB ms j (o-H0.length)=true)∧∀k,k<j→selB ms j k=true∨(gs.getD k 0).testBit o=false:=by
  intro j o hj ho hb;have:=abq.1 (abq.1 Xo j (abM.2 hj)) o (abM.2 ho);rw[hb] at this;simp only[Bool.not_true,adc,aaO,acP,decide_eq_true_eq] at this;refine⟨this.1,fun k hk=>?_⟩;have:=abq.1 this.2 k (abM.2 hk);simpa using this
 have XC:∀{j o:Nat} {q:Dl} {x:ai},j<n→rs[j]?=some q→fe q.ch o=some x→o<H0.length+n∧(gs.getD j 0).testBit o=true:=by
  intro j o q x hj hq hx;obtain⟨p,hp,rfl⟩:=yu hx;obtain⟨o',r',_,jQ,On⟩:=eM j hj;rw[hq] at jQ;obtain rfl:=aae jQ;rcases On with⟨_,rfl⟩|⟨_,r0,_,Zm,rfl|⟨b,rfl,rfl⟩⟩
  ·cases hp
  ·have:=abq.1 Zm p hp;simpa using this
  ·cases hp
 have CF:∀{j o:Nat} {x:ai},j<n→og H0.length rs j o=some x→o=H0.length+j∨(o<H0.length+n∧(gs.getD j 0).testBit o=true):=by
  intro j o x hj hx;unfold og at hx;cases hq:rs[j]? with
  | none=>rw[hq] at hx;cases hx
  | some q=>
   rw[hq] at hx;simp only at hx;split at hx
   ·rename_i e;exact .inl e
   ·exact .inr (XC hj hq hx)
 have sK:∀(v:Value) t,dC ops i≠some t→(a.put o.dst v).tmps[t]?=a.tmps[t]?:=by
  intro v t hx;rw[UK];cases e:dC ops i with
  | none=>rfl
  | some q=>
   have fv:q≠t:=fun e2=>hx (by rw[e,e2]);show(a.tmps.setIfInBounds q v)[t]?=_;rw[adn fv]
 have qP:∀v:Value,(a.put o.dst v).tmps.size=m∧(a.put o.dst v).defers=[]:=by
  intro v;cases o.dst with
  | none=>exact⟨he.s,he.d⟩
  | some q=>exact⟨by show(a.tmps.setIfInBounds q v).size=m;rw[Array.size_setIfInBounds];exact he.s,he.d⟩
 have wv:∀t x,(t,x)∈lU ops (JN ops n (kd d i)) dG (kd d i) (lm rs)→((t,x)∈lU ops (JN ops n d) dG d (lm rs)∧dC ops i≠some t)∨(dC ops i=some t∧r.x=x):=by
  intro t x hx;rcases jC hx with⟨j,q,hj,fK,ht,hq,hqx⟩|⟨h1,hn⟩
  ·by_cases e:j=i
   ·subst e;rw[Ma hr] at hq;obtain rfl:=aae (aae hq);exact .inr ⟨ht,hqx⟩
   ·rw[bK d e] at fK;subst hqx;exact .inl ⟨js hj fK ht hq,fun e2=>Ie lQ hi (by rw[lE] at hj;omega) (fun e3=>e e3.symm) t e2 ht⟩
  ·obtain⟨k1,k2⟩:=Hc hi hn oY;exact .inl ⟨lT h1 k1,k2⟩
 have Cy:∀j,j<i→(lm (rs.take i))[j]?=(lm rs)[j]?:=fun j hj=>by rw[Jb,acz,if_pos hj]
 have wn:∀{c:Bool},Qf ops i o (lm (rs.take i))=some c→Region.wanted o (yielded ops a.tmps)=c:=by
  intro c hg;unfold Qf at hg;split at hg
  ·rename_i sP;injection hg with hg
   subst hg;simp[Region.wanted,sP]
  ·rename_i j want sP;split at hg
   ·rename_i P2;have NY:=tA i j P2;rw[Cy j NY] at hg;split at hg
    ·rename_i t b _ ht hr;injection hg with hg
     subst hg;obtain⟨v,hv,hx⟩:=he.k t _ (js (by rw[lE];omega) (hw j P2) ht hr);obtain⟨rfl,_⟩:=hx;exact oz sP ht hv
    ·rename_i t _ ht hr;injection hg with hg
     subst hg;obtain⟨v,hv,vs,e1,e2⟩:=he.k t _ (js (by rw[lE];omega) (hw j P2) ht hr);cases e2
     exact rJ sP ht (by rw[hv,e1];rfl)
    ·cases hg
   ·cases hg
 have abx:(je H0 n rs d)[H0.length+i]?=some .dead:=by
  rw[lP (by omega)];have:fD H0.length rs d (H0.getD (H0.length+i) .dead) (H0.length+i) n=fD H0.length rs (fun _=>false) (H0.getD (H0.length+i) .dead) (H0.length+i) n:=by
   refine od fun j hj=>?_;cases pQ:d j with
   | false=>exact .inl rfl
   | true=>
    right
    cases hx:og H0.length rs j (H0.length+i) with
    | none=>rfl
    | some x=>
     rcases CF hj hx with e|⟨_,e⟩
     ·have:i=j:=by omega
      subst this;rw[oY] at pQ;cases pQ
     ·rcases(SP hj (by omega) e).1 with q|q
      ·omega
      ·rw[abH,Xb j pQ] at q;cases q
  rw[this,AE,aar,abL (by omega)];rfl
 have UR:∀q:Dl,q.ch=r.ch→q.nw=r.nw→jb (q.ch++[(H0.length+i,q.nw.getD .dead)]) (je H0 n rs d)=je H0 n rs (kd d i):=by
  intro q e1 e2;rw[e1,e2];refine acW fun k=>?_;by_cases hk:k<H0.length+n
  ·rw[lD (lP hk),lP hk,vV];congr 1
   have hci:og H0.length rs i k=if H0.length+i=k then some (r.nw.getD .dead) else fe r.ch k:=by
    unfold og;rw[hr];by_cases e:H0.length+i=k
    ·subst e;simp
    ·rw[if_neg e];simp only;rw[if_neg (acJ e)]
   rw[←hci];refine(OF oY hi fun j hj1 wl pQ=>?_).symm;cases hx:og H0.length rs j k with
   | none=>exact .inl rfl
   | some x=>
    right
    cases hy:og H0.length rs i k with
    | none=>rfl
    | some y=>
     exfalso
     have Zc:=Xb j pQ;rcases CF wl hx with e|⟨_,e⟩
     ·rcases CF hi hy with e'|⟨_,e'⟩
      ·omega
      ·rcases(SP hi hk e').1 with q|q
       ·omega
       ·rw[e,abH] at q;have:=(Fb j q).1;omega
     ·rcases CF hi hy with e'|⟨_,e'⟩
      ·rcases(SP wl hk e).1 with q|q
       ·omega
       ·rw[e',abH,Zc] at q;cases q
      ·rcases(SP wl hk e).2 i hj1 with q|q
       ·rw[Zc] at q;cases q
       ·rw[e'] at q;cases q
  ·rw[abL (by rw[gm,lO];omega),abL (by rw[lO];omega)]
 rcases Ol with⟨hg,rfl⟩|⟨hg,r0,ahk,Zm,Sk⟩
 ·
  have Cv:=wn hg;unfold wpOp;rw[ho];simp only[Cv,abC,if_false];have hh:=UR skD rfl rfl;have hh:(je H0 n rs d).set (H0.length+i) .dead=je H0 n rs (kd d i):=hh;rw[Bw fun x hx=>by rw[abx] at hx;exact(aae hx).symm] at hh;refine⟨bs,S,hh▸hs,fun j hj pQ=>hu j hj ?_,(qP undef).2,(qP undef).1,fun t x hx=>?_⟩
  ·by_cases e:j=i
   ·subst e;exact oY
   ·rw[bK d e] at pQ;exact pQ
  ·rcases wv t x hx with⟨hx,fv⟩|⟨ht,rfl⟩
   ·obtain⟨v,q1,q2⟩:=he.k t x hx;exact⟨v,(sK undef t fv).trans q1,q2⟩
   ·refine⟨undef,?_,[],rfl,.nil⟩;rw[UK,ht];show(a.tmps.setIfInBounds t undef)[t]?=_;exact ab8 (by rw[he.s];exact wt t ht)
 ·have Cv:=wn hg;have hrc:r0.ch=r.ch∧r0.nw=r.nw:=by
   rcases Sk with rfl|⟨b,rfl,rfl⟩<;>exact⟨rfl,rfl⟩
  have agn:xa (By H0 n (rs.take i) (selB ms i) (J1 H0.length ms gs i)) (je H0 n rs d):=by
   refine⟨by rw[lO];simp[By],fun k x hx=>?_⟩;unfold By at hx;rw[acX] at hx;by_cases hk:k<H0.length+n
   ·rw[adr hk] at hx;have hx:(if J1 H0.length ms gs i k then ai.dead else fD H0.length (rs.take i) (selB ms i) (H0.getD k .dead) k (rs.take i).length)=x:=aae hx;cases hh:J1 H0.length ms gs i k with
    | true=>rw[hh] at hx;exact .inl (by simpa using hx.symm)
    | false=>
     right
     rw[hh] at hx;have hx:fD H0.length (rs.take i) (selB ms i) (H0.getD k .dead) k (rs.take i).length=x:=by simpa using hx
     rw[lP hk,←hx];congr 1
     rw[ab4,adI (by omega),U7 (rs:=rs.take i) (rs':=rs) (n:=i) fun j hj=>by rw[acz,if_pos hj]];rw[←OG (d:=selB ms i) (i:=i) (n:=n) (by omega) fun j h1 h2=>by
      cases e:selB ms i j with
      | false=>rfl
      | true=>have:=(Fb j e).1;omega]
     refine od fun j hj=>?_;cases pQ:d j with
     | false=>
      left
      cases e:selB ms i j with
      | false=>rfl
      | true=>have:=(Fb j e).2;rw[pQ] at this;cases this
     | true=>
      cases e:selB ms i j with
      | true=>exact .inl rfl
      | false=>
       right
       have xk:j≠i:=fun e=>by subst e;rw[oY] at pQ;cases pQ
       unfold J1 at hh;rw[Bool.or_eq_false_iff] at hh;cases hx:og H0.length rs j k with
       | none=>rfl
       | some y=>
        exfalso
        rcases CF hj hx with e2|⟨_,e2⟩
        ·have h1:=hh.1;rw[e2,abH,e] at h1;simp at h1
        ·have:=List.any_eq_false.1 hh.2 j (abM.2 (by omega));rw[e,Xb j pQ,e2] at this;simp[xk] at this
   ·rw[abL (by simpa using hk)] at hx;cases hx
  have hem:ER m bs w S (lU ops (R1 ops n ms i) dG (selB ms i) (lm (rs.take i))) a:=by
   refine⟨he.d,he.s,fun t x hx=>?_⟩;rcases jC hx with⟨j,q,hj,fK,ht,hq,rfl⟩|⟨h1,hn⟩
   ·obtain⟨q1,q2⟩:=Fb j fK;rw[Cy j q1] at hq;exact he.k t _ (js (by rw[lE];omega) q2 ht hq)
   ·exact he.k t x (lT h1 (UE An Qa oY hc hn))
  refine uH ho Cv (X7 agn hs hem abx (hu i hi oY) ahk fun v w' bm S' fK hS bS ww hsame hx=>?_);rw[UR r0 hrc.1 hrc.2] at fK;refine⟨bm,S',fK,fun j hj pQ=>?_,(qP v).2,(qP v).1,fun t x hxe=>?_⟩
  ·by_cases e:j=i
   ·subst e;rw[gE] at pQ;cases pQ
   ·rw[bK d e] at pQ;rw[hsame _ (by omega)];exact hu j hj pQ
  ·rcases wv t x hxe with⟨hxe,fv⟩|⟨ht,rfl⟩
   ·obtain⟨z,q1,q2⟩:=he.k t x hxe;exact⟨z,(sK v t fv).trans q1,q2.keep hS bS ww⟩
   ·refine⟨v,?_,?_⟩
    ·rw[UK,ht];show(a.tmps.setIfInBounds t v)[t]?=_;exact ab8 (by rw[he.s];exact wt t ht)
    ·have i7:=hx (by rw[UK,ht];rfl);rcases Sk with rfl|⟨b,rfl,rfl⟩
     ·exact i7
     ·exact i7
theorem OT {id:Nat} {st dA:dX} {a:Act} {w:World} {n:Nat} (h:(Tg C m ops n st).hit dA) (cj:fx m cx st a w) (hQ:∀a' w',fx m cx dA a' w'→Q .normal a' w'):(Code.region id ops true).wp P Q a w:=by
 unfold Tg at h;split at h
 ·rename_i hc;simp only[aaO] at hc;obtain⟨⟨⟨hm,hb⟩,ku⟩,lQ⟩:=hc;simp only at h;generalize acf n (pc C ops n (vH (ops.toList.take n) []) [] false st.env st.heap (ops.toList.take n) []).lvs=gs at h;split at h
  ·rename_i hgs;obtain⟨rs,h1,h2⟩:=T.hit_bind h;have jB:=fC hb;have Fh:n≤ops.size:=by omega
   have D1:(ops.toList.take n).length=n:=by rw[ab4,abI];omega
   have gI:∀(k:Nat) (o:Oper),(ops.toList.take n)[k]?=some o→ops[k]?=some o:=fun k o hk=>by
    rw[acz] at hk;split at hk
    ·simpa using hk
    ·cases hk
   obtain⟨q1,q2⟩:=CK _ [] rs h1 (fun k o hk=>by rw[ab1,ace];exact gI k o hk) fun i hi=>absurd hi (Nat.not_lt_zero _);rw[ab1,ace,D1] at q1;have An:DT ops (vH (ops.toList.take n) []):=zW _ [] (fun i s hs=>by cases hs) fun k o hk=>by rw[ab1,ace];exact gI k o hk
   have Qa:∀(l:List Oper) (fw:List Nat),(vH l fw).length=fw.length+l.length:=by
    intro l;induction l with
    | nil=>intro fw;rfl
    | cons o l ih=>intro fw;show(vH l _).length=_;rw[ih,aa8,abs,ab1,abs];omega
   have tA:∀(i j:Nat),waits ops i j=true→j<i:=by
    intro i j hw;unfold waits at hw;cases ho:ops[i]? with
    | none=>rw[ho] at hw;cases hw
    | some o=>
     rw[ho] at hw;simp only[adf,abF,Array.any_eq_true',aaO,beq_iff_eq] at hw;obtain⟨e,he,hbi,rfl⟩:=hw;exact ol hb ho e he hbi
   refine ny n (ops.size-n) (DJ m cx ops n st.env st.heap rs) hm hb ku ?_ (fun Q' d a w i hi hI oY ug hc hw=>DJ.step q1 Fh (fun i hi=>q2 i (by omega)) hgs An (by rw[Qa,ab1,ace,D1]) lQ tA hi hI oY ug hc hw) fun d a w hI dS=>?_
   ·obtain⟨bs,S,hs,he⟩:=cj;have hd:Below w.heap.size w w.drew:=(Below.refl _ _).drew;have hh0:je st.heap n rs (fun _=>false)=st.heap++List.replicate n .dead:=by
     refine acW fun k=>?_;by_cases hk:k<st.heap.length+n
     ·rw[lP hk,AE];by_cases gR:k<st.heap.length
      ·rw[aaK gR,aar,aac gR];rfl
      ·rw[aag (by omega),adt,if_pos (by omega),aar,abL (by omega)];rfl
     ·rw[abL (by rw[lO];omega),abL (by rw[aa8,adz];omega)]
    refine⟨bs++List.replicate n undef,S,by rw[hh0];exact(hs.grow hd (fun _ h=>h) fun _ h=>.inl h).pads n,fun j hj _=>?_,he.d,he.s,fun t x hx=>?_⟩
    ·rw[←hs.len,aag (by omega),abH,adt,if_pos hj]
    ·rcases jC hx with⟨j,r,_,h,_⟩|⟨h1,_⟩
     ·cases h
     ·obtain⟨v,k1,k2⟩:=he.k t x h1;exact⟨v,k1,k2.keep (fun _ h=>h) (fun _ _=>rfl) fun o u hu _=>by rw[aaK (aab.1 hu).1];exact hu⟩
   ·obtain⟨bs,S,hs,_,he⟩:=hI;have mX:fx m cx ⟨lU ops (rW ops n) st.env (fun _=>true) (lm rs),je st.heap n rs (fun _=>true)⟩ a w:=by
     refine⟨bs,S,?_,he.d,he.s,fun t x hx=>he.k t x ?_⟩
     ·have:je st.heap n rs (fun _=>true)=je st.heap n rs d:=by
       unfold je;refine List.map_congr_left fun o _=>od fun j hj=>.inl ?_;rw[dS j hj]
      show HS cx bs w S (je st.heap n rs (fun _=>true));rw[this];exact hs
     ·rcases jC hx with⟨j,r,hj,_,ht,hr,rfl⟩|⟨k1,k2⟩
      ·rw[lE] at hj;exact js (by rw[lE];exact hj) (dS j (by omega)) ht hr
      ·exact lT k1 (He k2)
    have:=um (C:=C) (Q:=Q) (cx:=cx) (ops.toList.drop n) n rfl h2 mX hQ
    rwa [acL,abI] at this
  ·exact h.elim
 ·exact h.elim
end
def Ut (l:List Oper):Bool:=l.any fun o=>match o.op with
 | .build _ ps=>ps.toList.any fun p=>match p.2 with
  | .tmp t=>l.any fun q=>match q.op with
   | .buildSlice _ _ _=>q.dst==some t
   | _=>false
  | _=>false
 | _=>false
def Us {P:Program} (C:iZ P) (l:List Oper):Bool:=l.any fun o=>match o.op with
 | .call { callee:=.value (.func f),args:=args, .. }=>(C.D.find? fun s=>s.f==f).any Sm.al&&args.toList.any fun x=>match x with
  | .tmp t=>l.any fun q=>match q.op with
   | .buildSlice _ _ _=>q.dst==some t
   | .makeSlice _ _ _=>q.dst==some t
   | _=>false
  | _=>false
 | _=>false
def Yw {P:Program} (C:iZ P) (m:Nat) (ops:Array Oper) (st:dX):T dX:=
 if !(Ut ops.toList)&&!(Us C ops.toList)&&vW ops (CW C [] ops.toList) (CW C [] ops.toList+(ops.size-CW C [] ops.toList)) then Tf C m ops (CW C [] ops.toList) st
 else if !(Ut ops.toList)&&!(Us C ops.toList)&&vW ops (wG C ops.toList) (wG C ops.toList+(ops.size-wG C ops.toList)) then Tf C m ops (wG C ops.toList) st
 else if vW ops (wH [] ops.toList) (wH [] ops.toList+(ops.size-wH [] ops.toList)) then Tg C m ops (wH [] ops.toList) st else Tg C m ops ops.size st
def Vi {P:Program} (C:iZ P) (m:Nat) (fn:Func) (pb:List Nat) (vw:Bool) (hv:pb=[]∨vw=false):Rg P m where
 fn:=fn
 pb:=pb
 reg id ops dr st:=if dr then Yw C m ops st else EF C m ops ops.toList st
 ok id ops dr cx st dA a w Q h hs hQ:=by
  cases dr with
  | true=>
   have h:(Yw C m ops st).hit dA:=h;unfold Yw at h;split at h
   ·exact OS h hs hQ
   ·split at h
    ·exact OS h hs hQ
    ·split at h
     ·exact OT h hs hQ
     ·exact OT h hs hQ
  | false=>exact Ji h hs hQ
 res:=VO P fn vw
 resOk cx st a w r np h hs:=QO (hv.imp (fun e=>np.trans e) id) h hs
theorem T.hit_map {α β:Type} {f:α→β} {t:T α} {r:β} (h:(t.bind fun x=>.lf (f x)).hit r):∃q,t.hit q∧f q=r:=T.hit_bind h
def OA {P:Program} {m:Nat} (R:Rg P m) (tb:List (Nat×List Nat)):Rg P m:={ R with
 reg:=fun id ops dr st=>match tb.lookup id with
  | some l=>(R.reg id ops dr st).bind fun st=>.lf (l.foldl AB st)
  | none=>R.reg id ops dr st
 ok:=fun id ops dr cx st dA a w Q h hs hQ=>by
  revert h
  split
  ·intro h;obtain⟨q,h1,h2⟩:=T.hit_map h;exact R.ok id ops dr cx st q a w Q h1 hs fun a' w' h'=>hQ a' w' (h2▸AC h')
  ·intro h;exact R.ok id ops dr cx st dA a w Q h hs hQ }
structure AW where
 f:dX→T dX
 ok:∀(m:Nat) (cx:Cx) (st dA:dX) (a:Act) (w:World),(f st).hit dA→fx m cx st a w→fx m cx dA a w
def rowAt (H:List ai) (q k:Nat):Option Nat:=match H[q]? with
 | some (.cells _ cs)=>match cs[k]? with
  | some (.own o)=>some o
  | _=>none
 | _=>none
section
variable {m:Nat} {cx:Cx} {st:dX} {a:Act} {w:World} {S:Nat→Prop}
theorem Q5 {α:Type} [aK α] {k B:Nat} {e:TypeId} {v:Value} {xs:List α} (hk:aK.sz α=k) (h:Own w S B e v xs):∃bN:List (j6 k),Own w S B e v bN∧bN.length=xs.length∧∀(j:Nat) (r:j6 k) (x:α),bN[j]?=some r→xs[j]?=some x→aK.rep w S r.cells x:=by
 subst hk;obtain⟨cs,h1,h2,h3⟩:=h;have:∀{cs:List Value} {xs:List α},Flat w S cs xs→∃bN:List (j6 (aK.sz α)),Flat w S cs bN∧bN.length=xs.length∧∀(j:Nat) (r:j6 (aK.sz α)) (x:α),bN[j]?=some r→xs[j]?=some x→aK.rep w S r.cells x:=by
  intro cs xs hf;induction hf with
  | nil=>exact⟨[],.nil,rfl,fun j r x h=>by cases h⟩
  | @snoc cs ds xs x hf hr ih=>
   obtain⟨bN,q1,q2,q3⟩:=ih;refine⟨bN++[⟨ds,aK.len hr⟩],.snoc q1 rfl,by simp[q2],fun j r y hj hy=>?_⟩;by_cases Xj:j<bN.length
   ·rw[aaK Xj] at hj;rw[aaK (by omega)] at hy;exact q3 j r y hj hy
   ·have wl:j=bN.length:=by have:=(aab.1 hj).1;simp at this;omega
    subst wl;rw[aag (aaW _)] at hj;rw[q2,aag (aaW _)] at hy;simp at hj hy;subst hj hy;exact hr
 obtain⟨bN,q1,q2,q3⟩:=this h2;exact⟨bN,⟨cs,by rw[q2];exact h1,q1,h3⟩,q2,q3⟩
theorem QW {α:Type} [aK α] {B:Nat} {e:TypeId} {v:Value} {xs:List α} {bN:List (j6 (aK.sz α))} (h:Own w S B e v bN) (hl:bN.length=xs.length) (hr:∀(j:Nat) (r:j6 (aK.sz α)) (x:α),bN[j]?=some r→xs[j]?=some x→aK.rep w S r.cells x):Own w S B e v xs:=by
 obtain⟨cs,h1,h2,h3⟩:=h;have:∀{cs:List Value} {bN:List (j6 (aK.sz α))},Flat w S cs bN→∀xs:List α,bN.length=xs.length→(∀(j:Nat) (r:j6 (aK.sz α)) (x:α),bN[j]?=some r→xs[j]?=some x→aK.rep w S r.cells x)→Flat w S cs xs:=by
  intro cs bN hf;induction hf with
  | nil=>intro xs hl _;rw[abv hl.symm];exact .nil
  | @snoc cs ds bN r hf hd ih=>
   intro xs hl hr;have fv:xs≠[]:=fun e=>by rw[e] at hl;simp at hl
   have NC:xs=xs.dropLast++[xs.getLast fv]:=(List.dropLast_concat_getLast fv).symm;have bM:bN.length=xs.dropLast.length:=by rw[List.length_dropLast];simp at hl;omega
   rw[NC];have hd:ds=r.cells:=hd;refine .snoc (ih _ bM fun j r' x hj hx=>hr j r' x (by rw[aaK (aab.1 hj).1];exact hj) (by rw[NC,aaK (aab.1 hx).1];exact hx)) ?_;rw[hd];exact hr bN.length r _ (by rw[aag (aaW _)];simp) (by
    conv=>lhs;rw[NC]
    rw[bM,aag (aaW _)];simp)
 exact⟨cs,by rw[←hl];exact h1,this h2 xs hl hr,h3⟩
theorem HS.alt {bs:List Value} {H:List ai} (h:HS cx bs w S H) {i:Nat} {x y:ai} {v:Value} (hx:H[i]?=some x) (hv:bs[i]?=some v) (ly:OR bs w S y v) (hb:∀c,Bk y v c→Bk x v c:=by intro c h;exact h):HS cx bs w S (H.set i y):=
 h.setB hx hv (row:=none) ⟨rfl,rfl,rfl,aaW _,fun _ _ _=>rfl⟩ (fun _ e=>by cases e) ly hb
def Ef (q k:Nat) (t tn:Ty) (st:dX):T dX:=match rowAt st.heap q k with
 | some o=>match st.heap[o]? with
  | some (.row LC e rs)=>match Ty.eq? LC tn with
   | some h=>if aK.sz (El tn)=aK.sz (El t) then .lf ⟨st.env,st.heap.set o (.zc e t tn rs.length [] (h.down▸rs.reverse))⟩ else .bad
   | none=>.bad
  | _=>.bad
 | none=>.bad
theorem IL {q k:Nat} {t tn:Ty} {dA:dX} (h:(Ef q k t tn st).hit dA) (cj:fx m cx st a w):fx m cx dA a w:=by
 unfold Ef at h;split at h
 ·rename_i o _;split at h
  ·rename_i LC e rs hH;split at h
   ·rename_i hq _;obtain⟨hq⟩:=hq;subst hq;split at h
    ·rename_i jB;obtain rfl:=h;obtain⟨bs,S,hs,he⟩:=cj;have xF:o<bs.length:=by rw[hs.len];exact(aab.1 hH).1
     have hv:=aac xF;obtain⟨bN,r1,r2,r3⟩:=Q5 jB (hs.o o _ _ hH hv);refine⟨bs,S,hs.alt hH hv ⟨bN,r1,by rw[r2,aaH],fun j r hj=>⟨fun x hx=>(by cases hx),fun _=>?_⟩⟩,he⟩;have Xj:j<rs.reverse.length:=by rw[←r2];exact(aab.1 hj).1
     have hx:=aac Xj;have hg:rs.reverse.getD (j-([]:List (El t)).length) (Bh LC)=rs.reverse[j]:=by
      rw[ab1,Nat.sub_zero,aar,hx];rfl
     show aK.rep w S r.cells (rs.reverse.getD (j-([]:List (El t)).length) (Bh LC));rw[hg];exact r3 j r _ hj hx
    ·exact h.elim
   ·exact h.elim
  ·exact h.elim
 ·exact h.elim
def aaN (H:List ai) (q k:Nat):Option Nat:=match H[q]? with
 | some (.cells _ cs)=>match cs[k]? with
  | some (.mp o)=>some o
  | _=>none
 | _=>none
def Ld (q k:Nat) (e:TypeId) (st:dX):T dX:=match aaN st.heap q k with
 | some o=>match st.heap[o]? with
  | some (.mp kt (.list t) n f)=>.nd (∀k,f k=none) (.lf ⟨st.env,(st.heap.set o (.mq st.heap.length))++[.mr o kt t e n fun _=>none]⟩)
  | _=>.bad
 | none=>.bad
theorem Lc {q k:Nat} {e:TypeId} {dA:dX} (h:(Ld q k e st).hit dA) (cj:fx m cx st a w):fx m cx dA a w:=by
 unfold Ld at h;split at h
 ·rename_i o _;split at h
  ·rename_i kt t n f hH;obtain⟨hf,h⟩:=h;obtain rfl:=h;obtain⟨bs,S,hs,he⟩:=cj;have xF:o<st.heap.length:=(aab.1 hH).1;obtain⟨v,hv⟩:∃v,bs[o]?=some v:=⟨_,aac (by rw[hs.len];exact xF)⟩;obtain⟨b,g,e1,hg,hfg⟩:=hs.o o _ _ hH hv;have hB:Bk (.mp kt (.list t) n f) v b:=by rw[e1];rfl
   have hgn:∀k,g k=none:=fun k=>by have:=hfg k;rw[hf k] at this;exact this
   have s1:=hs.alt hH hv (y:=.mq st.heap.length) ⟨b,e1⟩ (fun _ h=>by cases h);have NN:=s1.pad;have hl1:(st.heap.set o (.mq st.heap.length)).length=st.heap.length:=abN;have hj:((st.heap.set o (.mq st.heap.length))++[ai.dead])[st.heap.length]?=some .dead:=by rw[aag (by rw[hl1];exact aaW _),hl1];simp
   have wl:(bs++[undef])[st.heap.length]?=some undef:=by rw[←hs.len,aag (aaW _)];simp
   have jR:=NN.fill (x:=.mr o kt t e n fun _=>none) (v:=tf b []) hj wl rfl
    ⟨b,[],g,rfl,by rw[aaY (by omega),aaK (by rw[hs.len];exact xF),hv,e1],hg,fun k u=>by rw[hgn k];simp,fun k _=>hgn k,(fun k k' u u' c q=>by rw[hgn k] at q;cases q),fun k u q=>by rw[hgn k] at q;cases q⟩
    (fun c hc=>by
     obtain⟨b',l',e2,hc⟩:=hc;obtain⟨rfl,rfl⟩:=ma e2;rcases hc with rfl|⟨_,_,_,hu,_⟩
     ·refine⟨(hs.nw _ _ _ _ hH hv hB).1,(hs.nw _ _ _ _ hH hv hB).2,fun i y u hy hu hc1=>?_⟩;by_cases hi:i<st.heap.length
      ·rw[aaK (by rw[hl1];exact hi)] at hy;rw[aaK (by rw[hs.len];exact hi)] at hu;by_cases hio:i=o
       ·subst hio;rw[abc xF] at hy;obtain rfl:=aae hy;cases hc1
       ·rw[aaY (acJ hio)] at hy;exact hs.ap i o _ _ _ _ _ hio hy hu hH hv hc1 hB
      ·have hlt:=(aab.1 hy).1;rw[aa8,hl1] at hlt;obtain rfl:i=st.heap.length:=by simp at hlt;omega
       rw[hj] at hy;obtain rfl:=aae hy;cases hc1
     ·cases hu)
   have e3:((st.heap.set o (.mq st.heap.length))++[ai.dead]).set st.heap.length (.mr o kt t e n fun _=>none)=(st.heap.set o (.mq st.heap.length))++[.mr o kt t e n fun _=>none]:=by
    rw[acN _ _ (by rw[hl1];exact aaW _),hl1];simp
   rw[e3] at jR;refine⟨_,S,jR,he.keep (fun _ h=>h) (aA.refl _ _) fun i u hu rF=>?_⟩;have hi:=(aab.1 hu).1;rw[hs.len] at hi;rw[aaY (by omega),aaK (by rw[hs.len];exact hi)];exact hu
  ·exact h.elim
 ·exact h.elim
def Lg (q k:Nat) (st:dX):T dX:=match rowAt st.heap q k with
 | some o=>match st.heap[o]? with
  | some (.zc e t tn hJ done rest)=>.nd (done.length<hJ) (.lf ⟨st.env,(st.heap++[ai.dead]).set o (.zip st.heap.length e t tn hJ done (lR tn (rest.getD 0 (Bh tn))) (rest.drop 1))⟩)
  | _=>.bad
 | none=>.bad
theorem Le {q k:Nat} {dA:dX} (h:(Lg q k st).hit dA) (cj:fx m cx st a w):fx m cx dA a w:=by
 unfold Lg at h;split at h
 ·rename_i o _;split at h
  ·rename_i e t tn hJ done rest hH;obtain⟨hlt,h⟩:=h;obtain rfl:=h;obtain⟨bs,S,hs,he⟩:=cj;have xF:o<bs.length:=by rw[hs.len];exact(aab.1 hH).1
   have hv:=aac xF;obtain⟨bN,ho,hz⟩:=hs.o o _ _ hH hv;obtain⟨g,n,c,hvs⟩:∃g n c,bs[o]=.slice (some ⟨g,0,none⟩) n c:=by
    obtain⟨cs,⟨_,h2⟩,_⟩:=ho;rcases h2 with⟨_,hn⟩|⟨g,cap,cur,kU,_⟩
    ·rw[hz.1] at hn;omega
    ·exact⟨g,_,_,kU⟩
   have NN:=hs.pad;have hj:(st.heap++[ai.dead])[st.heap.length]?=some .dead:=by rw[aag (aaW _)];simp
   have wl:(bs++[undef])[st.heap.length]?=some undef:=by rw[←hs.len,aag (aaW _)];simp
   have jR:=NN.fill (x:=.dead) (v:=.pointer (some ⟨g,done.length*aK.sz (El t),none⟩)) hj wl rfl trivial (fun b hb=>by cases hb);rw[L5 hj] at jR;have yD:(bs++[undef]).set st.heap.length (.pointer (some ⟨g,done.length*aK.sz (El t),none⟩))=bs++[.pointer (some ⟨g,done.length*aK.sz (El t),none⟩)]:=by
    rw[←hs.len,acN _ _ (aaW _)];simp
   rw[yD] at jR;have hH2:(st.heap++[ai.dead])[o]?=some (.zc e t tn hJ done rest):=by rw[aaK (aab.1 hH).1];exact hH
   have kU:(bs++[.pointer (some ⟨g,done.length*aK.sz (El t),none⟩)])[o]?=some bs[o]:=by rw[aaK xF];exact hv
   have hd:∀k,(rest.drop 1).getD k (Bh tn)=rest.getD (k+1) (Bh tn):=fun k=>by
    rw[aar,aar,acy,adN]
   refine⟨_,S,jR.alt (y:=.zip st.heap.length e t tn hJ done (lR tn (rest.getD 0 (Bh tn))) (rest.drop 1)) hH2 kU ⟨bN,ho,⟨hz.1,fun j r hr=>?_⟩,hlt,.pointer (some ⟨g,done.length*aK.sz (El t),none⟩),by rw[←hs.len,aag (aaW _)];simp,rfl,fun g' n' c' e=>by rw[hvs] at e;injection e with e;injection e with e;injection e with e;rw[e]⟩,he.keep (fun _ h=>h) (aA.refl _ _) (om _ _)⟩;obtain⟨z1,z2⟩:=hz.2 j r hr;refine⟨z1,fun e=>?_,fun jJ=>?_⟩
   ·have:=z2 (by omega);rw[show j-done.length=0 by omega] at this;exact j2 this
   ·rw[hd,show j-done.length-1+1=j-done.length by omega];exact z2 (by omega)
  ·exact h.elim
 ·exact h.elim
def V5 (cs:List AV):List Nat:=cs.filterMap fun
 | .own o=>some o
 | _=>none
def F7 (q k:Nat) (st:dX):T dX:=match rowAt st.heap q k with
 | some o=>match st.heap[o]? with
  | some (.zip _ e t tn hJ done cur rest)=>(T.op (un t cur)).bind fun y=>.lf ⟨st.env,st.heap.set o (.zc e t tn hJ (done++[y]) rest)⟩
  | _=>.bad
 | none=>.bad
def Ql (q k:Nat) (st:dX):dX:=match rowAt st.heap q k with
 | some o=>match st.heap[o]? with
  | some (.zip _ _ _ _ _ _ cur _)=>(V5 cur).foldl (fun st i=>S5 i st) st
  | _=>st
 | none=>st
def Ee (q k:Nat) (st:dX):T dX:=F7 q k (Ql q k st)
theorem IK {q k:Nat} {dA:dX} (h:(Ee q k st).hit dA) (cj:fx m cx st a w):fx m cx dA a w:=by
 have hf:fx m cx (Ql q k st) a w:=by
  unfold Ql;split
  ·split
   ·rename_i cur _ _;have:∀(l:List Nat) (st:dX),fx m cx st a w→fx m cx (l.foldl (fun st i=>S5 i st) st) a w:=by
     intro l;induction l with
     | nil=>intro st h;exact h
     | cons i l ih=>intro st h;exact ih _ (wB h)
    exact this _ _ cj
   ·exact cj
  ·exact cj
 unfold Ee at h;generalize Ql q k st=st1 at h hf;unfold F7 at h;split at h
 ·rename_i o _;split at h
  ·rename_i o2 e t tn hJ done cur rest hH;obtain⟨y,h1,h2⟩:=T.hit_bind h;obtain rfl:=h2;have hy:=T.hit_op h1;obtain⟨bs,S,hs,he⟩:=hf;have xF:o<bs.length:=by rw[hs.len];exact(aab.1 hH).1
   have hv:=aac xF;obtain⟨bN,ho,hz,_⟩:=hs.o o _ _ hH hv;refine⟨bs,S,hs.alt hH hv ⟨bN,ho,hz.1,fun j r hr=>?_⟩,he⟩;obtain⟨z1,z2,z3⟩:=hz.2 j r hr;refine⟨fun x hx=>?_,fun hl=>?_⟩
   ·by_cases hj:j<done.length
    ·rw[aaK hj] at hx;exact z1 x hx
    ·have wl:j=done.length:=by have:=(aab.1 hx).1;simp at this;omega
     subst wl;rw[aag (aaW _)] at hx;simp at hx;subst hx;exact lh hy (z2 rfl)
   ·rw[aa8,ab2] at hl ⊢;rw[show j-(done.length+1)=j-done.length-1 by omega];exact z3 (by omega)
  ·exact h.elim
 ·exact h.elim
def Vv (q k:Nat) (st:dX):T dX:=match rowAt st.heap q k with
 | some o=>match st.heap[o]? with
  | some (.zc e t _ hJ done _)=>.nd (hJ=done.length) (.lf ⟨st.env,st.heap.set o (.row t e done.reverse)⟩)
  | _=>.bad
 | none=>.bad
theorem Qm {q k:Nat} {dA:dX} (h:(Vv q k st).hit dA) (cj:fx m cx st a w):fx m cx dA a w:=by
 unfold Vv at h;split at h
 ·rename_i o _;split at h
  ·rename_i e t tn hJ done rest hH;obtain⟨hlt,h⟩:=h;obtain rfl:=h;obtain⟨bs,S,hs,he⟩:=cj;have xF:o<bs.length:=by rw[hs.len];exact(aab.1 hH).1
   have hv:=aac xF;obtain⟨bN,ho,hz⟩:=hs.o o _ _ hH hv;refine⟨bs,S,hs.alt hH hv ?_,he⟩;show Own (α:=El t) w S 0 e _ done.reverse.reverse;rw[aal];exact QW ho (hz.1.trans hlt) fun j r x hr hx=>(hz.2 j r hr).1 x hx
  ·exact h.elim
 ·exact h.elim
end
def aca (q k:Nat) (e:TypeId):AW:=⟨Ld q k e,fun _ _ _ _ _ _=>Lc⟩
def Ow (q k:Nat) (t tn:Ty):AW:=⟨Ef q k t tn,fun _ _ _ _ _ _=>IL⟩
def U4 (q k:Nat):AW:=⟨Lg q k,fun _ _ _ _ _ _=>Le⟩
def oa (q k:Nat):AW:=⟨Ee q k,fun _ _ _ _ _ _=>IK⟩
def acd (q k:Nat):AW:=⟨Vv q k,fun _ _ _ _ _ _=>Qm⟩
def hkT (l:List (Nat×AW)) (id:Nat) (st:dX):T dX:=match l.lookup id with
 | some h=>h.f st
 | none=>.lf st
theorem NW {m:Nat} {cx:Cx} {l:List (Nat×AW)} {id:Nat} {st dA:dX} {a:Act} {w:World} (h:(hkT l id st).hit dA) (cj:fx m cx st a w):fx m cx dA a w:=by
 unfold hkT at h;split at h
 ·exact AW.ok _ m cx st dA a w h cj
 ·obtain rfl:=h;exact cj
def Am {P:Program} {m:Nat} (R:Rg P m) (pre post:List (Nat×AW)):Rg P m:={ R with
 reg:=fun id ops dr st=>(hkT pre id st).bind fun st=>(R.reg id ops dr st).bind fun st=>hkT post id st
 ok:=fun id ops dr cx st dA a w Q h hs hQ=>by
  obtain⟨s1,h1,h2⟩:=T.hit_bind h;obtain⟨s2,h3,h4⟩:=T.hit_bind h2;exact R.ok id ops dr cx s1 s2 a w Q h3 (NW h1 hs) fun a' w' h'=>hQ a' w' (NW h4 h') }
end Go.Proofs.YtjlhbfbdcfajfaaGreatDoor
