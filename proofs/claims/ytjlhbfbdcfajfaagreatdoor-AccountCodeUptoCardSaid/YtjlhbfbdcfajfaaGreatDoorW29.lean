/- MDrd MFrz MHook -/
import Derived.Test.YtjlhbfbdcfajfaaGreatDoorW00
import Derived.Test.YtjlhbfbdcfajfaaGreatDoorW28
set_option maxHeartbeats 8000000
set_option maxRecDepth 100000
namespace Go.Proofs.YtjlhbfbdcfajfaaGreatDoor
open Go Go.RowKit
structure Dl where
 x:XV
 nw:Option aj
 ch:List (Nat×aj)
def ft:List (Nat×aj)→Nat→Option aj
 | [],_=>none
 | p::l,o=>match ft l o with
  | some y=>some y
  | none=>if p.1=o then some p.2 else none
def oJ (N0:Nat) (rs:List Dl) (j o:Nat):Option aj:=match rs[j]? with
 | some r=>if o=N0+j then some (r.nw.getD .dead) else ft r.ch o
 | none=>none
def fD (N0:Nat) (rs:List Dl) (d:Nat→Bool) (x0:aj) (o:Nat) (n:Nat):aj:=(List.range n).foldl (fun x j=>if d j then(oJ N0 rs j o).getD x else x) x0
section
variable {N0 o:Nat} {rs:List Dl} {d d':Nat→Bool} {x0:aj}
theorem lw {n:Nat}:fD N0 rs d x0 o (n+1)=if d n then(oJ N0 rs n o).getD (fD N0 rs d x0 o n) else fD N0 rs d x0 o n:=by
 unfold fD;rw[List.range_succ,List.foldl_append];rfl
theorem oG:∀{n:Nat},(∀j,j<n→d j=d' j∨oJ N0 rs j o=none)→fD N0 rs d x0 o n=fD N0 rs d' x0 o n
 | 0,_=>rfl
 | n+1,h=>by
  rw[lw,lw,oG (n:=n) fun j hj=>h j (by omega)];rcases h n (by omega) with e|e
  ·rw[e]
  ·rw[e];simp
theorem Qt {i:Nat} (hd:d i=false):∀{n:Nat},i<n→(∀j,i<j→j<n→d j=true→oJ N0 rs j o=none∨oJ N0 rs i o=none)→fD N0 rs (kw d i) x0 o n=(oJ N0 rs i o).getD (fD N0 rs d x0 o n)
 | n+1,hi,h=>by
  rw[lw,lw];by_cases e:i=n
  ·subst e;rw[gN,if_pos rfl,hd,oG (d':=d) fun j hj=>.inl (bM d (by omega))];simp
  ·rw[bM d (aca e),Qt hd (n:=n) (by omega) fun j h1 h2 h3=>h j h1 (by omega) h3];cases hn:d n with
   | false=>simp
   | true=>
    rcases h n (by omega) (by omega) hn with q|q
    ·rw[q];simp
    ·rw[q];simp
end
theorem Nh {P:Program} {Hv Hf:List aj} {t:TypeId} {x y:Option XV} {p:Nat×aj} (hv:yb Hv Hf) (h:AO P Hv t x y=some p):AO P Hf t x y=some p:=by
 unfold AO at h ⊢;split at h
 ·split at h
  ·rename_i hH;rcases hv.2 _ _ hH with e|e
   ·cases e
   ·simp only[*]
  ·cases h
 ·split at h
  ·rename_i hH;rcases hv.2 _ _ hH with e|e
   ·cases e
   ·simp only[*]
  ·cases h
 ·split at h
  ·rename_i hH;rcases hv.2 _ _ hH with e|e
   ·cases e
   ·simp only[*]
  ·cases h
 ·cases h
def apK (H:List aj) (x:Option XV):List (Nat×aj):=match x with
 | some (.one (.own ob))=>[(ob,.dead)]
 | some (.one (.mrow q kt k))=>match H[q]? with
  | some (.mr p ll t e' n f)=>match Kt.eq? kt ll with
   | some h=>[(q,.mx p ll t e' n f (h.down▸k))]
   | none=>[]
  | _=>[]
 | _=>[]
theorem VM {ty:TypeId→Option Ty} {Hv Hf H':List aj} {e:TypeId} {x:Option XV} {q:(y:Ty)×List (El y)} (hv:yb Hv Hf) (h:apS ty Hv e x=some (H',q)):apS ty Hf e x=some (jo (apK Hv x) Hf,q):=by
 unfold apS at h ⊢;split at h
 ·split at h
  ·rename_i ob _ y e' rs hH;rcases hv.2 _ _ hH with e2|e2
   ·cases e2
   ·split at h
    ·rename_i he;injection h with h
     injection h with h1 h2
     subst h2;simp only[e2,he,if_true];rfl
    ·cases h
  ·cases h
 ·cases hte:ty e with
  | none=>rw[hte] at h;cases h
  | some y=>
   rw[hte] at h;injection h with h
   injection h with h1 h2
   subst h2;rfl
 ·rename_i q kt k;split at h
  ·rename_i p ll t e' n f hH;rcases hv.2 _ _ hH with e2|e2
   ·cases e2
   ·split at h
    ·rename_i hk eX;split at h
     ·rename_i he;injection h with h
      injection h with h1 h2
      subst h2;subst he;simp only[e2,eX,if_true];simp only[apK,hH,eX];rfl
     ·cases h
    ·cases h
  ·cases h
 ·cases h
theorem VL {Hv Hf:List aj} {y:Ty} {x:Option XV} {ys:List (El y)} (hv:yb Hv Hf) (h:apY Hv y x=some ys):apY Hf y x=some ys:=by
 unfold apY at h ⊢;split at h
 ·split at h
  ·rename_i hH;rcases hv.2 _ _ hH with e2|e2
   ·cases e2
   ·simp only[e2];exact h
  ·cases h
 ·exact h
 ·cases h
theorem Ru {P:Program} {ty:TypeId→Option Ty} {Hv Hf:List aj} {t:TypeId} {s x:Option XV} {r:List aj×(y:Ty)×TypeId×List (El y)} (hv:yb Hv Hf) (h:(Hc P ty Hv t s x).hit r):(Hc P ty Hf t s x).hit (jo (apK Hv s) Hf,r.2):=by
 unfold Hc at h ⊢;cases fU:slI P t with
 | none=>rw[fU] at h;exact h.elim
 | some q=>
  obtain⟨e,sz,bytes⟩:=q;rw[fU] at h;simp only at h ⊢;cases hs:apS ty Hv e s with
  | none=>rw[hs] at h;exact h.elim
  | some q=>
   obtain⟨H',y,rs⟩:=q;rw[hs] at h;rw[VM hv hs];simp only at h ⊢;cases hy:apY Hv y x with
   | none=>rw[hy] at h;exact h.elim
   | some ys=>
    rw[hy] at h;rw[VL hv hy];simp only at h ⊢;split at h
    ·rename_i jN;rw[if_pos jN];obtain⟨h1,h2⟩:=h;exact⟨h1,by obtain rfl:=h2;rfl⟩
    ·exact h.elim
def Wp (cs:List AV):List Nat:=cs.filterMap nl
def MN (H:List aj):XV→XV
 | .one a=>.one (CE H a)
 | .agg cs=>.agg (cs.map (CE H))
 | x=>x
def zf (xs:List XV):List Nat:=xs.flatMap fun
 | .one a=>Wp [a]
 | .agg cs=>Wp cs
 | .tup _=>[]
def dop {P:Program} (C:hZ P) (cX:Nat) (env:Env) (H:List aj) (o:Oper):T Dl:=match o.op with
 | .store t x y=>match o.dst with
  | none=>T.op ((AO P H t (ev env x) (ev env y)).map fun p=>⟨.tup [],none,[p]⟩)
  | some _=>.bad
 | .call { callee:=.builtin .append,args:=args,argTypes:=ts }=>match args.toList,ts.toList with
  | [s,x],[t,t']=>if t=t' then(Hc P C.ty H t (ev env s) (ev env x)).bind fun r=>.lf ⟨.one (.own cX),some (.row r.2.1 r.2.2.1 r.2.2.2),apK H (ev env s)⟩ else .bad
  | _,_=>.bad
 | .mapUpdate t x k v=>match o.dst with
  | none=>(YJ P C.ty cX H t (ev env x) (ev env k) (ev env v)).bind fun r=>.lf ⟨.tup [],r.2,r.1⟩
  | some _=>.bad
 | .buildSlice t n ps=>match lH env ps.toList with
  | some l=>(T.op (Kp P C.ty cX t n (some (Wg H l)))).bind fun r=>.lf ⟨r.1,r.2,mi (wB l)⟩
  | none=>.bad
 | .call { callee:=.value (.func f),args:=args,argTypes:=_ }=>if C.eff o then(C.d o env H).bind fun r=>.lf ⟨r.1,none,r.2⟩ else(match lz env args.toList with
  | some xs=>if xs.any Tw&&(C.D.find? fun s=>s.f==f).any Sm.al then(Yr C.ty C.D (H.map fun _=>aj.dead) f (some (xs.map (MN H)))).bind fun x=>.lf ⟨x,none,mi (zf xs)⟩ else(Xe C.ty C.D cX env H o).bind fun r=>.lf ⟨r.1,r.2,[]⟩
  | none=>.bad)
 | _=>if C.eff o then(C.d o env H).bind fun r=>.lf ⟨r.1,none,r.2⟩ else(Xe C.ty C.D cX env H o).bind fun r=>.lf ⟨r.1,r.2,[]⟩
theorem Nt {α:Type} {l:List α} {i:Nat} {x:α} (h:l[i]?=some x):l.set i x=l:=by
 refine acl fun j=>?_;by_cases e:i=j
 ·subst e;rw[abt (aad.1 h).1,h]
 ·rw[abj e]
theorem yb.hide {Hv Hf:List aj} (hv:yb Hv Hf) {cx:Cx} {bs:List Value} {w:World} {S:Nat→Prop} (hs:HS cx bs w S Hf):HS cx bs w S Hv:=hs.mask hv.1 hv.2
theorem iF:∀{l l':List (Nat×aj)} {H:List aj},jo (l++l') H=jo l' (jo l H)
 | [],_,_=>rfl
 | _::l,_,_=>iF (l:=l)
theorem gA:∀{l:List (Nat×aj)} {H:List aj},(jo l H).length=H.length
 | [],_=>rfl
 | p::l,H=>by show(jo l (H.set p.1 p.2)).length=_;rw[gA,abF]
theorem lV:∀{l:List (Nat×aj)} {H:List aj} {o:Nat} {y:aj},H[o]?=some y→(jo l H)[o]?=some ((ft l o).getD y)
 | [],_,_,_,h=>h
 | p::l,H,o,y,h=>by
  show(jo l (H.set p.1 p.2))[o]?=_;by_cases e:p.1=o
  ·subst e;rw[lV (l:=l) (abt (aad.1 h).1)];show _=some (Option.getD (match ft l p.1 with|some y=>some y|none=>if p.1=p.1 then some p.2 else none) y);cases ft l p.1<;>simp
  ·rw[lV (l:=l) (by rw[abj e];exact h)];show _=some (Option.getD (match ft l o with|some y=>some y|none=>if p.1=o then some p.2 else none) y);cases ft l o<;>simp[e]
theorem xf {k:Nat} {x:aj}:∀{l:List (Nat×aj)} {o:Nat},ft (l++[(k,x)]) o=if k=o then some x else ft l o
 | [],o=>by show(match (none:Option aj) with|some y=>some y|none=>if k=o then some x else none)=_;rfl
 | p::l,o=>by
  show(match ft (l++[(k,x)]) o with|some y=>some y|none=>if p.1=o then some p.2 else none)=if k=o then some x else(match ft l o with|some y=>some y|none=>if p.1=o then some p.2 else none)
  rw[xf (l:=l)];by_cases e:k=o
  ·rw[if_pos e,if_pos e]
  ·rw[if_neg e,if_neg e]
theorem zB {x:aj}:∀{l:List (Nat×aj)} {o:Nat},ft l o=some x→∃p∈l,p.1=o
 | p::l,o,h=>by
  have h:(match ft l o with|some y=>some y|none=>if p.1=o then some p.2 else none)=some x:=h;cases e:ft l o with
  | some y=>obtain⟨q,h1,h2⟩:=zB e;exact⟨q,abr _ h1,h2⟩
  | none=>
   rw[e] at h;simp only at h;split at h
   ·rename_i h1;exact⟨p,abh,h1⟩
   ·cases h
theorem CP {H:List aj} {i:Nat} (h:∀x,H[i]?=some x→x=.dead):H.set i .dead=H:=by
 refine acl fun j=>?_;by_cases e:i=j
 ·subst e;cases hx:H[i]? with
  | none=>rw[abE (by rw[abF];exact List.getElem?_eq_none_iff.1 hx)]
  | some x=>rw[abt (aad.1 hx).1,h x hx]
 ·rw[abj e]
theorem UY {P:Program} {o:Oper} {cx:Cx} {bs:List Value} {w:World} {S:Nat→Prop} {Hf:List aj} {cX:Nat} {a:Act} {q:XV×Option aj} {K:Act→World→Prop} {Q:Exit→Act→World→Prop} (hs:HS cx bs w S Hf) (hn:Hf[cX]?=some .dead) (hb:bs[cX]?=some undef) (h:jS P o bs w S a cX q) (hK:∀v w' bn S',HS cx bn w' S' (Hf.set cX (q.2.getD .dead))→(∀b,S b→S' b)→aA S w w'→jD bs bn→(∀j,j≠cX→bn[j]?=bs[j]?)→(o.dst.isSome=true→XR bn w' S' q.1 v)→K (a.put o.dst v) w'):o.wp P a w K Q:=by
 refine h _ _ fun v w' S' u ym hS vn hx hf=>?_;have fV:=hs.grow ym hS vn;have bX:aA S w w':=(aA.of_below ym).sub fun b q=>(hs.s b q).1;cases hq:q.2 with
 | none=>
  refine hK v w' bs S' ?_ hS bX (jD.refl _) (fun _ _=>rfl) fun _=>(hx bs (jD.refl _) (by rw[hq];intro h;cases h)).1;rw[hq];show HS cx bs w' S' (Hf.set cX .dead);rw[CP fun x hx=>by rw[hn] at hx;exact(aaZ hx).symm];exact fV
 | some x=>
  have xx:jD bs (bs.set cX u):=fun i z hz iP=>by
   rw[abj (fun e=>by subst e;rw[hb] at hz;obtain rfl:=aaZ hz;cases iP)];exact hz
  obtain⟨Uy,Cp⟩:=hx (bs.set cX u) xx (fun _=>abt (aad.1 hb).1);refine hK v w' (bs.set cX u) S' ?_ hS bX xx (fun j hj=>abj (aca hj)) fun _=>Uy;rw[hq];refine fV.fill hn hb rfl (Cp x hq) fun b gz=>⟨.inl (abk hs.size (hf x hq b gz).1),(hf x hq b gz).2,fun i z p hz hp e=>?_⟩;have:=(hs.o i z p hz hp).lt e;have:=(hf x hq b gz).1;omega
theorem qy {o:Nat}:∀os:List Nat,ft (mi os) o=none∨ft (mi os) o=some .dead
 | []=>.inl rfl
 | i::os=>by
  show(match ft (mi os) o with|some y=>some y|none=>if i=o then some aj.dead else none)=none∨_=some aj.dead;rcases qy (o:=o) os with e|e
  ·by_cases h:i=o
   ·exact .inr (by show(match ft (mi os) o with|some y=>some y|none=>if i=o then some aj.dead else none)=_;rw[e];simp[h])
   ·exact .inl (by rw[e];simp[h])
  ·exact .inr (by show(match ft (mi os) o with|some y=>some y|none=>if i=o then some aj.dead else none)=_;rw[e])
theorem vL {bs:List Value} {w:World} {S S':Nat→Prop} {Hv Hf:List aj} {os:List Nat} (hv:yb Hv Hf) (hS:∀b,S b→S' b) (hk:∀o∈os,∀(y:aj) (x:AV) (v:Value),Hf[o]?=some y→ku y=some x→bs[o]?=some v→VR bs w S' x v) {x:AV} {v:Value} (hx:∀o,nl x=some o→o∈os) (h:VR bs w S x v):VR bs w S' (CE Hv x) v:=by
 have up:VR bs w S' x v:=h.keep hS (aA.refl _ _) (jD.refl _);unfold CE;split
 ·rename_i o ho;cases e:Hv[o]? with
  | none=>exact up
  | some y=>
   show VR bs w S' ((ku y).getD x) v;cases e2:ku y with
   | none=>exact up
   | some z=>
    rcases hv.2 _ _ e with e3|e3
    ·subst e3;cases e2
    ·exact hk o (hx o ho) y z v e3 e2 (wE h ho)
 ·exact up
theorem MO {bs:List Value} {w:World} {S S':Nat→Prop} {Hv Hf:List aj} {os:List Nat} (hv:yb Hv Hf) (hS:∀b,S b→S' b) (hk:∀o∈os,∀(y:aj) (x:AV) (v:Value),Hf[o]?=some y→ku y=some x→bs[o]?=some v→VR bs w S' x v) {l:List (Nat×List AV)} {m:List (Nat×Value)} (h:F2 (fun p q=>p.1=q.1∧F2 (VR bs w S) p.2 q.2.cells.toList) l m) (hm:∀p∈l,∀x∈p.2,∀o,nl x=some o→o∈os):F2 (fun p q=>p.1=q.1∧F2 (VR bs w S') p.2 q.2.cells.toList) (Wg Hv l) m:=
 h.mapL fun p hp _ hr=>⟨hr.1,hr.2.mapL fun x hx _ hvr=>vL hv hS hk (hm p hp x hx) hvr⟩
theorem KN {l:List (Nat×List AV)}:∀p∈l,∀x∈p.2,∀o,nl x=some o→o∈wB l:=fun p hp x hx _ e=>List.mem_flatMap.2 ⟨p,hp,adG.2 ⟨x,hx,e⟩⟩
theorem J4 {bs:List Value} {w:World} {S S':Nat→Prop} {Hv Hf:List aj} {os:List Nat} (hv:yb Hv Hf) (hS:∀b,S b→S' b) (hk:∀o∈os,∀(y:aj) (x:AV) (v:Value),Hf[o]?=some y→ku y=some x→bs[o]?=some v→VR bs w S' x v) {l:List XV} {m:List Value} (h:F2 (XR bs w S) l m) (hm:∀x∈l,∀a o,(x=.one a∨∃cs,x=.agg cs∧a∈cs)→nl a=some o→o∈os):F2 (XR bs w S') (l.map (MN Hv)) m:=by
 refine h.mapL fun x hx v hvr=>?_;cases x with
 | one a=>exact vL hv hS hk (fun o e=>hm _ hx a o (.inl rfl) e) hvr
 | agg cs=>
  obtain⟨vs,e,hf⟩:=hvr;exact⟨vs,e,hf.mapL fun y hy u hu=>vL hv hS hk (fun o e2=>hm _ hx y o (.inr ⟨cs,rfl,hy⟩) e2) hu⟩
 | tup l=>exact XR.keep hvr hS (aA.refl _ _) (jD.refl _)
theorem KM {l:List XV}:∀x∈l,∀a o,(x=.one a∨∃cs,x=.agg cs∧a∈cs)→nl a=some o→o∈zf l:=by
 intro x hx a o h e;refine List.mem_flatMap.2 ⟨x,hx,?_⟩;rcases h with rfl|⟨cs,rfl,h⟩
 ·exact adG.2 ⟨a,ab7.2 rfl,e⟩
 ·exact adG.2 ⟨a,h,e⟩
theorem mL {Hv Hf:List aj} (hv:yb Hv Hf) {i:Nat} {y:aj} (h:Hv[i]?=some y) (hy:y≠.dead):Hf[i]?=some y:=(hv.2 _ _ h).elim (fun e=>absurd e hy) id
theorem TL {P:Program} {ty:TypeId→Option Ty} {cX:Nat} {Hv Hf:List aj} {t:TypeId} {m x v:Option XV} {r:List (Nat×aj)×Option aj} (hv:yb Hv Hf) (h:(YJ P ty cX Hv t m x v).hit r):(YJ P ty cX Hf t m x v).hit r:=by
 unfold YJ at h ⊢;split at h
 ·split at h
  ·rename_i hk hH;simp only[hk,mL hv hH (fun e=>by cases e)];exact h
  ·rename_i hk hH;simp only[hk,mL hv hH (fun e=>by cases e)];split at h
   ·rename_i hQ;simp only[mL hv hQ (fun e=>by cases e)];split at h
    ·rename_i hR;simp only[mL hv hR (fun e=>by cases e)];exact h
    ·exact h.elim
   ·exact h.elim
  ·exact h.elim
 ·exact h.elim
theorem aaB {P:Program} {C:hZ P} {o:Oper} {cx:Cx} {bs:List Value} {w:World} {S:Nat→Prop} {Hv Hf:List aj} {m cX:Nat} {env:Env} {a:Act} {r:Dl} {K:Act→World→Prop} {Q:Exit→Act→World→Prop} (hv:yb Hv Hf) (hs:HS cx bs w S Hf) (he:ER m bs w S env a) (hn:Hf[cX]?=some .dead) (hb:bs[cX]?=some undef) (h:(dop C cX env Hv o).hit r) (hK:∀v w' bn S',HS cx bn w' S' (jo (r.ch++[(cX,r.nw.getD .dead)]) Hf)→(∀b,S b→S' b)→aA S w w'→jD bs bn→(∀j,j≠cX→bn[j]?=bs[j]?)→(o.dst.isSome=true→XR bn w' S' r.x v)→K (a.put o.dst v) w'):o.wp P a w K Q:=by
 unfold dop at h;split at h
 ·rename_i t x y hop;split at h
  ·rename_i xu;have h:=T.hit_op h;cases hp:AO P Hv t (ev env x) (ev env y) with
   | none=>rw[hp] at h;cases h
   | some p=>
    rw[hp] at h;obtain rfl:=aaZ h;refine Ib hs he hop xu (Nh hv hp) fun w' q1 q2=>?_;have:=hK undef w' bs S (q1.mask (by show((Hf.set p.1 p.2).set cX .dead).length=_;rw[abF]) fun i x hx=>by
     have hx:((Hf.set p.1 p.2).set cX .dead)[i]?=some x:=hx;by_cases e:cX=i
     ·subst e;rw[abt (by rw[abF];exact(aad.1 hn).1)] at hx;exact .inl (aaZ hx).symm
     ·rw[abj e] at hx;exact .inr hx) (fun _ h=>h) q2 (jD.refl _) (fun _ _=>rfl) (fun e=>by rw[xu] at e;cases e)
    rw[xu] at this;exact this
  ·exact h.elim
 ·rename_i args ts hop;split at h
  ·rename_i s x t t' ha ht;split at h
   ·rename_i e;subst e;obtain⟨q,h1,h2⟩:=T.hit_bind h;obtain rfl:(⟨.one (.own cX),some (.row q.2.1 q.2.2.1 q.2.2.2),apK Hv (ev env s)⟩:Dl)=r:=h2;have ha':args=#[s,x]:=by rw[←abT (xs:=args),ha]
    have UC:ts=#[t,t]:=by rw[←abT (xs:=ts),ht]
    rw[ha',UC] at hop;refine JK hs he hop (Ru hv h1) fun v w' cI hHl UO bX ig cj=>?_;have hj:(jo (apK Hv (ev env s)) Hf)[cX]?=some .dead:=by
     exact UO cX hn
    have j4:=cI.fill (x:=.row q.2.1 q.2.2.1 q.2.2.2) (v:=v) hj hb rfl ig cj;obtain⟨A',n',c',Pj,_⟩:=ig.slice;refine hK v w' (bs.set cX v) S (by rw[iF];exact j4) (fun _ h=>h) bX (fun i u hu sH=>?_) (fun j hj=>abj (aca hj)) fun _=>⟨abt (aad.1 hb).1,A',n',c',Pj⟩;rw[abj (fun e=>by subst e;rw[hb] at hu;obtain rfl:=aaZ hu;cases sH)];exact hu
   ·exact h.elim
  ·exact h.elim
 ·rename_i t x k v hop;split at h
  ·rename_i xu;obtain⟨q,h1,h2⟩:=T.hit_bind h;obtain rfl:(⟨.tup [],q.2,q.1⟩:Dl)=r:=h2;refine Ow hs he C.isP hop xu hn hb (TL hv h1) fun w' bn q1 q2 q3 q4=>?_;have:=hK undef w' bn S q1 (fun _ h=>h) q2 q3 q4 (fun e=>by rw[xu] at e;cases e);rw[xu] at this;exact this
  ·exact h.elim
 ·rename_i t n ps hop;split at h
  ·rename_i l hp;obtain⟨q,h1,h2⟩:=T.hit_bind h;obtain rfl:(⟨q.1,q.2,mi (wB l)⟩:Dl)=r:=h2;obtain⟨S',k1,k2,k3⟩:=Bv (wB l) hs;have vn:(jo (mi (wB l)) Hf)[cX]?=some .dead:=by
    rw[lV hn];rcases qy (o:=cX) (wB l) with e|e
    ·rw[e];rfl
    ·rw[e];rfl
   have Gu:=MO hv k1 k3 (lY he hp) KN;refine UY k2 vn hb (Ij k2 Gu hop (T.hit_op h1)) fun v w' bn S'' q1 q2 q3 q4 q5 q6=>?_;exact hK v w' bn S'' (by rw[iF];exact q1) (fun b h=>q2 b (k1 b h)) (q3.sub k1) q4 q5 q6
  ·exact h.elim
 ·rename_i f args ts hop;split at h
  ·rename_i PP;obtain⟨q,h1,h2⟩:=T.hit_bind h;obtain rfl:(⟨q.1,none,q.2⟩:Dl)=r:=h2;refine C.dok m o cx bs S env Hv Hf a w q K Q PP hv hs he h1 fun v w' S' q1 q2 q3 q4=>?_;refine hK v w' bs S' ?_ q2 q3 (jD.refl _) (fun _ _=>rfl) fun _=>q4;refine q1.mask (by rw[gA,gA]) fun i x hx=>?_;rw[iF] at hx;have hx:((jo q.2 Hf).set cX .dead)[i]?=some x:=hx;by_cases e:cX=i
   ·subst e;rw[abt (by rw[gA];exact(aad.1 hn).1)] at hx;exact .inl (aaZ hx).symm
   ·rw[abj e] at hx;exact .inr hx
  ·split at h
   ·rename_i xs hx;split at h
    ·obtain⟨q,h1,h2⟩:=T.hit_bind h;obtain rfl:(⟨q,none,mi (zf xs)⟩:Dl)=r:=h2;obtain⟨S',k1,k2,k3⟩:=Bv (zf xs) hs;have vn:(jo (mi (zf xs)) Hf)[cX]?=some .dead:=by
      rw[lV hn];rcases qy (o:=cX) (zf xs) with e|e
      ·rw[e];rfl
      ·rw[e];rfl
     have D9:=J4 hv k1 k3 (kN he hx) KM;have hd:HS cx bs w S' (Hv.map fun _=>aj.dead):=k2.mask (by rw[abU,gA];exact hv.1) fun i x hx=>by
      rw[acn] at hx;cases e:Hv[i]? with
      | none=>rw[e] at hx;cases hx
      | some y=>rw[e] at hx;exact .inl (aaZ hx).symm
     refine UY k2 vn hb (Bf (cap:=#[]) hd (fun ys hy=>by obtain rfl:=aaZ hy;rw[Array.toList_empty,abZ];exact D9) rfl hop h1) fun v w' bn S'' q1 q2 q3 q4 q5 q6=>?_;exact hK v w' bn S'' (by rw[iF];exact q1) (fun b h=>q2 b (k1 b h)) (q3.sub k1) q4 q5 q6
    ·obtain⟨q,h1,h2⟩:=T.hit_bind h;obtain rfl:(⟨q.1,q.2,[]⟩:Dl)=r:=h2;exact UY hs hn hb (BM C.isP (hv.hide hs) he h1) hK
   ·exact h.elim
 ·split at h
  ·rename_i PP;obtain⟨q,h1,h2⟩:=T.hit_bind h;obtain rfl:(⟨q.1,none,q.2⟩:Dl)=r:=h2;refine C.dok m o cx bs S env Hv Hf a w q K Q PP hv hs he h1 fun v w' S' q1 q2 q3 q4=>?_;refine hK v w' bs S' ?_ q2 q3 (jD.refl _) (fun _ _=>rfl) fun _=>q4;refine q1.mask (by rw[gA,gA]) fun i x hx=>?_;rw[iF] at hx;have hx:((jo q.2 Hf).set cX .dead)[i]?=some x:=hx;by_cases e:cX=i
   ·subst e;rw[abt (by rw[gA];exact(aad.1 hn).1)] at hx;exact .inl (aaZ hx).symm
   ·rw[abj e] at hx;exact .inr hx
  ·obtain⟨q,h1,h2⟩:=T.hit_bind h;obtain rfl:(⟨q.1,q.2,[]⟩:Dl)=r:=h2;exact UY hs hn hb (BM C.isP (hv.hide hs) he h1) hK
theorem Qu {N0 o:Nat} {rs:List Dl} {d:Nat→Bool} {x0:aj} {i:Nat}:∀{n:Nat},i≤n→(∀j,i≤j→j<n→d j=false)→fD N0 rs d x0 o n=fD N0 rs d x0 o i
 | 0,h,_=>by
  obtain rfl:i=0:=by omega
  rfl
 | n+1,h,hd=>by
  by_cases e:i=n+1
  ·rw[e]
  ·rw[lw,hd n (by omega) (by omega),Qu (n:=n) (by omega) fun j h1 h2=>hd j h1 (by omega)];simp
theorem Xi {N0 o:Nat} {rs rs':List Dl} {d:Nat→Bool} {x0:aj}:∀{n:Nat},(∀j,j<n→rs[j]?=rs'[j]?)→fD N0 rs d x0 o n=fD N0 rs' d x0 o n
 | 0,_=>rfl
 | n+1,h=>by
  rw[lw,lw,Xi (n:=n) fun j hj=>h j (by omega)];have:oJ N0 rs n o=oJ N0 rs' n o:=by unfold oJ;rw[h n (by omega)]
  rw[this]
theorem BR {N0 o:Nat} {rs:List Dl} {x0:aj}:∀{n:Nat},fD N0 rs (fun _=>false) x0 o n=x0
 | 0=>rfl
 | n+1=>by rw[lw,BR (n:=n)];simp
def lG (rs:List Dl):Rs:=rs.map fun r=>some (r.x,r.nw)
def js (H0:List aj) (n:Nat) (rs:List Dl) (d:Nat→Bool):List aj:=(List.range (H0.length+n)).map fun o=>fD H0.length rs d (H0.getD o .dead) o n
def CQ (H0:List aj) (n:Nat) (rs:List Dl) (yW hid:Nat→Bool):List aj:=(List.range (H0.length+n)).map fun o=>if hid o then .dead else fD H0.length rs yW (H0.getD o .dead) o rs.length
def Lj (N0:Nat) (ms gs:List Nat) (i o:Nat):Bool:=(decide (N0≤o)&&!(selB ms i (o-N0)))||(List.range gs.length).any fun j=>j !=i&&!(selB ms i j)&&!(selB ms j i)&&(gs.getD j 0).testBit o
def gsB (N0 n:Nat) (ms gs:List Nat):Bool:=gs.length==n&&(List.range n).all fun i=>(List.range (N0+n)).all fun o=>!((gs.getD i 0).testBit o)||((decide (o<N0)||selB ms i (o-N0))&&(List.range i).all fun j=>selB ms i j||!((gs.getD j 0).testBit o))
def chB (gs:List Nat) (i k:Nat) (r:Dl):Bool:=r.ch.all fun p=>decide (p.1<k)&&(gs.getD i 0).testBit p.1
def skD:Dl:=⟨.tup [],none,[]⟩
def bD (b:Bool):Dl:=⟨.one (.val (.bool b)),none,[]⟩
def pQ {P:Program} (C:hZ P) (ops:Array Oper) (n:Nat) (ms gs:List Nat) (chk:Bool) (dN:Env) (H0:List aj):List Oper→List Dl→T (List Dl)
 | [],rs=>.lf rs
 | o::l,rs=>match Sr ops rs.length o (lG rs) with
  | some false=>pQ C ops n ms gs chk dN H0 l (rs++[skD])
  | some true=>(dop C (H0.length+rs.length) (mz ops (Us ops n ms rs.length) dN (selB ms rs.length) (lG rs)) (CQ H0 n rs (selB ms rs.length) (Lj H0.length ms gs rs.length)) o).bind fun r=>
   if !chk||chB gs rs.length (H0.length+n) r then(match adX ops rs.length,r with
    | true,⟨.one (.sym (.bool b)),none,[]⟩=>.br b (pQ C ops n ms gs chk dN H0 l (rs++[bD true])) (pQ C ops n ms gs chk dN H0 l (rs++[bD false]))
    | _,r=>pQ C ops n ms gs chk dN H0 l (rs++[r])) else .bad
  | none=>.bad
def T.lvs {α:Type}:T α→List α
 | .lf a=>[a]
 | .br _ x y=>x.lvs++y.lvs
 | .nd _ t=>t.lvs
 | .bad=>[]
def adE (r:Dl):Nat:=r.ch.foldl (fun s p=>s||| 2^p.1) 0
def afa (n:Nat) (l:List (List Dl)):List Nat:=(List.range n).map fun i=>l.foldl (fun s rs=>s||| (match rs[i]? with
 | some r=>adE r
 | none=>0)) 0
def xI:List Nat→List Oper→Nat
 | _,[]=>0
 | rd,o::l=>if(match o.dst with|some t=>rd.contains t|none=>false) then 0 else xI (adp o++rd) l+1
def Vi {P:Program} (C:hZ P) (m:Nat) (ops:Array Oper) (n:Nat) (st:ek):T ek:=
 if P.follows .mixedOrders&&nj (n+(ops.size-n)) ops&&xg ops n (n+(ops.size-n))&&Aj ops n m then
  (fun(l:List Oper) (ms:List Nat)=>(fun(gs:List Nat)=>if gsB st.heap.length n ms gs then(pQ C ops n ms gs true st.env st.heap l []).bind fun rs=>
   FT C m ops (ops.toList.drop n) ⟨mz ops (ti ops n) st.env (fun _=>true) (lG rs),js st.heap n rs (fun _=>true)⟩ else .bad) (afa n (pQ C ops n ms [] false st.env st.heap l []).lvs)) (ops.toList.take n) (wT (ops.toList.take n) [])
 else .bad
section
variable {P:Program} {ops:Array Oper} {Q:Exit→Act→World→Prop} {C:hZ P} {n m:Nat} {cx:Cx} {ms gs:List Nat} {dN:Env} {H0:List aj}
def sA (C:hZ P) (ops:Array Oper) (n:Nat) (ms gs:List Nat) (dN:Env) (H0:List aj) (rs:List Dl) (i:Nat):Prop:=
 ∃o r,ops[i]?=some o∧rs[i]?=some r∧((Sr ops i o (lG (rs.take i))=some false∧r=skD)∨
  (Sr ops i o (lG (rs.take i))=some true∧∃r0,(dop C (H0.length+i) (mz ops (Us ops n ms i) dN (selB ms i) (lG (rs.take i))) (CQ H0 n (rs.take i) (selB ms i) (Lj H0.length ms gs i)) o).hit r0∧chB gs i (H0.length+n) r0=true∧(r=r0∨∃b,r0=⟨.one (.sym (.bool b)),none,[]⟩∧r=bD b)))
theorem sA.more {rs:List Dl} {i:Nat} (h:sA C ops n ms gs dN H0 rs i) (hi:i<rs.length) (x:Dl):sA C ops n ms gs dN H0 (rs++[x]) i:=by
 unfold sA at h ⊢;rw[ab4 (by omega),abc hi];exact h
theorem Ec:∀(l:List Oper) (rs rs':List Dl),(pQ C ops n ms gs true dN H0 l rs).hit rs'→(∀(k:Nat) (o:Oper),l[k]?=some o→ops[rs.length+k]?=some o)→(∀i,i<rs.length→sA C ops n ms gs dN H0 rs i)→rs'.length=rs.length+l.length∧∀i,i<rs'.length→sA C ops n ms gs dN H0 rs' i
 | [],rs,rs',h,_,hs=>by have h:rs=rs':=h;subst h;exact⟨rfl,hs⟩
 | o::l,rs,rs',h,hl,hs=>by
  have ho:=hl 0 o rfl;rw[acX] at ho;have next:∀(x:Dl),(pQ C ops n ms gs true dN H0 l (rs++[x])).hit rs'→sA C ops n ms gs dN H0 (rs++[x]) rs.length→rs'.length=rs.length+(o::l).length∧∀i,i<rs'.length→sA C ops n ms gs dN H0 rs' i:=by
   intro x h hx;obtain⟨q1,q2⟩:=Ec l (rs++[x]) rs' h (fun k o' hk=>by
    rw[abm,abp,abJ,ab3,aez (0+1)];exact hl (k+1) o' (by simpa using hk)) fun i hi=>by
     rw[abm,abp,abJ] at hi;by_cases e:i=rs.length
     ·rw[e];exact hx
     ·exact(hs i (by omega)).more (by omega) x
   refine⟨?_,q2⟩;rw[q1,abm,abp,abJ,abp];omega
  have tJ:∀x,(rs++[x]).take rs.length=rs:=fun x=>by rw[ab4 (abi _),List.take_length]
  have gR:∀x,(rs++[x])[rs.length]?=some x:=fun x=>by rw[aa8 (abi _)];simp
  unfold pQ at h;split at h
  ·rename_i hg;exact next _ h ⟨o,_,ho,gR _,.inl ⟨by rw[tJ];exact hg,rfl⟩⟩
  ·rename_i hg;obtain⟨r0,h1,h2⟩:=T.hit_bind h;simp only[Bool.not_true,acp] at h2;split at h2
   ·rename_i Z5;split at h2
    ·rename_i b tL;cases b with
     | true=>exact next _ (h2.1 rfl) ⟨o,_,ho,gR _,.inr ⟨by rw[tJ];exact hg,_,by rw[tJ];exact h1,Z5,.inr ⟨true,rfl,rfl⟩⟩⟩
     | false=>exact next _ (h2.2 rfl) ⟨o,_,ho,gR _,.inr ⟨by rw[tJ];exact hg,_,by rw[tJ];exact h1,Z5,.inr ⟨false,rfl,rfl⟩⟩⟩
    ·exact next _ h2 ⟨o,_,ho,gR _,.inr ⟨by rw[tJ];exact hg,_,by rw[tJ];exact h1,Z5,.inl rfl⟩⟩
   ·exact h2.elim
  ·exact h.elim
theorem mj {rs:List Dl} {d:Nat→Bool}:(js H0 n rs d).length=H0.length+n:=by simp[js]
theorem ml {rs:List Dl} {d:Nat→Bool} {o:Nat} (ho:o<H0.length+n):(js H0 n rs d)[o]?=some (fD H0.length rs d (H0.getD o .dead) o n):=by
 unfold js;rw[acn,adc ho];rfl
theorem Nx {rs:List Dl} {j:Nat} {r:Dl} (h:rs[j]?=some r):(lG rs)[j]?=some (some (r.x,r.nw)):=by
 unfold lG;rw[acn,h];rfl
theorem Ko {rs:List Dl} {i:Nat}:lG (rs.take i)=(lG rs).take i:=by unfold lG;rw[List.map_take]
theorem lW {rs:List Dl}:(lG rs).length=rs.length:=by unfold lG;rw[abU]
def DJ (m:Nat) (cx:Cx) (ops:Array Oper) (n:Nat) (dN:Env) (H0:List aj) (rs:List Dl) (d:Nat→Bool) (a:Act) (w:World):Prop:=
 ∃bs S,HS cx bs w S (js H0 n rs d)∧(∀j,j<n→d j=false→bs[H0.length+j]?=some undef)∧ER m bs w S (mz ops (K7 ops n d) dN d (lG rs)) a
theorem DJ.step {rs:List Dl} (bO:rs.length=n) (_:n≤ops.size) (fa:∀i,i<n→sA C ops n ms gs dN H0 rs i) (hgs:gsB H0.length n ms gs=true) (BF:E5 ops ms) (Sk:ms.length=n) (mn:Aj ops n m=true) (um:∀(i j:Nat),waits ops i j=true→j<i) {Q':Exit→Act→World→Prop} {d:Nat→Bool} {a:Act} {w:World} {i:Nat} (hi:i<n) (h:DJ m cx ops n dN H0 rs d a w) (pC:d i=false) (uY:∀j,n≤j→d j=false) (hc:∀k q,d k=true→waits ops k q=true→d q=true) (hw:∀q,waits ops i q=true→d q=true) : wpOp P ops Q' i (DJ m cx ops n dN H0 rs (kw d i)) a w:=by
 obtain⟨bs,S,hs,hu,he⟩:=h;obtain⟨o,r,ho,hr,PZ⟩:=fa i hi;have ym:bs.length=H0.length+n:=by rw[hs.len,mj]
 have xt:∀t,dI ops i=some t→t<m:=fun t ht=>(m5 mn hi ht).1;have WR:o.dst=dI ops i:=by unfold dI;rw[ho];rfl
 have Wk:∀{j k:Nat},j<n→selB ms j k=true→(∀q,waits ops j q=true→d q=true)→k<j∧d k=true:=by
  intro j k hj hk Sb;unfold selB at hk;rw[aba,decide_eq_true_eq] at hk;refine⟨hk.1,?_⟩;have him:j<ms.length:=by rw[Sk];exact hj
  have xo:=hk.2;rw[aaQ,aac him] at xo;exact BF j _ (aac him) k xo d hc Sb
 have Gq:∀j,selB ms i j=true→j<i∧d j=true:=fun j hj=>Wk hi hj hw;have Jh:∀j,d j=true→j<n:=fun j hj=>by
  rcases Nat.lt_or_ge j n with h|h
  ·exact h
  ·rw[uY j h] at hj;cases hj
 have Zy:∀j,d j=true→selB ms j i=false:=fun j hj=>by
  cases e:selB ms j i with
  | false=>rfl
  | true=>rw[(Wk (Jh j hj) e fun q=>hc j q hj).2] at pC;cases pC
 have ZJ:=hgs;unfold gsB at ZJ;rw[aba,beq_iff_eq] at ZJ;obtain⟨hgl,ZM⟩:=ZJ;have UV:∀{j o:Nat},j<n→o<H0.length+n→(gs.getD j 0).testBit o=true→(o<H0.length∨selB ms j (o-H0.length)=true)∧∀k,k<j→selB ms j k=true∨(gs.getD k 0).testBit o=false:=by
  intro j o hj ho hb;have:=abv.1 (abv.1 ZM j (abG.2 hj)) o (abG.2 ho);rw[hb] at this;simp only[Bool.not_true,acp,aba,ace,decide_eq_true_eq] at this;refine⟨this.1,fun k hk=>?_⟩;have:=abv.1 this.2 k (abG.2 hk);simpa using this
 have Z5:∀{j o:Nat} {q:Dl} {x:aj},j<n→rs[j]?=some q→ft q.ch o=some x→o<H0.length+n∧(gs.getD j 0).testBit o=true:=by
  intro j o q x hj hq hx;obtain⟨p,hp,rfl⟩:=zB hx;obtain⟨o',r',_,j3,P1⟩:=fa j hj;rw[hq] at j3;obtain rfl:=aaZ j3;rcases P1 with⟨_,rfl⟩|⟨_,r0,_,hcb,rfl|⟨b,rfl,rfl⟩⟩
  ·cases hp
  ·have:=abv.1 hcb p hp;simpa using this
  ·cases hp
 have D7:∀{j o:Nat} {x:aj},j<n→oJ H0.length rs j o=some x→o=H0.length+j∨(o<H0.length+n∧(gs.getD j 0).testBit o=true):=by
  intro j o x hj hx;unfold oJ at hx;cases hq:rs[j]? with
  | none=>rw[hq] at hx;cases hx
  | some q=>
   rw[hq] at hx;simp only at hx;split at hx
   ·rename_i e;exact .inl e
   ·exact .inr (Z5 hj hq hx)
 have tK:∀(v:Value) t,dI ops i≠some t→(a.put o.dst v).tmps[t]?=a.tmps[t]?:=by
  intro v t hx;rw[WR];cases e:dI ops i with
  | none=>rfl
  | some q=>
   have fI:q≠t:=fun e2=>hx (by rw[e,e2]);show(a.tmps.setIfInBounds q v)[t]?=_;rw[acT fI]
 have rP:∀v:Value,(a.put o.dst v).tmps.size=m∧(a.put o.dst v).defers=[]:=by
  intro v;cases o.dst with
  | none=>exact⟨he.s,he.d⟩
  | some q=>exact⟨by show(a.tmps.setIfInBounds q v).size=m;rw[Array.size_setIfInBounds];exact he.s,he.d⟩
 have xv:∀t x,(t,x)∈mz ops (K7 ops n (kw d i)) dN (kw d i) (lG rs)→((t,x)∈mz ops (K7 ops n d) dN d (lG rs)∧dI ops i≠some t)∨(dI ops i=some t∧r.x=x):=by
  intro t x hx;rcases jO hx with⟨j,q,hj,fV,ht,hq,hqx⟩|⟨h1,hn⟩
  ·by_cases e:j=i
   ·subst e;rw[Nx hr] at hq;obtain rfl:=aaZ (aaZ hq);exact .inr ⟨ht,hqx⟩
   ·rw[bM d e] at fV;subst hqx;exact .inl ⟨jF hj fV ht hq,fun e2=>Jt mn hi (by rw[lW] at hj;omega) (fun e3=>e e3.symm) t e2 ht⟩
  ·obtain⟨k1,k2⟩:=I2 hi hn pC;exact .inl ⟨my h1 k1,k2⟩
 have D2:∀j,j<i→(lG (rs.take i))[j]?=(lG rs)[j]?:=fun j hj=>by rw[Ko,ab6,if_pos hj]
 have xp:∀{c:Bool},Sr ops i o (lG (rs.take i))=some c→Region.wanted o (yielded ops a.tmps)=c:=by
  intro c hg;unfold Sr at hg;split at hg
  ·rename_i tL;injection hg with hg
   subst hg;simp[Region.wanted,tL]
  ·rename_i j want tL;split at hg
   ·rename_i Sb;have PG:=um i j Sb;rw[D2 j PG] at hg;split at hg
    ·rename_i t b _ ht hr;injection hg with hg
     subst hg;obtain⟨v,hv,hx⟩:=he.k t _ (jF (by rw[lW];omega) (hw j Sb) ht hr);obtain⟨rfl,_⟩:=hx;exact oV tL ht hv
    ·rename_i t _ ht hr;injection hg with hg
     subst hg;obtain⟨v,hv,vs,e1,e2⟩:=he.k t _ (jF (by rw[lW];omega) (hw j Sb) ht hr);cases e2
     exact sR tL ht (by rw[hv,e1];rfl)
    ·cases hg
   ·cases hg
 have aet:(js H0 n rs d)[H0.length+i]?=some .dead:=by
  rw[ml (by omega)];have:fD H0.length rs d (H0.getD (H0.length+i) .dead) (H0.length+i) n=fD H0.length rs (fun _=>false) (H0.getD (H0.length+i) .dead) (H0.length+i) n:=by
   refine oG fun j hj=>?_;cases qC:d j with
   | false=>exact .inl rfl
   | true=>
    right
    cases hx:oJ H0.length rs j (H0.length+i) with
    | none=>rfl
    | some x=>
     rcases D7 hj hx with e|⟨_,e⟩
     ·have:i=j:=by omega
      subst this;rw[pC] at qC;cases qC
     ·rcases(UV hj (by omega) e).1 with q|q
      ·omega
      ·rw[abB,Zy j qC] at q;cases q
  rw[this,BR,aaQ,abE (by omega)];rfl
 have WY:∀q:Dl,q.ch=r.ch→q.nw=r.nw→jo (q.ch++[(H0.length+i,q.nw.getD .dead)]) (js H0 n rs d)=js H0 n rs (kw d i):=by
  intro q e1 e2;rw[e1,e2];refine acl fun k=>?_;by_cases hk:k<H0.length+n
  ·rw[lV (ml hk),ml hk,xf];congr 1
   have hci:oJ H0.length rs i k=if H0.length+i=k then some (r.nw.getD .dead) else ft r.ch k:=by
    unfold oJ;rw[hr];by_cases e:H0.length+i=k
    ·subst e;simp
    ·rw[if_neg e];simp only;rw[if_neg (aca e)]
   rw[←hci];refine(Qt pC hi fun j hj1 xo qC=>?_).symm;cases hx:oJ H0.length rs j k with
   | none=>exact .inl rfl
   | some x=>
    right
    cases hy:oJ H0.length rs i k with
    | none=>rfl
    | some y=>
     exfalso
     have hns:=Zy j qC;rcases D7 xo hx with e|⟨_,e⟩
     ·rcases D7 hi hy with e'|⟨_,e'⟩
      ·omega
      ·rcases(UV hi hk e').1 with q|q
       ·omega
       ·rw[e,abB] at q;have:=(Gq j q).1;omega
     ·rcases D7 hi hy with e'|⟨_,e'⟩
      ·rcases(UV xo hk e).1 with q|q
       ·omega
       ·rw[e',abB,hns] at q;cases q
      ·rcases(UV xo hk e).2 i hj1 with q|q
       ·rw[hns] at q;cases q
       ·rw[e'] at q;cases q
  ·rw[abE (by rw[gA,mj];omega),abE (by rw[mj];omega)]
 rcases PZ with⟨hg,rfl⟩|⟨hg,r0,akD,hcb,UF⟩
 ·
  have DZ:=xp hg;unfold wpOp;rw[ho];simp only[DZ,abx,if_false];have hh:=WY skD rfl rfl;have hh:(js H0 n rs d).set (H0.length+i) .dead=js H0 n rs (kw d i):=hh;rw[CP fun x hx=>by rw[aet] at hx;exact(aaZ hx).symm] at hh;refine⟨bs,S,hh▸hs,fun j hj qC=>hu j hj ?_,(rP undef).2,(rP undef).1,fun t x hx=>?_⟩
  ·by_cases e:j=i
   ·subst e;exact pC
   ·rw[bM d e] at qC;exact qC
  ·rcases xv t x hx with⟨hx,fI⟩|⟨ht,rfl⟩
   ·obtain⟨v,q1,q2⟩:=he.k t x hx;exact⟨v,(tK undef t fI).trans q1,q2⟩
   ·refine⟨undef,?_,[],rfl,.nil⟩;rw[WR,ht];show(a.tmps.setIfInBounds t undef)[t]?=_;exact abP (by rw[he.s];exact xt t ht)
 ·have DZ:=xp hg;have hrc:r0.ch=r.ch∧r0.nw=r.nw:=by
   rcases UF with rfl|⟨b,rfl,rfl⟩<;>exact⟨rfl,rfl⟩
  have ajF:yb (CQ H0 n (rs.take i) (selB ms i) (Lj H0.length ms gs i)) (js H0 n rs d):=by
   refine⟨by rw[mj];simp[CQ],fun k x hx=>?_⟩;unfold CQ at hx;rw[acn] at hx;by_cases hk:k<H0.length+n
   ·rw[adc hk] at hx;have hx:(if Lj H0.length ms gs i k then aj.dead else fD H0.length (rs.take i) (selB ms i) (H0.getD k .dead) k (rs.take i).length)=x:=aaZ hx;cases hh:Lj H0.length ms gs i k with
    | true=>rw[hh] at hx;exact .inl (by simpa using hx.symm)
    | false=>
     right
     rw[hh] at hx;have hx:fD H0.length (rs.take i) (selB ms i) (H0.getD k .dead) k (rs.take i).length=x:=by simpa using hx
     rw[ml hk,←hx];congr 1
     rw[abH,aen (by omega),Xi (rs:=rs.take i) (rs':=rs) (n:=i) fun j hj=>by rw[ab6,if_pos hj]];rw[←Qu (d:=selB ms i) (i:=i) (n:=n) (by omega) fun j h1 h2=>by
      cases e:selB ms i j with
      | false=>rfl
      | true=>have:=(Gq j e).1;omega]
     refine oG fun j hj=>?_;cases qC:d j with
     | false=>
      left
      cases e:selB ms i j with
      | false=>rfl
      | true=>have:=(Gq j e).2;rw[qC] at this;cases this
     | true=>
      cases e:selB ms i j with
      | true=>exact .inl rfl
      | false=>
       right
       have yl:j≠i:=fun e=>by subst e;rw[pC] at qC;cases qC
       unfold Lj at hh;rw[Bool.or_eq_false_iff] at hh;cases hx:oJ H0.length rs j k with
       | none=>rfl
       | some y=>
        exfalso
        rcases D7 hj hx with e2|⟨_,e2⟩
        ·have h1:=hh.1;rw[e2,abB,e] at h1;simp at h1
        ·have:=List.any_eq_false.1 hh.2 j (abG.2 (by omega));rw[e,Zy j qC,e2] at this;simp[yl] at this
   ·rw[abE (by simpa using hk)] at hx;cases hx
  have hem:ER m bs w S (mz ops (Us ops n ms i) dN (selB ms i) (lG (rs.take i))) a:=by
   refine⟨he.d,he.s,fun t x hx=>?_⟩;rcases jO hx with⟨j,q,hj,fV,ht,hq,rfl⟩|⟨h1,hn⟩
   ·obtain⟨q1,q2⟩:=Gq j fV;rw[D2 j q1] at hq;exact he.k t _ (jF (by rw[lW];omega) q2 ht hq)
   ·exact he.k t x (my h1 (WL BF Sk pC hc hn))
  refine vH ho DZ (aaB ajF hs hem aet (hu i hi pC) akD fun v w' bn S' fV hS bX xx hsame hx=>?_);rw[WY r0 hrc.1 hrc.2] at fV;refine⟨bn,S',fV,fun j hj qC=>?_,(rP v).2,(rP v).1,fun t x hxe=>?_⟩
  ·by_cases e:j=i
   ·subst e;rw[gN] at qC;cases qC
   ·rw[bM d e] at qC;rw[hsame _ (by omega)];exact hu j hj qC
  ·rcases xv t x hxe with⟨hxe,fI⟩|⟨ht,rfl⟩
   ·obtain⟨z,q1,q2⟩:=he.k t x hxe;exact⟨z,(tK v t fI).trans q1,q2.keep hS bX xx⟩
   ·refine⟨v,?_,?_⟩
    ·rw[WR,ht];show(a.tmps.setIfInBounds t v)[t]?=_;exact abP (by rw[he.s];exact xt t ht)
    ·have jk:=hx (by rw[WR,ht];rfl);rcases UF with rfl|⟨b,rfl,rfl⟩
     ·exact jk
     ·exact jk
theorem QK {id:Nat} {st dG:ek} {a:Act} {w:World} {n:Nat} (h:(Vi C m ops n st).hit dG) (ct:fK m cx st a w) (hQ:∀a' w',fK m cx dG a' w'→Q .normal a' w'):(Code.region id ops true).wp P Q a w:=by
 unfold Vi at h;split at h
 ·rename_i hc;simp only[aba] at hc;obtain⟨⟨⟨hm,hb⟩,kH⟩,mn⟩:=hc;simp only at h;generalize afa n (pQ C ops n (wT (ops.toList.take n) []) [] false st.env st.heap (ops.toList.take n) []).lvs=gs at h;split at h
  ·rename_i hgs;obtain⟨rs,h1,h2⟩:=T.hit_bind h;have jN:=fO hb;have Gv:n≤ops.size:=by omega
   have Fe:(ops.toList.take n).length=n:=by rw[abH,abC];omega
   have gR:∀(k:Nat) (o:Oper),(ops.toList.take n)[k]?=some o→ops[k]?=some o:=fun k o hk=>by
    rw[ab6] at hk;split at hk
    ·simpa using hk
    ·cases hk
   obtain⟨q1,q2⟩:=Ec _ [] rs h1 (fun k o hk=>by rw[abJ,abQ];exact gR k o hk) fun i hi=>absurd hi (Nat.not_lt_zero _);rw[abJ,abQ,Fe] at q1;have BF:E5 ops (wT (ops.toList.take n) []):=Bn _ [] (fun i s hs=>by cases hs) fun k o hk=>by rw[abJ,abQ];exact gR k o hk
   have Sk:∀(l:List Oper) (fJ:List Nat),(wT l fJ).length=fJ.length+l.length:=by
    intro l;induction l with
    | nil=>intro fJ;rfl
    | cons o l ih=>intro fJ;show(wT l _).length=_;rw[ih,abm,abp,abJ,abp];omega
   have um:∀(i j:Nat),waits ops i j=true→j<i:=by
    intro i j hw;unfold waits at hw;cases ho:ops[i]? with
    | none=>rw[ho] at hw;cases hw
    | some o=>
     rw[ho] at hw;simp only[acB,aby,Array.any_eq_true',aba,beq_iff_eq] at hw;obtain⟨e,he,hbi,rfl⟩:=hw;exact oN hb ho e he hbi
   refine nT n (ops.size-n) (DJ m cx ops n st.env st.heap rs) hm hb kH ?_ (fun Q' d a w i hi hI pC uY hc hw=>DJ.step q1 Gv (fun i hi=>q2 i (by omega)) hgs BF (by rw[Sk,abJ,abQ,Fe]) mn um hi hI pC uY hc hw) fun d a w hI dM=>?_
   ·obtain⟨bs,S,hs,he⟩:=ct;have hd:Below w.heap.size w w.drew:=(Below.refl _ _).drew;have hh0:js st.heap n rs (fun _=>false)=st.heap++List.replicate n .dead:=by
     refine acl fun k=>?_;by_cases hk:k<st.heap.length+n
     ·rw[ml hk,BR];by_cases eX:k<st.heap.length
      ·rw[abc eX,aaQ,aac eX];rfl
      ·rw[aa8 (by omega),acz,if_pos (by omega),aaQ,abE (by omega)];rfl
     ·rw[abE (by rw[mj];omega),abE (by rw[abm,acc];omega)]
    refine⟨bs++List.replicate n undef,S,by rw[hh0];exact(hs.grow hd (fun _ h=>h) fun _ h=>.inl h).pads n,fun j hj _=>?_,he.d,he.s,fun t x hx=>?_⟩
    ·rw[←hs.len,aa8 (by omega),abB,acz,if_pos hj]
    ·rcases jO hx with⟨j,r,_,h,_⟩|⟨h1,_⟩
     ·cases h
     ·obtain⟨v,k1,k2⟩:=he.k t x h1;exact⟨v,k1,k2.keep (fun _ h=>h) (fun _ _=>rfl) fun o u hu _=>by rw[abc (aad.1 hu).1];exact hu⟩
   ·obtain⟨bs,S,hs,_,he⟩:=hI;have nC:fK m cx ⟨mz ops (ti ops n) st.env (fun _=>true) (lG rs),js st.heap n rs (fun _=>true)⟩ a w:=by
     refine⟨bs,S,?_,he.d,he.s,fun t x hx=>he.k t x ?_⟩
     ·have:js st.heap n rs (fun _=>true)=js st.heap n rs d:=by
       unfold js;refine List.map_congr_left fun o _=>oG fun j hj=>.inl ?_;rw[dM j hj]
      show HS cx bs w S (js st.heap n rs (fun _=>true));rw[this];exact hs
     ·rcases jO hx with⟨j,r,hj,_,ht,hr,rfl⟩|⟨k1,k2⟩
      ·rw[lW] at hj;exact jF (by rw[lW];exact hj) (dM j (by omega)) ht hr
      ·exact my k1 (I3 k2)
    have:=vc (C:=C) (Q:=Q) (cx:=cx) (ops.toList.drop n) n rfl h2 nC hQ
    rwa [abW,abC] at this
  ·exact h.elim
 ·exact h.elim
end
def Wv (l:List Oper):Bool:=l.any fun o=>match o.op with
 | .build _ ps=>ps.toList.any fun p=>match p.2 with
  | .tmp t=>l.any fun q=>match q.op with
   | .buildSlice _ _ _=>q.dst==some t
   | _=>false
  | _=>false
 | _=>false
def Wu {P:Program} (C:hZ P) (l:List Oper):Bool:=l.any fun o=>match o.op with
 | .call { callee:=.value (.func f),args:=args, .. }=>(C.D.find? fun s=>s.f==f).any Sm.al&&args.toList.any fun x=>match x with
  | .tmp t=>l.any fun q=>match q.op with
   | .buildSlice _ _ _=>q.dst==some t
   | .makeSlice _ _ _=>q.dst==some t
   | _=>false
  | _=>false
 | _=>false
def aa3 {P:Program} (C:hZ P) (m:Nat) (ops:Array Oper) (st:ek):T ek:=
 if !(Wv ops.toList)&&!(Wu C ops.toList)&&xg ops (Eo C [] ops.toList) (Eo C [] ops.toList+(ops.size-Eo C [] ops.toList)) then Vh C m ops (Eo C [] ops.toList) st
 else if !(Wv ops.toList)&&!(Wu C ops.toList)&&xg ops (xH C ops.toList) (xH C ops.toList+(ops.size-xH C ops.toList)) then Vh C m ops (xH C ops.toList) st
 else if xg ops (xI [] ops.toList) (xI [] ops.toList+(ops.size-xI [] ops.toList)) then Vi C m ops (xI [] ops.toList) st else Vi C m ops ops.size st
def Xs {P:Program} (C:hZ P) (m:Nat) (fn:Func) (pb:List Nat) (vw:Bool) (hv:pb=[]∨vw=false):Rg P m where
 fn:=fn
 pb:=pb
 reg id ops dr st:=if dr then aa3 C m ops st else FT C m ops ops.toList st
 ok id ops dr cx st dG a w Q h hs hQ:=by
  cases dr with
  | true=>
   have h:(aa3 C m ops st).hit dG:=h;unfold aa3 at h;split at h
   ·exact QJ h hs hQ
   ·split at h
    ·exact QJ h hs hQ
    ·split at h
     ·exact QK h hs hQ
     ·exact QK h hs hQ
  | false=>exact Kv h hs hQ
 res:=X7 P fn vw
 resOk cx st a w r nR h hs:=Ti (hv.imp (fun e=>nR.trans e) id) h hs
theorem T.hit_map {α β:Type} {f:α→β} {t:T α} {r:β} (h:(t.bind fun x=>.lf (f x)).hit r):∃q,t.hit q∧f q=r:=T.hit_bind h
def Qn {P:Program} {m:Nat} (R:Rg P m) (tb:List (Nat×List Nat)):Rg P m:={ R with
 reg:=fun id ops dr st=>match tb.lookup id with
  | some l=>(R.reg id ops dr st).bind fun st=>.lf (l.foldl BN st)
  | none=>R.reg id ops dr st
 ok:=fun id ops dr cx st dG a w Q h hs hQ=>by
  revert h
  split
  ·intro h;obtain⟨q,h1,h2⟩:=T.hit_map h;exact R.ok id ops dr cx st q a w Q h1 hs fun a' w' h'=>hQ a' w' (h2▸BP h')
  ·intro h;exact R.ok id ops dr cx st dG a w Q h hs hQ }
structure Ck where
 f:ek→T ek
 ok:∀(m:Nat) (cx:Cx) (st dG:ek) (a:Act) (w:World),(f st).hit dG→fK m cx st a w→fK m cx dG a w
def rowAt (H:List aj) (q k:Nat):Option Nat:=match H[q]? with
 | some (.cells _ cs)=>match cs[k]? with
  | some (.own o)=>some o
  | _=>none
 | _=>none
section
variable {m:Nat} {cx:Cx} {st:ek} {a:Act} {w:World} {S:Nat→Prop}
theorem Tv {α:Type} [aG α] {k B:Nat} {e:TypeId} {v:Value} {xs:List α} (hk:aG.sz α=k) (h:Own w S B e v xs):∃bQ:List (km k),Own w S B e v bQ∧bQ.length=xs.length∧∀(j:Nat) (r:km k) (x:α),bQ[j]?=some r→xs[j]?=some x→aG.rep w S r.cells x:=by
 subst hk;obtain⟨cs,h1,h2,h3⟩:=h;have:∀{cs:List Value} {xs:List α},Flat w S cs xs→∃bQ:List (km (aG.sz α)),Flat w S cs bQ∧bQ.length=xs.length∧∀(j:Nat) (r:km (aG.sz α)) (x:α),bQ[j]?=some r→xs[j]?=some x→aG.rep w S r.cells x:=by
  intro cs xs hf;induction hf with
  | nil=>exact⟨[],.nil,rfl,fun j r x h=>by cases h⟩
  | @snoc cs ds xs x hf hr ih=>
   obtain⟨bQ,q1,q2,q3⟩:=ih;refine⟨bQ++[⟨ds,aG.len hr⟩],.snoc q1 rfl,by simp[q2],fun j r y hj hy=>?_⟩;by_cases ZH:j<bQ.length
   ·rw[abc ZH] at hj;rw[abc (by omega)] at hy;exact q3 j r y hj hy
   ·have xo:j=bQ.length:=by have:=(aad.1 hj).1;simp at this;omega
    subst xo;rw[aa8 (abi _)] at hj;rw[q2,aa8 (abi _)] at hy;simp at hj hy;subst hj hy;exact hr
 obtain⟨bQ,q1,q2,q3⟩:=this h2;exact⟨bQ,⟨cs,by rw[q2];exact h1,q1,h3⟩,q2,q3⟩
theorem Tq {α:Type} [aG α] {B:Nat} {e:TypeId} {v:Value} {xs:List α} {bQ:List (km (aG.sz α))} (h:Own w S B e v bQ) (hl:bQ.length=xs.length) (hr:∀(j:Nat) (r:km (aG.sz α)) (x:α),bQ[j]?=some r→xs[j]?=some x→aG.rep w S r.cells x):Own w S B e v xs:=by
 obtain⟨cs,h1,h2,h3⟩:=h;have:∀{cs:List Value} {bQ:List (km (aG.sz α))},Flat w S cs bQ→∀xs:List α,bQ.length=xs.length→(∀(j:Nat) (r:km (aG.sz α)) (x:α),bQ[j]?=some r→xs[j]?=some x→aG.rep w S r.cells x)→Flat w S cs xs:=by
  intro cs bQ hf;induction hf with
  | nil=>intro xs hl _;rw[abs hl.symm];exact .nil
  | @snoc cs ds bQ r hf hd ih=>
   intro xs hl hr;have fI:xs≠[]:=fun e=>by rw[e] at hl;simp at hl
   have Pf:xs=xs.dropLast++[xs.getLast fI]:=(List.dropLast_concat_getLast fI).symm;have bO:bQ.length=xs.dropLast.length:=by rw[List.length_dropLast];simp at hl;omega
   rw[Pf];have hd:ds=r.cells:=hd;refine .snoc (ih _ bO fun j r' x hj hx=>hr j r' x (by rw[abc (aad.1 hj).1];exact hj) (by rw[Pf,abc (aad.1 hx).1];exact hx)) ?_;rw[hd];exact hr bQ.length r _ (by rw[aa8 (abi _)];simp) (by
    conv=>lhs;rw[Pf]
    rw[bO,aa8 (abi _)];simp)
 exact⟨cs,by rw[←hl];exact h1,this h2 xs hl hr,h3⟩
theorem HS.alt {bs:List Value} {H:List aj} (h:HS cx bs w S H) {i:Nat} {x y:aj} {v:Value} (hx:H[i]?=some x) (hv:bs[i]?=some v) (lP:OR bs w S y v) (hb:∀c,Bk y v c→Bk x v c:=by intro c h;exact h):HS cx bs w S (H.set i y):=
 h.setB hx hv (row:=none) ⟨rfl,rfl,rfl,abi _,fun _ _ _=>rfl⟩ (fun _ e=>by cases e) lP hb
def Fx (q k:Nat) (t tn:Ty) (st:ek):T ek:=match rowAt st.heap q k with
 | some o=>match st.heap[o]? with
  | some (.row MZ e rs)=>match Ty.eq? MZ tn with
   | some h=>if aG.sz (El tn)=aG.sz (El t) then .lf ⟨st.env,st.heap.set o (.zc e t tn rs.length [] (h.down▸rs.reverse))⟩ else .bad
   | none=>.bad
  | _=>.bad
 | none=>.bad
theorem J1 {q k:Nat} {t tn:Ty} {dG:ek} (h:(Fx q k t tn st).hit dG) (ct:fK m cx st a w):fK m cx dG a w:=by
 unfold Fx at h;split at h
 ·rename_i o _;split at h
  ·rename_i MZ e rs hH;split at h
   ·rename_i hq _;obtain⟨hq⟩:=hq;subst hq;split at h
    ·rename_i jN;obtain rfl:=h;obtain⟨bs,S,hs,he⟩:=ct;have yG:o<bs.length:=by rw[hs.len];exact(aad.1 hH).1
     have hv:=aac yG;obtain⟨bQ,r1,r2,r3⟩:=Tv jN (hs.o o _ _ hH hv);refine⟨bs,S,hs.alt hH hv ⟨bQ,r1,by rw[r2,aa9],fun j r hj=>⟨fun x hx=>(by cases hx),fun _=>?_⟩⟩,he⟩;have ZH:j<rs.reverse.length:=by rw[←r2];exact(aad.1 hj).1
     have hx:=aac ZH;have hg:rs.reverse.getD (j-([]:List (El t)).length) (Cw MZ)=rs.reverse[j]:=by
      rw[abJ,Nat.sub_zero,aaQ,hx];rfl
     show aG.rep w S r.cells (rs.reverse.getD (j-([]:List (El t)).length) (Cw MZ));rw[hg];exact r3 j r _ hj hx
    ·exact h.elim
   ·exact h.elim
  ·exact h.elim
 ·exact h.elim
def adF (H:List aj) (q k:Nat):Option Nat:=match H[q]? with
 | some (.cells _ cs)=>match cs[k]? with
  | some (.mp o)=>some o
  | _=>none
 | _=>none
def MB (q k:Nat) (e:TypeId) (st:ek):T ek:=match adF st.heap q k with
 | some o=>match st.heap[o]? with
  | some (.mp kt (.list t) n f)=>.nd (∀k,f k=none) (.lf ⟨st.env,(st.heap.set o (.mq st.heap.length))++[.mr o kt t e n fun _=>none]⟩)
  | _=>.bad
 | none=>.bad
theorem MA {q k:Nat} {e:TypeId} {dG:ek} (h:(MB q k e st).hit dG) (ct:fK m cx st a w):fK m cx dG a w:=by
 unfold MB at h;split at h
 ·rename_i o _;split at h
  ·rename_i kt t n f hH;obtain⟨hf,h⟩:=h;obtain rfl:=h;obtain⟨bs,S,hs,he⟩:=ct;have yG:o<st.heap.length:=(aad.1 hH).1;obtain⟨v,hv⟩:∃v,bs[o]?=some v:=⟨_,aac (by rw[hs.len];exact yG)⟩;obtain⟨b,g,e1,hg,hfg⟩:=hs.o o _ _ hH hv;have hB:Bk (.mp kt (.list t) n f) v b:=by rw[e1];rfl
   have hgn:∀k,g k=none:=fun k=>by have:=hfg k;rw[hf k] at this;exact this
   have s1:=hs.alt hH hv (y:=.mq st.heap.length) ⟨b,e1⟩ (fun _ h=>by cases h);have Ps:=s1.pad;have hl1:(st.heap.set o (.mq st.heap.length)).length=st.heap.length:=abF;have hj:((st.heap.set o (.mq st.heap.length))++[aj.dead])[st.heap.length]?=some .dead:=by rw[aa8 (by rw[hl1];exact abi _),hl1];simp
   have xo:(bs++[undef])[st.heap.length]?=some undef:=by rw[←hs.len,aa8 (abi _)];simp
   have j4:=Ps.fill (x:=.mr o kt t e n fun _=>none) (v:=tV b []) hj xo rfl
    ⟨b,[],g,rfl,by rw[abj (by omega),abc (by rw[hs.len];exact yG),hv,e1],hg,fun k u=>by rw[hgn k];simp,fun k _=>hgn k,(fun k k' u u' c q=>by rw[hgn k] at q;cases q),fun k u q=>by rw[hgn k] at q;cases q⟩
    (fun c hc=>by
     obtain⟨b',l',e2,hc⟩:=hc;obtain⟨rfl,rfl⟩:=mF e2;rcases hc with rfl|⟨_,_,_,hu,_⟩
     ·refine⟨(hs.nw _ _ _ _ hH hv hB).1,(hs.nw _ _ _ _ hH hv hB).2,fun i y u hy hu hc1=>?_⟩;by_cases hi:i<st.heap.length
      ·rw[abc (by rw[hl1];exact hi)] at hy;rw[abc (by rw[hs.len];exact hi)] at hu;by_cases hio:i=o
       ·subst hio;rw[abt yG] at hy;obtain rfl:=aaZ hy;cases hc1
       ·rw[abj (aca hio)] at hy;exact hs.ap i o _ _ _ _ _ hio hy hu hH hv hc1 hB
      ·have hlt:=(aad.1 hy).1;rw[abm,hl1] at hlt;obtain rfl:i=st.heap.length:=by simp at hlt;omega
       rw[hj] at hy;obtain rfl:=aaZ hy;cases hc1
     ·cases hu)
   have e3:((st.heap.set o (.mq st.heap.length))++[aj.dead]).set st.heap.length (.mr o kt t e n fun _=>none)=(st.heap.set o (.mq st.heap.length))++[.mr o kt t e n fun _=>none]:=by
    rw[acd _ _ (by rw[hl1];exact abi _),hl1];simp
   rw[e3] at j4;refine⟨_,S,j4,he.keep (fun _ h=>h) (aA.refl _ _) fun i u hu sH=>?_⟩;have hi:=(aad.1 hu).1;rw[hs.len] at hi;rw[abj (by omega),abc (by rw[hs.len];exact hi)];exact hu
  ·exact h.elim
 ·exact h.elim
def MD (q k:Nat) (st:ek):T ek:=match rowAt st.heap q k with
 | some o=>match st.heap[o]? with
  | some (.zc e t tn iu done rest)=>.nd (done.length<iu) (.lf ⟨st.env,(st.heap++[aj.dead]).set o (.zip st.heap.length e t tn iu done (lJ tn (rest.getD 0 (Cw tn))) (rest.drop 1))⟩)
  | _=>.bad
 | none=>.bad
theorem MC {q k:Nat} {dG:ek} (h:(MD q k st).hit dG) (ct:fK m cx st a w):fK m cx dG a w:=by
 unfold MD at h;split at h
 ·rename_i o _;split at h
  ·rename_i e t tn iu done rest hH;obtain⟨hlt,h⟩:=h;obtain rfl:=h;obtain⟨bs,S,hs,he⟩:=ct;have yG:o<bs.length:=by rw[hs.len];exact(aad.1 hH).1
   have hv:=aac yG;obtain⟨bQ,ho,hz⟩:=hs.o o _ _ hH hv;obtain⟨g,n,c,hvs⟩:∃g n c,bs[o]=.slice (some ⟨g,0,none⟩) n c:=by
    obtain⟨cs,⟨_,h2⟩,_⟩:=ho;rcases h2 with⟨_,hn⟩|⟨g,cap,cur,lm,_⟩
    ·rw[hz.1] at hn;omega
    ·exact⟨g,_,_,lm⟩
   have Ps:=hs.pad;have hj:(st.heap++[aj.dead])[st.heap.length]?=some .dead:=by rw[aa8 (abi _)];simp
   have xo:(bs++[undef])[st.heap.length]?=some undef:=by rw[←hs.len,aa8 (abi _)];simp
   have j4:=Ps.fill (x:=.dead) (v:=.pointer (some ⟨g,done.length*aG.sz (El t),none⟩)) hj xo rfl trivial (fun b hb=>by cases hb);rw[Nt hj] at j4;have zO:(bs++[undef]).set st.heap.length (.pointer (some ⟨g,done.length*aG.sz (El t),none⟩))=bs++[.pointer (some ⟨g,done.length*aG.sz (El t),none⟩)]:=by
    rw[←hs.len,acd _ _ (abi _)];simp
   rw[zO] at j4;have hH2:(st.heap++[aj.dead])[o]?=some (.zc e t tn iu done rest):=by rw[abc (aad.1 hH).1];exact hH
   have lm:(bs++[.pointer (some ⟨g,done.length*aG.sz (El t),none⟩)])[o]?=some bs[o]:=by rw[abc yG];exact hv
   have hd:∀k,(rest.drop 1).getD k (Cw tn)=rest.getD (k+1) (Cw tn):=fun k=>by
    rw[aaQ,aaQ,ab5,aez]
   refine⟨_,S,j4.alt (y:=.zip st.heap.length e t tn iu done (lJ tn (rest.getD 0 (Cw tn))) (rest.drop 1)) hH2 lm ⟨bQ,ho,⟨hz.1,fun j r hr=>?_⟩,hlt,.pointer (some ⟨g,done.length*aG.sz (El t),none⟩),by rw[←hs.len,aa8 (abi _)];simp,rfl,fun g' n' c' e=>by rw[hvs] at e;injection e with e;injection e with e;injection e with e;rw[e]⟩,he.keep (fun _ h=>h) (aA.refl _ _) (oO _ _)⟩;obtain⟨z1,z2⟩:=hz.2 j r hr;refine⟨z1,fun e=>?_,fun jX=>?_⟩
   ·have:=z2 (by omega);rw[show j-done.length=0 by omega] at this;exact kh this
   ·rw[hd,show j-done.length-1+1=j-done.length by omega];exact z2 (by omega)
  ·exact h.elim
 ·exact h.elim
def Yu (cs:List AV):List Nat:=cs.filterMap fun
 | .own o=>some o
 | _=>none
def Hq (q k:Nat) (st:ek):T ek:=match rowAt st.heap q k with
 | some o=>match st.heap[o]? with
  | some (.zip _ e t tn iu done cur rest)=>(T.op (un t cur)).bind fun y=>.lf ⟨st.env,st.heap.set o (.zc e t tn iu (done++[y]) rest)⟩
  | _=>.bad
 | none=>.bad
def SB (q k:Nat) (st:ek):ek:=match rowAt st.heap q k with
 | some o=>match st.heap[o]? with
  | some (.zip _ _ _ _ _ _ cur _)=>(Yu cur).foldl (fun st i=>U4 i st) st
  | _=>st
 | none=>st
def Fw (q k:Nat) (st:ek):T ek:=Hq q k (SB q k st)
theorem J0 {q k:Nat} {dG:ek} (h:(Fw q k st).hit dG) (ct:fK m cx st a w):fK m cx dG a w:=by
 have hf:fK m cx (SB q k st) a w:=by
  unfold SB;split
  ·split
   ·rename_i cur _ _;have:∀(l:List Nat) (st:ek),fK m cx st a w→fK m cx (l.foldl (fun st i=>U4 i st) st) a w:=by
     intro l;induction l with
     | nil=>intro st h;exact h
     | cons i l ih=>intro st h;exact ih _ (xA h)
    exact this _ _ ct
   ·exact ct
  ·exact ct
 unfold Fw at h;generalize SB q k st=st1 at h hf;unfold Hq at h;split at h
 ·rename_i o _;split at h
  ·rename_i o2 e t tn iu done cur rest hH;obtain⟨y,h1,h2⟩:=T.hit_bind h;obtain rfl:=h2;have hy:=T.hit_op h1;obtain⟨bs,S,hs,he⟩:=hf;have yG:o<bs.length:=by rw[hs.len];exact(aad.1 hH).1
   have hv:=aac yG;obtain⟨bQ,ho,hz,_⟩:=hs.o o _ _ hH hv;refine⟨bs,S,hs.alt hH hv ⟨bQ,ho,hz.1,fun j r hr=>?_⟩,he⟩;obtain⟨z1,z2,z3⟩:=hz.2 j r hr;refine⟨fun x hx=>?_,fun hl=>?_⟩
   ·by_cases hj:j<done.length
    ·rw[abc hj] at hx;exact z1 x hx
    ·have xo:j=done.length:=by have:=(aad.1 hx).1;simp at this;omega
     subst xo;rw[aa8 (abi _)] at hx;simp at hx;subst hx;exact lC hy (z2 rfl)
   ·rw[abm,abN] at hl ⊢;rw[show j-(done.length+1)=j-done.length-1 by omega];exact z3 (by omega)
  ·exact h.elim
 ·exact h.elim
def XF (q k:Nat) (st:ek):T ek:=match rowAt st.heap q k with
 | some o=>match st.heap[o]? with
  | some (.zc e t _ iu done _)=>.nd (iu=done.length) (.lf ⟨st.env,st.heap.set o (.row t e done.reverse)⟩)
  | _=>.bad
 | none=>.bad
theorem SC {q k:Nat} {dG:ek} (h:(XF q k st).hit dG) (ct:fK m cx st a w):fK m cx dG a w:=by
 unfold XF at h;split at h
 ·rename_i o _;split at h
  ·rename_i e t tn iu done rest hH;obtain⟨hlt,h⟩:=h;obtain rfl:=h;obtain⟨bs,S,hs,he⟩:=ct;have yG:o<bs.length:=by rw[hs.len];exact(aad.1 hH).1
   have hv:=aac yG;obtain⟨bQ,ho,hz⟩:=hs.o o _ _ hH hv;refine⟨bs,S,hs.alt hH hv ?_,he⟩;show Own (α:=El t) w S 0 e _ done.reverse.reverse;rw[aa7];exact Tq ho (hz.1.trans hlt) fun j r x hr hx=>(hz.2 j r hr).1 x hx
  ·exact h.elim
 ·exact h.elim
end
def ae6 (q k:Nat) (e:TypeId):Ck:=⟨MB q k e,fun _ _ _ _ _ _=>MA⟩
def Qf (q k:Nat) (t tn:Ty):Ck:=⟨Fx q k t tn,fun _ _ _ _ _ _=>J1⟩
def Xd (q k:Nat):Ck:=⟨MD q k,fun _ _ _ _ _ _=>MC⟩
def oD (q k:Nat):Ck:=⟨Fw q k,fun _ _ _ _ _ _=>J0⟩
def ae8 (q k:Nat):Ck:=⟨XF q k,fun _ _ _ _ _ _=>SC⟩
def hkT (l:List (Nat×Ck)) (id:Nat) (st:ek):T ek:=match l.lookup id with
 | some h=>h.f st
 | none=>.lf st
theorem PE {m:Nat} {cx:Cx} {l:List (Nat×Ck)} {id:Nat} {st dG:ek} {a:Act} {w:World} (h:(hkT l id st).hit dG) (ct:fK m cx st a w):fK m cx dG a w:=by
 unfold hkT at h;split at h
 ·exact Ck.ok _ m cx st dG a w h ct
 ·obtain rfl:=h;exact ct
def BE {P:Program} {m:Nat} (R:Rg P m) (pre post:List (Nat×Ck)):Rg P m:={ R with
 reg:=fun id ops dr st=>(hkT pre id st).bind fun st=>(R.reg id ops dr st).bind fun st=>hkT post id st
 ok:=fun id ops dr cx st dG a w Q h hs hQ=>by
  obtain⟨s1,h1,h2⟩:=T.hit_bind h;obtain⟨s2,h3,h4⟩:=T.hit_bind h2;exact R.ok id ops dr cx s1 s2 a w Q h3 (PE h1 hs) fun a' w' h'=>hQ a' w' (PE h4 h') }
end Go.Proofs.YtjlhbfbdcfajfaaGreatDoor
