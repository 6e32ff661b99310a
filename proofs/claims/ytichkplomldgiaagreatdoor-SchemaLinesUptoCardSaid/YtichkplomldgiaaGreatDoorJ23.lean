/- MDrd MFrz MHook -/
import Derived.Test.YtichkplomldgiaaGreatDoorJ22
set_option maxHeartbeats 4000000
set_option maxRecDepth 100000
namespace Go.Proofs.YtichkplomldgiaaGreatDoor
open Go Go.RowKit
structure Dl where
 x:XV
 nw:Option aa
 ch:List (Nat×aa)
def cH:List (Nat×aa)->Nat->Option aa
 | [],_=>none
 | p::l,o=>match cH l o with
  | some y=>some y
  | none=>if p.1=o then some p.2 else none
def iY (N0:Nat) (rs:List Dl) (j o:Nat):Option aa:=match rs[j]? with
 | some r=>if o=N0+j then some (r.nw.getD .dead) else cH r.ch o
 | none=>none
def fD (N0:Nat) (rs:List Dl) (d:Nat->Bool) (x0:aa) (o:Nat) (n:Nat):aa:=(List.range n).foldl (λx j=>if d j then(iY N0 rs j o).getD x else x) x0
section
variable {N0 o:Nat} {rs:List Dl} {d d':Nat->Bool} {x0:aa}
theorem ga {n:Nat}:fD N0 rs d x0 o (n+1)=if d n then(iY N0 rs n o).getD (fD N0 rs d x0 o n) else fD N0 rs d x0 o n:=by
 unfold fD;rw[List.range_succ,List.foldl_append];rfl
theorem iU:∀{n:Nat},(∀j,j<n->d j=d' j\/iY N0 rs j o=none)->fD N0 rs d x0 o n=fD N0 rs d' x0 o n
 | 0,_=>rfl
 | n+1,h=>by
  rw[ga,ga,iU (n:=n) λj hj=>h j (by omega)];rcases h n (by omega) with e|e
  ·rw[e]
  ·rw[e];simp
theorem EH {i:Nat} (hd:d i=false):∀{n:Nat},i<n->(∀j,i<j->j<n->d j=true->iY N0 rs j o=none\/iY N0 rs i o=none)->fD N0 rs (fu d i) x0 o n=(iY N0 rs i o).getD (fD N0 rs d x0 o n)
 | n+1,hi,h=>by
  rw[ga,ga];by_cases e:i=n
  ·subst e;rw[dB,if_pos rfl,hd,iU (d':=d) λj hj=>.inl (aN d (by omega))];simp
  ·rw[aN d (Ne.symm e),EH hd (n:=n) (by omega) λj h1 h2 h3=>h j h1 (by omega) h3];cases hn:d n with
   | false=>simp
   | true=>
    rcases h n (by omega) (by omega) hn with q|q
    ·rw[q];simp
    ·rw[q];simp
end
theorem Cr {P:Program} {Hv Hf:List aa} {t:TypeId} {x y:Option XV} {p:Nat×aa} (hv:ow Hv Hf) (h:qI P Hv t x y=some p):qI P Hf t x y=some p:=by
 unfold qI at h ⊢;split at h
 ·split at h
  ·rename_i hH;rcases hv.2 _ _ hH with e|e
   ·cases e
   ·simp only[*]
  ·cases h
 ·split at h
  ·rename_i hH;rcases hv.2 _ _ hH with e|e
   ·cases e
   ·simp only[*]
  ·cases h
 ·split at h
  ·rename_i hH;rcases hv.2 _ _ hH with e|e
   ·cases e
   ·simp only[*]
  ·cases h
 ·cases h
def Oi (H:List aa) (x:Option XV):List (Nat×aa):=match x with
 | some (.one (.own ob))=>[(ob,.dead)]
 | some (.one (.mrow q kt k))=>match H[q]? with
  | some (.mr p fU t e' n f)=>match Kt.eq? kt fU with
   | some h=>[(q,.mx p fU t e' n f (h.down▸k))]
   | none=>[]
  | _=>[]
 | _=>[]
theorem Jk {ty:TypeId->Option Ty} {Hv Hf H':List aa} {e:TypeId} {x:Option XV} {q:(y:Ty)×List (El y)} (hv:ow Hv Hf) (h:Oh ty Hv e x=some (H',q)):Oh ty Hf e x=some (er (Oi Hv x) Hf,q):=by
 unfold Oh at h ⊢;split at h
 ·split at h
  ·rename_i ob _ y e' rs hH;rcases hv.2 _ _ hH with e2|e2
   ·cases e2
   ·split at h
    ·rename_i he;injection h with h
     injection h with h1 h2
     subst h2;simp only[e2,he,if_true];rfl
    ·cases h
  ·cases h
 ·cases P7:ty e with
  | none=>rw[P7] at h;cases h
  | some y=>
   rw[P7] at h;injection h with h
   injection h with h1 h2
   subst h2;rfl
 ·rename_i q kt k;split at h
  ·rename_i p fU t e' n f hH;rcases hv.2 _ _ hH with e2|e2
   ·cases e2
   ·split at h
    ·rename_i hk fb;split at h
     ·rename_i he;injection h with h
      injection h with h1 h2
      subst h2;subst he;simp only[e2,fb,if_true];simp only[Oi,hH,fb];rfl
     ·cases h
    ·cases h
  ·cases h
 ·cases h
theorem Jj {Hv Hf:List aa} {y:Ty} {x:Option XV} {ys:List (El y)} (hv:ow Hv Hf) (h:Og Hv y x=some ys):Og Hf y x=some ys:=by
 unfold Og at h ⊢;split at h
 ·split at h
  ·rename_i hH;rcases hv.2 _ _ hH with e2|e2
   ·cases e2
   ·simp only[e2];exact h
  ·cases h
 ·exact h
 ·cases h
theorem Fu {P:Program} {ty:TypeId->Option Ty} {Hv Hf:List aa} {t:TypeId} {s x:Option XV} {r:List aa×(y:Ty)×TypeId×List (El y)} (hv:ow Hv Hf) (h:(wV P ty Hv t s x).hit r):(wV P ty Hf t s x).hit (er (Oi Hv s) Hf,r.2):=by
 unfold wV at h ⊢;cases dh:TM P t with
 | none=>rw[dh] at h;exact h.elim
 | some q=>
  obtain⟨e,sz,bytes⟩:=q;rw[dh] at h;simp only at h ⊢;cases hs:Oh ty Hv e s with
  | none=>rw[hs] at h;exact h.elim
  | some q=>
   obtain⟨H',y,rs⟩:=q;rw[hs] at h;rw[Jk hv hs];simp only at h ⊢;cases hy:Og Hv y x with
   | none=>rw[hy] at h;exact h.elim
   | some ys=>
    rw[hy] at h;rw[Jj hv hy];simp only at h ⊢;split at h
    ·rename_i hsz;rw[if_pos hsz];obtain⟨h1,h2⟩:=h;exact⟨h1,by obtain rfl:=h2;rfl⟩
    ·exact h.elim
def JK (cs:List AV):List Nat:=cs.filterMap ii
def BN (H:List aa):XV->XV
 | .one a=>.one (sZ H a)
 | .agg cs=>.agg (cs.map (sZ H))
 | x=>x
def pn (xs:List XV):List Nat:=xs.flatMap λ
 | .one a=>JK [a]
 | .agg cs=>JK cs
 | .tup _=>[]
def S6 {P:Program} (C:dN P) (bg:Nat) (env:Env) (H:List aa) (o:Oper):T Dl:=match o.op with
 | .store t x y=>match o.dst with
  | none=>T.op ((qI P H t (ev env x) (ev env y)).map λp=>⟨.tup [],none,[p]⟩)
  | some _=>.bad
 | .call { callee:=.builtin .append,args:=args,argTypes:=ts }=>match args.toList,ts.toList with
  | [s,x],[t,t']=>if t=t' then(wV P C.ty H t (ev env s) (ev env x)).bind λr=>.lf ⟨.one (.own bg),some (.row r.2.1 r.2.2.1 r.2.2.2),Oi H (ev env s)⟩ else .bad
  | _,_=>.bad
 | .mapUpdate t x k v=>match o.dst with
  | none=>(Lu P C.ty bg H t (ev env x) (ev env k) (ev env v)).bind λr=>.lf ⟨.tup [],r.2,r.1⟩
  | some _=>.bad
 | .buildSlice t n ps=>match gg env ps.toList with
  | some l=>(T.op (zO P C.ty bg t n (some (JB H l)))).bind λr=>.lf ⟨r.1,r.2,gy (nf l)⟩
  | none=>.bad
 | .call { callee:=.value (.func f),args:=args,argTypes:=_ }=>if C.eff o then(C.d o env H).bind λr=>.lf ⟨r.1,none,r.2⟩ else(match fe env args.toList with
  | some xs=>if xs.any GW&&(C.D.find? λs=>s.f==f).any Sm.al then(JJ C.ty C.D (H.map λ_=>aa.dead) f (some (xs.map (BN H)))).bind λx=>.lf ⟨x,none,gy (pn xs)⟩ else(Kf C.ty C.D bg env H o).bind λr=>.lf ⟨r.1,r.2,[]⟩
  | none=>.bad)
 | _=>if C.eff o then(C.d o env H).bind λr=>.lf ⟨r.1,none,r.2⟩ else(Kf C.ty C.D bg env H o).bind λr=>.lf ⟨r.1,r.2,[]⟩
theorem CF {α:Type} {l:List α} {i:Nat} {x:α} (h:l[i]?=some x):l.set i x=l:=by
 refine List.ext_getElem? λj=>?_;by_cases e:i=j
 ·subst e;rw[List.getElem?_set_self (List.getElem?_eq_some_iff.1 h).1,h]
 ·rw[List.getElem?_set_ne e]
theorem ow.hide {Hv Hf:List aa} (hv:ow Hv Hf) {cx:Cx} {bs:List Value} {w:World} {S:Nat->Prop} (hs:HS cx bs w S Hf):HS cx bs w S Hv:=hs.mask hv.1 hv.2
theorem dT:∀{l l':List (Nat×aa)} {H:List aa},er (l++l') H=er l' (er l H)
 | [],_,_=>rfl
 | _::l,_,_=>dT (l:=l)
theorem dm:∀{l:List (Nat×aa)} {H:List aa},(er l H).length=H.length
 | [],_=>rfl
 | p::l,H=>by show(er l (H.set p.1 p.2)).length=_;rw[dm,List.length_set]
theorem gn:∀{l:List (Nat×aa)} {H:List aa} {o:Nat} {y:aa},H[o]?=some y->(er l H)[o]?=some ((cH l o).getD y)
 | [],_,_,_,h=>h
 | p::l,H,o,y,h=>by
  show(er l (H.set p.1 p.2))[o]?=_;by_cases e:p.1=o
  ·subst e;rw[gn (l:=l) (List.getElem?_set_self (List.getElem?_eq_some_iff.1 h).1)];show _=some (Option.getD (match cH l p.1 with|some y=>some y|none=>if p.1=p.1 then some p.2 else none) y);cases cH l p.1<;>simp
  ·rw[gn (l:=l) (by rw[List.getElem?_set_ne e];exact h)];show _=some (Option.getD (match cH l o with|some y=>some y|none=>if p.1=o then some p.2 else none) y);cases cH l o<;>simp[e]
theorem nz {k:Nat} {x:aa}:∀{l:List (Nat×aa)} {o:Nat},cH (l++[(k,x)]) o=if k=o then some x else cH l o
 | [],o=>by show(match (none:Option aa) with|some y=>some y|none=>if k=o then some x else none)=_;rfl
 | p::l,o=>by
  show(match cH (l++[(k,x)]) o with|some y=>some y|none=>if p.1=o then some p.2 else none)=if k=o then some x else(match cH l o with|some y=>some y|none=>if p.1=o then some p.2 else none)
  rw[nz (l:=l)];by_cases e:k=o
  ·rw[if_pos e,if_pos e]
  ·rw[if_neg e,if_neg e]
theorem pC {x:aa}:∀{l:List (Nat×aa)} {o:Nat},cH l o=some x->∃p∈l,p.1=o
 | p::l,o,h=>by
  have h:(match cH l o with|some y=>some y|none=>if p.1=o then some p.2 else none)=some x:=h;cases e:cH l o with
  | some y=>obtain⟨q,h1,h2⟩:=pC e;exact⟨q,List.mem_cons_of_mem _ h1,h2⟩
  | none=>
   rw[e] at h;simp only at h;split at h
   ·rename_i h1;exact⟨p,List.mem_cons_self,h1⟩
   ·cases h
theorem ti {H:List aa} {i:Nat} (h:∀x,H[i]?=some x->x=.dead):H.set i .dead=H:=by
 refine List.ext_getElem? λj=>?_;by_cases e:i=j
 ·subst e;cases hx:H[i]? with
  | none=>rw[List.getElem?_eq_none (by rw[List.length_set];exact List.getElem?_eq_none_iff.1 hx)]
  | some x=>rw[List.getElem?_set_self (List.getElem?_eq_some_iff.1 hx).1,h x hx]
 ·rw[List.getElem?_set_ne e]
theorem IH {P:Program} {o:Oper} {cx:Cx} {bs:List Value} {w:World} {S:Nat->Prop} {Hf:List aa} {bg:Nat} {a:Act} {q:XV×Option aa} {K:Act->World->Prop} {Q:Exit->Act->World->Prop} (hs:HS cx bs w S Hf) (hn:Hf[bg]?=some .dead) (hb:bs[bg]?=some undef) (h:eA P o bs w S a bg q) (hK:∀v w' aD S',HS cx aD w' S' (Hf.set bg (q.2.getD .dead))->(∀b,S b->S' b)->af S w w'->eI bs aD->(∀j,j≠bg->aD[j]?=bs[j]?)->(o.dst.isSome=true->XR aD w' S' q.1 v)->K (a.put o.dst v) w'):o.wp P a w K Q:=by
 refine h _ _ λv w' S' u uX hS oT hx hf=>?_;have dl:=hs.grow uX hS oT;have aV:af S w w':=(af.of_below uX).sub λb q=>(hs.s b q).1;cases hq:q.2 with
 | none=>
  refine hK v w' bs S' ?_ hS aV (eI.refl _) (λ_ _=>rfl) λ_=>(hx bs (eI.refl _) (by rw[hq];intro h;cases h)).1;rw[hq];show HS cx bs w' S' (Hf.set bg .dead);rw[ti λx hx=>by rw[hn] at hx;exact(Option.some.inj hx).symm];exact dl
 | some x=>
  have nR:eI bs (bs.set bg u):=λi z hz hz2=>by
   rw[List.getElem?_set_ne (λe=>by subst e;rw[hb] at hz;obtain rfl:=Option.some.inj hz;cases hz2)];exact hz
  obtain⟨Il,wj⟩:=hx (bs.set bg u) nR (λ_=>List.getElem?_set_self (List.getElem?_eq_some_iff.1 hb).1);refine hK v w' (bs.set bg u) S' ?_ hS aV nR (λj hj=>List.getElem?_set_ne (Ne.symm hj)) λ_=>Il;rw[hq];refine dl.fill hn hb rfl (wj x hq) λb dF=>⟨.inl (Nat.le_trans hs.size (hf x hq b dF).1),(hf x hq b dF).2,λi z p hz hp e=>?_⟩;have:=(hs.o i z p hz hp).lt e;have:=(hf x hq b dF).1;omega
theorem jZ {o:Nat}:∀os:List Nat,cH (gy os) o=none\/cH (gy os) o=some .dead
 | []=>.inl rfl
 | i::os=>by
  show(match cH (gy os) o with|some y=>some y|none=>if i=o then some aa.dead else none)=none\/_=some aa.dead;rcases jZ (o:=o) os with e|e
  ·by_cases h:i=o
   ·exact .inr (by show(match cH (gy os) o with|some y=>some y|none=>if i=o then some aa.dead else none)=_;rw[e];simp[h])
   ·exact .inl (by rw[e];simp[h])
  ·exact .inr (by show(match cH (gy os) o with|some y=>some y|none=>if i=o then some aa.dead else none)=_;rw[e])
theorem mP {bs:List Value} {w:World} {S S':Nat->Prop} {Hv Hf:List aa} {os:List Nat} (hv:ow Hv Hf) (hS:∀b,S b->S' b) (hk:∀o∈os,∀(y:aa) (x:AV) (v:Value),Hf[o]?=some y->ft y=some x->bs[o]?=some v->VR bs w S' x v) {x:AV} {v:Value} (hx:∀o,ii x=some o->o∈os) (h:VR bs w S x v):VR bs w S' (sZ Hv x) v:=by
 have up:VR bs w S' x v:=h.keep hS (af.refl _ _) (eI.refl _);unfold sZ;split
 ·rename_i o ho;cases e:Hv[o]? with
  | none=>exact up
  | some y=>
   show VR bs w S' ((ft y).getD x) v;cases e2:ft y with
   | none=>exact up
   | some z=>
    rcases hv.2 _ _ e with e3|e3
    ·subst e3;cases e2
    ·exact hk o (hx o ho) y z v e3 e2 (ni h ho)
 ·exact up
theorem BP {bs:List Value} {w:World} {S S':Nat->Prop} {Hv Hf:List aa} {os:List Nat} (hv:ow Hv Hf) (hS:∀b,S b->S' b) (hk:∀o∈os,∀(y:aa) (x:AV) (v:Value),Hf[o]?=some y->ft y=some x->bs[o]?=some v->VR bs w S' x v) {l:List (Nat×List AV)} {m:List (Nat×Value)} (h:F2 (λp q=>p.1=q.1/\F2 (VR bs w S) p.2 q.2.cells.toList) l m) (hm:∀p∈l,∀x∈p.2,∀o,ii x=some o->o∈os):F2 (λp q=>p.1=q.1/\F2 (VR bs w S') p.2 q.2.cells.toList) (JB Hv l) m:=
 h.mapL λp hp _ hr=>⟨hr.1,hr.2.mapL λx hx _ P3=>mP hv hS hk (hm p hp x hx) P3⟩
theorem z8 {l:List (Nat×List AV)}:∀p∈l,∀x∈p.2,∀o,ii x=some o->o∈nf l:=λp hp x hx _ e=>List.mem_flatMap.2 ⟨p,hp,List.mem_filterMap.2 ⟨x,hx,e⟩⟩
theorem zo {bs:List Value} {w:World} {S S':Nat->Prop} {Hv Hf:List aa} {os:List Nat} (hv:ow Hv Hf) (hS:∀b,S b->S' b) (hk:∀o∈os,∀(y:aa) (x:AV) (v:Value),Hf[o]?=some y->ft y=some x->bs[o]?=some v->VR bs w S' x v) {l:List XV} {m:List Value} (h:F2 (XR bs w S) l m) (hm:∀x∈l,∀a o,(x=.one a\/∃cs,x=.agg cs/\a∈cs)->ii a=some o->o∈os):F2 (XR bs w S') (l.map (BN Hv)) m:=by
 refine h.mapL λx hx v P3=>?_;cases x with
 | one a=>exact mP hv hS hk (λo e=>hm _ hx a o (.inl rfl) e) P3
 | agg cs=>
  obtain⟨vs,e,hf⟩:=P3;exact⟨vs,e,hf.mapL λy hy u hu=>mP hv hS hk (λo e2=>hm _ hx y o (.inr ⟨cs,rfl,hy⟩) e2) hu⟩
 | tup l=>exact XR.keep P3 hS (af.refl _ _) (eI.refl _)
theorem z7 {l:List XV}:∀x∈l,∀a o,(x=.one a\/∃cs,x=.agg cs/\a∈cs)->ii a=some o->o∈pn l:=by
 intro x hx a o h e;refine List.mem_flatMap.2 ⟨x,hx,?_⟩;rcases h with rfl|⟨cs,rfl,h⟩
 ·exact List.mem_filterMap.2 ⟨a,List.mem_singleton.2 rfl,e⟩
 ·exact List.mem_filterMap.2 ⟨a,h,e⟩
theorem gP {Hv Hf:List aa} (hv:ow Hv Hf) {i:Nat} {y:aa} (h:Hv[i]?=some y) (hy:y≠.dead):Hf[i]?=some y:=(hv.2 _ _ h).elim (λe=>absurd e hy) id
theorem G9 {P:Program} {ty:TypeId->Option Ty} {bg:Nat} {Hv Hf:List aa} {t:TypeId} {m x v:Option XV} {r:List (Nat×aa)×Option aa} (hv:ow Hv Hf) (h:(Lu P ty bg Hv t m x v).hit r):(Lu P ty bg Hf t m x v).hit r:=by
 unfold Lu at h ⊢;split at h
 ·split at h
  ·rename_i hk hH;simp only[hk,gP hv hH (λe=>by cases e)];exact h
  ·rename_i hk hH;simp only[hk,gP hv hH (λe=>by cases e)];split at h
   ·rename_i hQ;simp only[gP hv hQ (λe=>by cases e)];split at h
    ·rename_i hR;simp only[gP hv hR (λe=>by cases e)];exact h
    ·exact h.elim
   ·exact h.elim
  ·exact h.elim
 ·exact h.elim
theorem M6 {P:Program} {C:dN P} {o:Oper} {cx:Cx} {bs:List Value} {w:World} {S:Nat->Prop} {Hv Hf:List aa} {m bg:Nat} {env:Env} {a:Act} {r:Dl} {K:Act->World->Prop} {Q:Exit->Act->World->Prop} (hv:ow Hv Hf) (hs:HS cx bs w S Hf) (he:ER m bs w S env a) (hn:Hf[bg]?=some .dead) (hb:bs[bg]?=some undef) (h:(S6 C bg env Hv o).hit r) (hK:∀v w' aD S',HS cx aD w' S' (er (r.ch++[(bg,r.nw.getD .dead)]) Hf)->(∀b,S b->S' b)->af S w w'->eI bs aD->(∀j,j≠bg->aD[j]?=bs[j]?)->(o.dst.isSome=true->XR aD w' S' r.x v)->K (a.put o.dst v) w'):o.wp P a w K Q:=by
 unfold S6 at h;split at h
 ·rename_i t x y hop;split at h
  ·rename_i nP;have h:=T.hit_op h;cases hp:qI P Hv t (ev env x) (ev env y) with
   | none=>rw[hp] at h;cases h
   | some p=>
    rw[hp] at h;obtain rfl:=Option.some.inj h;refine xx hs he hop nP (Cr hv hp) λw' q1 q2=>?_;have:=hK undef w' bs S (q1.mask (by show((Hf.set p.1 p.2).set bg .dead).length=_;rw[List.length_set]) λi x hx=>by
     have hx:((Hf.set p.1 p.2).set bg .dead)[i]?=some x:=hx;by_cases e:bg=i
     ·subst e;rw[List.getElem?_set_self (by rw[List.length_set];exact(List.getElem?_eq_some_iff.1 hn).1)] at hx;exact .inl (Option.some.inj hx).symm
     ·rw[List.getElem?_set_ne e] at hx;exact .inr hx) (λ_ h=>h) q2 (eI.refl _) (λ_ _=>rfl) (λe=>by rw[nP] at e;cases e)
    rw[nP] at this;exact this
  ·exact h.elim
 ·rename_i args ts hop;split at h
  ·rename_i s x t t' ha ht;split at h
   ·rename_i e;subst e;obtain⟨q,h1,h2⟩:=T.hit_bind h;obtain rfl:(⟨.one (.own bg),some (.row q.2.1 q.2.2.1 q.2.2.2),Oi Hv (ev env s)⟩:Dl)=r:=h2;have VU:args=#[s,x]:=by rw[<-Array.toArray_toList (xs:=args),ha]
    have Ip:ts=#[t,t]:=by rw[<-Array.toArray_toList (xs:=ts),ht]
    rw[VU,Ip] at hop;refine yV hs he hop (Fu hv h1) λv w' bp SX hdd aV dM bQ=>?_;have hj:(er (Oi Hv (ev env s)) Hf)[bg]?=some .dead:=by
     exact hdd bg hn
    have fc:=bp.fill (x:=.row q.2.1 q.2.2.1 q.2.2.2) (v:=v) hj hb rfl dM bQ;obtain⟨A',n',c',DV,_⟩:=dM.slice;refine hK v w' (bs.set bg v) S (by rw[dT];exact fc) (λ_ h=>h) aV (λi u hu kR=>?_) (λj hj=>List.getElem?_set_ne (Ne.symm hj)) λ_=>⟨List.getElem?_set_self (List.getElem?_eq_some_iff.1 hb).1,A',n',c',DV⟩;rw[List.getElem?_set_ne (λe=>by subst e;rw[hb] at hu;obtain rfl:=Option.some.inj hu;cases kR)];exact hu
   ·exact h.elim
  ·exact h.elim
 ·rename_i t x k v hop;split at h
  ·rename_i nP;obtain⟨q,h1,h2⟩:=T.hit_bind h;obtain rfl:(⟨.tup [],q.2,q.1⟩:Dl)=r:=h2;refine Di hs he C.isP hop nP hn hb (G9 hv h1) λw' aD q1 q2 q3 q4=>?_;have:=hK undef w' aD S q1 (λ_ h=>h) q2 q3 q4 (λe=>by rw[nP] at e;cases e);rw[nP] at this;exact this
  ·exact h.elim
 ·rename_i t n ps hop;split at h
  ·rename_i l hp;obtain⟨q,h1,h2⟩:=T.hit_bind h;obtain rfl:(⟨q.1,q.2,gy (nf l)⟩:Dl)=r:=h2;obtain⟨S',k1,k2,k3⟩:=rJ (nf l) hs;have oT:(er (gy (nf l)) Hf)[bg]?=some .dead:=by
    rw[gn hn];rcases jZ (o:=bg) (nf l) with e|e
    ·rw[e];rfl
    ·rw[e];rfl
   have wo:=BP hv k1 k3 (gv he hp) z8;refine IH k2 oT hb (xF k2 wo hop (T.hit_op h1)) λv w' aD S'' q1 q2 q3 q4 q5 q6=>?_;exact hK v w' aD S'' (by rw[dT];exact q1) (λb h=>q2 b (k1 b h)) (q3.sub k1) q4 q5 q6
  ·exact h.elim
 ·rename_i f args ts hop;split at h
  ·rename_i Eh;obtain⟨q,h1,h2⟩:=T.hit_bind h;obtain rfl:(⟨q.1,none,q.2⟩:Dl)=r:=h2;refine C.dok m o cx bs S env Hv Hf a w q K Q Eh hv hs he h1 λv w' S' q1 q2 q3 q4=>?_;refine hK v w' bs S' ?_ q2 q3 (eI.refl _) (λ_ _=>rfl) λ_=>q4;refine q1.mask (by rw[dm,dm]) λi x hx=>?_;rw[dT] at hx;have hx:((er q.2 Hf).set bg .dead)[i]?=some x:=hx;by_cases e:bg=i
   ·subst e;rw[List.getElem?_set_self (by rw[dm];exact(List.getElem?_eq_some_iff.1 hn).1)] at hx;exact .inl (Option.some.inj hx).symm
   ·rw[List.getElem?_set_ne e] at hx;exact .inr hx
  ·split at h
   ·rename_i xs hx;split at h
    ·obtain⟨q,h1,h2⟩:=T.hit_bind h;obtain rfl:(⟨q,none,gy (pn xs)⟩:Dl)=r:=h2;obtain⟨S',k1,k2,k3⟩:=rJ (pn xs) hs;have oT:(er (gy (pn xs)) Hf)[bg]?=some .dead:=by
      rw[gn hn];rcases jZ (o:=bg) (pn xs) with e|e
      ·rw[e];rfl
      ·rw[e];rfl
     have ue:=zo hv k1 k3 (eS he hx) z7;have hd:HS cx bs w S' (Hv.map λ_=>aa.dead):=k2.mask (by rw[List.length_map,dm];exact hv.1) λi x hx=>by
      rw[List.getElem?_map] at hx;cases e:Hv[i]? with
      | none=>rw[e] at hx;cases hx
      | some y=>rw[e] at hx;exact .inl (Option.some.inj hx).symm
     refine IH k2 oT hb (m7 (cap:=#[]) hd (λys hy=>by obtain rfl:=Option.some.inj hy;rw[Array.toList_empty,List.append_nil];exact ue) rfl hop h1) λv w' aD S'' q1 q2 q3 q4 q5 q6=>?_;exact hK v w' aD S'' (by rw[dT];exact q1) (λb h=>q2 b (k1 b h)) (q3.sub k1) q4 q5 q6
    ·obtain⟨q,h1,h2⟩:=T.hit_bind h;obtain rfl:(⟨q.1,q.2,[]⟩:Dl)=r:=h2;exact IH hs hn hb (sc C.isP (hv.hide hs) he h1) hK
   ·exact h.elim
 ·split at h
  ·rename_i Eh;obtain⟨q,h1,h2⟩:=T.hit_bind h;obtain rfl:(⟨q.1,none,q.2⟩:Dl)=r:=h2;refine C.dok m o cx bs S env Hv Hf a w q K Q Eh hv hs he h1 λv w' S' q1 q2 q3 q4=>?_;refine hK v w' bs S' ?_ q2 q3 (eI.refl _) (λ_ _=>rfl) λ_=>q4;refine q1.mask (by rw[dm,dm]) λi x hx=>?_;rw[dT] at hx;have hx:((er q.2 Hf).set bg .dead)[i]?=some x:=hx;by_cases e:bg=i
   ·subst e;rw[List.getElem?_set_self (by rw[dm];exact(List.getElem?_eq_some_iff.1 hn).1)] at hx;exact .inl (Option.some.inj hx).symm
   ·rw[List.getElem?_set_ne e] at hx;exact .inr hx
  ·obtain⟨q,h1,h2⟩:=T.hit_bind h;obtain rfl:(⟨q.1,q.2,[]⟩:Dl)=r:=h2;exact IH hs hn hb (sc C.isP (hv.hide hs) he h1) hK
theorem EI {N0 o:Nat} {rs:List Dl} {d:Nat->Bool} {x0:aa} {i:Nat}:∀{n:Nat},i<=n->(∀j,i<=j->j<n->d j=false)->fD N0 rs d x0 o n=fD N0 rs d x0 o i
 | 0,h,_=>by
  obtain rfl:i=0:=by omega
  rfl
 | n+1,h,hd=>by
  by_cases e:i=n+1
  ·rw[e]
  ·rw[ga,hd n (by omega) (by omega),EI (n:=n) (by omega) λj h1 h2=>hd j h1 (by omega)];simp
theorem Kk {N0 o:Nat} {rs rs':List Dl} {d:Nat->Bool} {x0:aa}:∀{n:Nat},(∀j,j<n->rs[j]?=rs'[j]?)->fD N0 rs d x0 o n=fD N0 rs' d x0 o n
 | 0,_=>rfl
 | n+1,h=>by
  rw[ga,ga,Kk (n:=n) λj hj=>h j (by omega)];have:iY N0 rs n o=iY N0 rs' n o:=by unfold iY;rw[h n (by omega)]
  rw[this]
theorem si {N0 o:Nat} {rs:List Dl} {x0:aa}:∀{n:Nat},fD N0 rs (λ_=>false) x0 o n=x0
 | 0=>rfl
 | n+1=>by rw[ga,si (n:=n)];simp
def gf (rs:List Dl):Rs:=rs.map λr=>some (r.x,r.nw)
def ey (H0:List aa) (n:Nat) (rs:List Dl) (d:Nat->Bool):List aa:=(List.range (H0.length+n)).map λo=>fD H0.length rs d (H0.getD o .dead) o n
def tj (H0:List aa) (n:Nat) (rs:List Dl) (pc hid:Nat->Bool):List aa:=(List.range (H0.length+n)).map λo=>if hid o then .dead else fD H0.length rs pc (H0.getD o .dead) o rs.length
def AJ (N0:Nat) (ms gs:List Nat) (i o:Nat):Bool:=(decide (N0<=o)&&!(selB ms i (o-N0)))||(List.range gs.length).any λj=>j !=i&&!(selB ms i j)&&!(selB ms j i)&&(gs.getD j 0).testBit o
def Wx (N0 n:Nat) (ms gs:List Nat):Bool:=gs.length==n&&(List.range n).all λi=>(List.range (N0+n)).all λo=>!((gs.getD i 0).testBit o)||((decide (o<N0)||selB ms i (o-N0))&&(List.range i).all λj=>selB ms i j||!((gs.getD j 0).testBit o))
def chB (gs:List Nat) (i k:Nat) (r:Dl):Bool:=r.ch.all λp=>decide (p.1<k)&&(gs.getD i 0).testBit p.1
def TO:Dl:=⟨.tup [],none,[]⟩
def bD (b:Bool):Dl:=⟨.one (.val (.bool b)),none,[]⟩
def jI {P:Program} (C:dN P) (ops:Array Oper) (n:Nat) (ms gs:List Nat) (Rj:Bool) (bM:Env) (H0:List aa):List Oper->List Dl->T (List Dl)
 | [],rs=>.lf rs
 | o::l,rs=>match FZ ops rs.length o (gf rs) with
  | some false=>jI C ops n ms gs Rj bM H0 l (rs++[TO])
  | some true=>(S6 C (H0.length+rs.length) (gF ops (Ic ops n ms rs.length) bM (selB ms rs.length) (gf rs)) (tj H0 n rs (selB ms rs.length) (AJ H0.length ms gs rs.length)) o).bind λr=>
   if !Rj||chB gs rs.length (H0.length+n) r then(match PW ops rs.length,r with
    | true,⟨.one (.sym (.bool b)),none,[]⟩=>.br b (jI C ops n ms gs Rj bM H0 l (rs++[bD true])) (jI C ops n ms gs Rj bM H0 l (rs++[bD false]))
    | _,r=>jI C ops n ms gs Rj bM H0 l (rs++[r])) else .bad
  | none=>.bad
def T.lvs {α:Type}:T α->List α
 | .lf a=>[a]
 | .br _ x y=>x.lvs++y.lvs
 | .nd _ t=>t.lvs
 | .bad=>[]
def PC (r:Dl):Nat:=r.ch.foldl (λs p=>s||| 2^p.1) 0
def QT (n:Nat) (l:List (List Dl)):List Nat:=(List.range n).map λi=>l.foldl (λs rs=>s||| (match rs[i]? with
 | some r=>PC r
 | none=>0)) 0
def oc:List Nat->List Oper->Nat
 | _,[]=>0
 | rd,o::l=>if(match o.dst with|some t=>rd.contains t|none=>false) then 0 else oc (Pq o++rd) l+1
def IY {P:Program} (C:dN P) (m:Nat) (ops:Array Oper) (n:Nat) (st:bT):T bT:=
 if P.follows .mixedOrders&&ia (n+(ops.size-n)) ops&&nA ops n (n+(ops.size-n))&&qj ops n m then
  (λ(l:List Oper) (ms:List Nat)=>(λ(gs:List Nat)=>if Wx st.heap.length n ms gs then(jI C ops n ms gs true st.env st.heap l []).bind λrs=>
   vA C m ops (ops.toList.drop n) ⟨gF ops (k7 ops n) st.env (λ_=>true) (gf rs),ey st.heap n rs (λ_=>true)⟩ else .bad) (QT n (jI C ops n ms [] false st.env st.heap l []).lvs)) (ops.toList.take n) (nk (ops.toList.take n) [])
 else .bad
section
variable {P:Program} {ops:Array Oper} {Q:Exit->Act->World->Prop} {C:dN P} {n m:Nat} {cx:Cx} {ms gs:List Nat} {bM:Env} {H0:List aa}
def kO (C:dN P) (ops:Array Oper) (n:Nat) (ms gs:List Nat) (bM:Env) (H0:List aa) (rs:List Dl) (i:Nat):Prop:=
 ∃o r,ops[i]?=some o/\rs[i]?=some r/\((FZ ops i o (gf (rs.take i))=some false/\r=TO)\/
  (FZ ops i o (gf (rs.take i))=some true/\∃r0,(S6 C (H0.length+i) (gF ops (Ic ops n ms i) bM (selB ms i) (gf (rs.take i))) (tj H0 n (rs.take i) (selB ms i) (AJ H0.length ms gs i)) o).hit r0/\chB gs i (H0.length+n) r0=true/\(r=r0\/∃b,r0=⟨.one (.sym (.bool b)),none,[]⟩/\r=bD b)))
theorem kO.more {rs:List Dl} {i:Nat} (h:kO C ops n ms gs bM H0 rs i) (hi:i<rs.length) (x:Dl):kO C ops n ms gs bM H0 (rs++[x]) i:=by
 unfold kO at h ⊢;rw[List.take_append_of_le_length (by omega),List.getElem?_append_left hi];exact h
theorem uh:∀(l:List Oper) (rs rs':List Dl),(jI C ops n ms gs true bM H0 l rs).hit rs'->(∀(k:Nat) (o:Oper),l[k]?=some o->ops[rs.length+k]?=some o)->(∀i,i<rs.length->kO C ops n ms gs bM H0 rs i)->rs'.length=rs.length+l.length/\∀i,i<rs'.length->kO C ops n ms gs bM H0 rs' i
 | [],rs,rs',h,_,hs=>by have h:rs=rs':=h;subst h;exact⟨rfl,hs⟩
 | o::l,rs,rs',h,hl,hs=>by
  have ho:=hl 0 o rfl;rw[Nat.add_zero] at ho;have next:∀(x:Dl),(jI C ops n ms gs true bM H0 l (rs++[x])).hit rs'->kO C ops n ms gs bM H0 (rs++[x]) rs.length->rs'.length=rs.length+(o::l).length/\∀i,i<rs'.length->kO C ops n ms gs bM H0 rs' i:=by
   intro x h hx;obtain⟨q1,q2⟩:=uh l (rs++[x]) rs' h (λk o' hk=>by
    rw[List.length_append,List.length_cons,List.length_nil,Nat.add_assoc,Nat.add_comm (0+1)];exact hl (k+1) o' (by simpa using hk)) λi hi=>by
     rw[List.length_append,List.length_cons,List.length_nil] at hi;by_cases e:i=rs.length
     ·rw[e];exact hx
     ·exact(hs i (by omega)).more (by omega) x
   refine⟨?_,q2⟩;rw[q1,List.length_append,List.length_cons,List.length_nil,List.length_cons];omega
  have sQ:∀x,(rs++[x]).take rs.length=rs:=λx=>by rw[List.take_append_of_le_length (Nat.le_refl _),List.take_length]
  have dE:∀x,(rs++[x])[rs.length]?=some x:=λx=>by rw[List.getElem?_append_right (Nat.le_refl _)];simp
  unfold jI at h;split at h
  ·rename_i hg;exact next _ h ⟨o,_,ho,dE _,.inl ⟨by rw[sQ];exact hg,rfl⟩⟩
  ·rename_i hg;obtain⟨r0,h1,h2⟩:=T.hit_bind h;simp only[Bool.not_true,Bool.false_or] at h2;split at h2
   ·rename_i QI;split at h2
    ·rename_i b lx;cases b with
     | true=>exact next _ (h2.1 rfl) ⟨o,_,ho,dE _,.inr ⟨by rw[sQ];exact hg,_,by rw[sQ];exact h1,QI,.inr ⟨true,rfl,rfl⟩⟩⟩
     | false=>exact next _ (h2.2 rfl) ⟨o,_,ho,dE _,.inr ⟨by rw[sQ];exact hg,_,by rw[sQ];exact h1,QI,.inr ⟨false,rfl,rfl⟩⟩⟩
    ·exact next _ h2 ⟨o,_,ho,dE _,.inr ⟨by rw[sQ];exact hg,_,by rw[sQ];exact h1,QI,.inl rfl⟩⟩
   ·exact h2.elim
  ·exact h.elim
theorem gA {rs:List Dl} {d:Nat->Bool}:(ey H0 n rs d).length=H0.length+n:=by simp[ey]
theorem gB {rs:List Dl} {d:Nat->Bool} {o:Nat} (ho:o<H0.length+n):(ey H0 n rs d)[o]?=some (fD H0.length rs d (H0.getD o .dead) o n):=by
 unfold ey;rw[List.getElem?_map,List.getElem?_range ho];rfl
theorem CI {rs:List Dl} {j:Nat} {r:Dl} (h:rs[j]?=some r):(gf rs)[j]?=some (some (r.x,r.nw)):=by
 unfold gf;rw[List.getElem?_map,h];rfl
theorem zM {rs:List Dl} {i:Nat}:gf (rs.take i)=(gf rs).take i:=by unfold gf;rw[List.map_take]
theorem gp {rs:List Dl}:(gf rs).length=rs.length:=by unfold gf;rw[List.length_map]
def DJ (m:Nat) (cx:Cx) (ops:Array Oper) (n:Nat) (bM:Env) (H0:List aa) (rs:List Dl) (d:Nat->Bool) (a:Act) (w:World):Prop:=
 ∃bs S,HS cx bs w S (ey H0 n rs d)/\(∀j,j<n->d j=false->bs[H0.length+j]?=some undef)/\ER m bs w S (gF ops (Am ops n d) bM d (gf rs)) a
theorem DJ.step {rs:List Dl} (hlen:rs.length=n) (_:n<=ops.size) (gX:∀i,i<n->kO C ops n ms gs bM H0 rs i) (VB:Wx H0.length n ms gs=true) (D7:uQ ops ms) (FV:ms.length=n) (gC:qj ops n m=true) (lP:∀(i j:Nat),waits ops i j=true->j<i) {Q':Exit->Act->World->Prop} {d:Nat->Bool} {a:Act} {w:World} {i:Nat} (hi:i<n) (h:DJ m cx ops n bM H0 rs d a w) (j8:d i=false) (mg:∀j,n<=j->d j=false) (hc:∀k q,d k=true->waits ops k q=true->d q=true) (hw:∀q,waits ops i q=true->d q=true) : wpOp P ops Q' i (DJ m cx ops n bM H0 rs (fu d i)) a w:=by
 obtain⟨bs,S,hs,hu,he⟩:=h;obtain⟨o,r,ho,hr,Eo⟩:=gX i hi;have uX:bs.length=H0.length+n:=by rw[hs.len,gA]
 have nO:∀t,bJ ops i=some t->t<m:=λt ht=>(gZ gC hi ht).1;have J3:o.dst=bJ ops i:=by unfold bJ;rw[ho];rfl
 have JE:∀{j k:Nat},j<n->selB ms j k=true->(∀q,waits ops j q=true->d q=true)->k<j/\d k=true:=by
  intro j k hj hk FO;unfold selB at hk;rw[Bool.and_eq_true,decide_eq_true_eq] at hk;refine⟨hk.1,?_⟩;have Qx:j<ms.length:=by rw[FV];exact hj
  have nK:=hk.2;rw[List.getD_eq_getElem?_getD,List.getElem?_eq_getElem Qx] at nK;exact D7 j _ (List.getElem?_eq_getElem Qx) k nK d hc FO
 have wl:∀j,selB ms i j=true->j<i/\d j=true:=λj hj=>JE hi hj hw;have FY:∀j,d j=true->j<n:=λj hj=>by
  rcases Nat.lt_or_ge j n with h|h
  ·exact h
  ·rw[mg j h] at hj;cases hj
 have Me:∀j,d j=true->selB ms j i=false:=λj hj=>by
  cases e:selB ms j i with
  | false=>rfl
  | true=>rw[(JE (FY j hj) e λq=>hc j q hj).2] at j8;cases j8
 have Mn:=VB;unfold Wx at Mn;rw[Bool.and_eq_true,beq_iff_eq] at Mn;obtain⟨Qz,SL⟩:=Mn;have IF:∀{j o:Nat},j<n->o<H0.length+n->(gs.getD j 0).testBit o=true->(o<H0.length\/selB ms j (o-H0.length)=true)/\∀k,k<j->selB ms j k=true\/(gs.getD k 0).testBit o=false:=by
  intro j o hj ho hb;have:=List.all_eq_true.1 (List.all_eq_true.1 SL j (List.mem_range.2 hj)) o (List.mem_range.2 ho);rw[hb] at this;simp only[Bool.not_true,Bool.false_or,Bool.and_eq_true,Bool.or_eq_true,decide_eq_true_eq] at this;refine⟨this.1,λk hk=>?_⟩;have:=List.all_eq_true.1 this.2 k (List.mem_range.2 hk);simpa using this
 have QI:∀{j o:Nat} {q:Dl} {x:aa},j<n->rs[j]?=some q->cH q.ch o=some x->o<H0.length+n/\(gs.getD j 0).testBit o=true:=by
  intro j o q x hj hq hx;obtain⟨p,hp,rfl⟩:=pC hx;obtain⟨o',r',_,fa,Ep⟩:=gX j hj;rw[hq] at fa;obtain rfl:=Option.some.inj fa;rcases Ep with⟨_,rfl⟩|⟨_,r0,_,ZB,rfl|⟨b,rfl,rfl⟩⟩
  ·cases hp
  ·have:=List.all_eq_true.1 ZB p hp;simpa using this
  ·cases hp
 have uc:∀{j o:Nat} {x:aa},j<n->iY H0.length rs j o=some x->o=H0.length+j\/(o<H0.length+n/\(gs.getD j 0).testBit o=true):=by
  intro j o x hj hx;unfold iY at hx;cases hq:rs[j]? with
  | none=>rw[hq] at hx;cases hx
  | some q=>
   rw[hq] at hx;simp only at hx;split at hx
   ·rename_i e;exact .inl e
   ·exact .inr (QI hj hq hx)
 have lw:∀(v:Value) t,bJ ops i≠some t->(a.put o.dst v).tmps[t]?=a.tmps[t]?:=by
  intro v t hx;rw[J3];cases e:bJ ops i with
  | none=>rfl
  | some q=>
   have hne:q≠t:=λe2=>hx (by rw[e,e2]);show(a.tmps.setIfInBounds q v)[t]?=_;rw[Array.getElem?_setIfInBounds_ne hne]
 have kD:∀v:Value,(a.put o.dst v).tmps.size=m/\(a.put o.dst v).defers=[]:=by
  intro v;cases o.dst with
  | none=>exact⟨he.s,he.d⟩
  | some q=>exact⟨by show(a.tmps.setIfInBounds q v).size=m;rw[Array.size_setIfInBounds];exact he.s,he.d⟩
 have nQ:∀t x,(t,x)∈gF ops (Am ops n (fu d i)) bM (fu d i) (gf rs)->((t,x)∈gF ops (Am ops n d) bM d (gf rs)/\bJ ops i≠some t)\/(bJ ops i=some t/\r.x=x):=by
  intro t x hx;rcases eQ hx with⟨j,q,hj,dl,ht,hq,Zg⟩|⟨h1,hn⟩
  ·by_cases e:j=i
   ·subst e;rw[CI hr] at hq;obtain rfl:=Option.some.inj (Option.some.inj hq);exact .inr ⟨ht,Zg⟩
   ·rw[aN d e] at dl;subst Zg;exact .inl ⟨eJ hj dl ht hq,λe2=>yK gC hi (by rw[gp] at hj;omega) (λe3=>e e3.symm) t e2 ht⟩
  ·obtain⟨k1,k2⟩:=yr hi hn j8;exact .inl ⟨gE h1 k1,k2⟩
 have t9:∀j,j<i->(gf (rs.take i))[j]?=(gf rs)[j]?:=λj hj=>by rw[zM,List.getElem?_take,if_pos hj]
 have nM:∀{c:Bool},FZ ops i o (gf (rs.take i))=some c->Region.wanted o (yielded ops a.tmps)=c:=by
  intro c hg;unfold FZ at hg;split at hg
  ·rename_i lx;injection hg with hg
   subst hg;simp[Region.wanted,lx]
  ·rename_i j want lx;split at hg
   ·rename_i FO;have Eb:=lP i j FO;rw[t9 j Eb] at hg;split at hg
    ·rename_i t b _ ht hr;injection hg with hg
     subst hg;obtain⟨v,hv,hx⟩:=he.k t _ (eJ (by rw[gp];omega) (hw j FO) ht hr);obtain⟨rfl,_⟩:=hx;exact jf lx ht hv
    ·rename_i t _ ht hr;injection hg with hg
     subst hg;obtain⟨v,hv,vs,e1,e2⟩:=he.k t _ (eJ (by rw[gp];omega) (hw j FO) ht hr);cases e2
     exact kV lx ht (by rw[hv,e1];rfl)
    ·cases hg
   ·cases hg
 have Qn:(ey H0 n rs d)[H0.length+i]?=some .dead:=by
  rw[gB (by omega)];have:fD H0.length rs d (H0.getD (H0.length+i) .dead) (H0.length+i) n=fD H0.length rs (λ_=>false) (H0.getD (H0.length+i) .dead) (H0.length+i) n:=by
   refine iU λj hj=>?_;cases j7:d j with
   | false=>exact .inl rfl
   | true=>
    right
    cases hx:iY H0.length rs j (H0.length+i) with
    | none=>rfl
    | some x=>
     rcases uc hj hx with e|⟨_,e⟩
     ·have:i=j:=by omega
      subst this;rw[j8] at j7;cases j7
     ·rcases(IF hj (by omega) e).1 with q|q
      ·omega
      ·rw[Nat.add_sub_cancel_left,Me j j7] at q;cases q
  rw[this,si,List.getD_eq_getElem?_getD,List.getElem?_eq_none (by omega)];rfl
 have J9:∀q:Dl,q.ch=r.ch->q.nw=r.nw->er (q.ch++[(H0.length+i,q.nw.getD .dead)]) (ey H0 n rs d)=ey H0 n rs (fu d i):=by
  intro q e1 e2;rw[e1,e2];refine List.ext_getElem? λk=>?_;by_cases hk:k<H0.length+n
  ·rw[gn (gB hk),gB hk,nz];congr 1
   have hci:iY H0.length rs i k=if H0.length+i=k then some (r.nw.getD .dead) else cH r.ch k:=by
    unfold iY;rw[hr];by_cases e:H0.length+i=k
    ·subst e;simp
    ·rw[if_neg e];simp only;rw[if_neg (Ne.symm e)]
   rw[<-hci];refine(EH j8 hi λj hj1 nK j7=>?_).symm;cases hx:iY H0.length rs j k with
   | none=>exact .inl rfl
   | some x=>
    right
    cases hy:iY H0.length rs i k with
    | none=>rfl
    | some y=>
     exfalso
     have NZ:=Me j j7;rcases uc nK hx with e|⟨_,e⟩
     ·rcases uc hi hy with e'|⟨_,e'⟩
      ·omega
      ·rcases(IF hi hk e').1 with q|q
       ·omega
       ·rw[e,Nat.add_sub_cancel_left] at q;have:=(wl j q).1;omega
     ·rcases uc hi hy with e'|⟨_,e'⟩
      ·rcases(IF nK hk e).1 with q|q
       ·omega
       ·rw[e',Nat.add_sub_cancel_left,NZ] at q;cases q
      ·rcases(IF nK hk e).2 i hj1 with q|q
       ·rw[NZ] at q;cases q
       ·rw[e'] at q;cases q
  ·rw[List.getElem?_eq_none (by rw[dm,gA];omega),List.getElem?_eq_none (by rw[gA];omega)]
 rcases Eo with⟨hg,rfl⟩|⟨hg,r0,VJ,ZB,Ir⟩
 ·
  have t7:=nM hg;unfold wpOp;rw[ho];simp only[t7,Bool.false_eq_true,if_false];have hh:=J9 TO rfl rfl;have hh:(ey H0 n rs d).set (H0.length+i) .dead=ey H0 n rs (fu d i):=hh;rw[ti λx hx=>by rw[Qn] at hx;exact(Option.some.inj hx).symm] at hh;refine⟨bs,S,hh▸hs,λj hj j7=>hu j hj ?_,(kD undef).2,(kD undef).1,λt x hx=>?_⟩
  ·by_cases e:j=i
   ·subst e;exact j8
   ·rw[aN d e] at j7;exact j7
  ·rcases nQ t x hx with⟨hx,hne⟩|⟨ht,rfl⟩
   ·obtain⟨v,q1,q2⟩:=he.k t x hx;exact⟨v,(lw undef t hne).trans q1,q2⟩
   ·refine⟨undef,?_,[],rfl,.nil⟩;rw[J3,ht];show(a.tmps.setIfInBounds t undef)[t]?=_;exact Array.getElem?_setIfInBounds_self_of_lt (by rw[he.s];exact nO t ht)
 ·have t7:=nM hg;have Zd:r0.ch=r.ch/\r0.nw=r.nw:=by
   rcases Ir with rfl|⟨b,rfl,rfl⟩<;>exact⟨rfl,rfl⟩
  have US:ow (tj H0 n (rs.take i) (selB ms i) (AJ H0.length ms gs i)) (ey H0 n rs d):=by
   refine⟨by rw[gA];simp[tj],λk x hx=>?_⟩;unfold tj at hx;rw[List.getElem?_map] at hx;by_cases hk:k<H0.length+n
   ·rw[List.getElem?_range hk] at hx;have hx:(if AJ H0.length ms gs i k then aa.dead else fD H0.length (rs.take i) (selB ms i) (H0.getD k .dead) k (rs.take i).length)=x:=Option.some.inj hx;cases hh:AJ H0.length ms gs i k with
    | true=>rw[hh] at hx;exact .inl (by simpa using hx.symm)
    | false=>
     right
     rw[hh] at hx;have hx:fD H0.length (rs.take i) (selB ms i) (H0.getD k .dead) k (rs.take i).length=x:=by simpa using hx
     rw[gB hk,<-hx];congr 1
     rw[List.length_take,Nat.min_eq_left (by omega),Kk (rs:=rs.take i) (rs':=rs) (n:=i) λj hj=>by rw[List.getElem?_take,if_pos hj]];rw[<-EI (d:=selB ms i) (i:=i) (n:=n) (by omega) λj h1 h2=>by
      cases e:selB ms i j with
      | false=>rfl
      | true=>have:=(wl j e).1;omega]
     refine iU λj hj=>?_;cases j7:d j with
     | false=>
      left
      cases e:selB ms i j with
      | false=>rfl
      | true=>have:=(wl j e).2;rw[j7] at this;cases this
     | true=>
      cases e:selB ms i j with
      | true=>exact .inl rfl
      | false=>
       right
       have oE:j≠i:=λe=>by subst e;rw[j8] at j7;cases j7
       unfold AJ at hh;rw[Bool.or_eq_false_iff] at hh;cases hx:iY H0.length rs j k with
       | none=>rfl
       | some y=>
        exfalso
        rcases uc hj hx with e2|⟨_,e2⟩
        ·have h1:=hh.1;rw[e2,Nat.add_sub_cancel_left,e] at h1;simp at h1
        ·have:=List.any_eq_false.1 hh.2 j (List.mem_range.2 (by omega));rw[e,Me j j7,e2] at this;simp[oE] at this
   ·rw[List.getElem?_eq_none (by simpa using hk)] at hx;cases hx
  have VH:ER m bs w S (gF ops (Ic ops n ms i) bM (selB ms i) (gf (rs.take i))) a:=by
   refine⟨he.d,he.s,λt x hx=>?_⟩;rcases eQ hx with⟨j,q,hj,dl,ht,hq,rfl⟩|⟨h1,hn⟩
   ·obtain⟨q1,q2⟩:=wl j dl;rw[t9 j q1] at hq;exact he.k t _ (eJ (by rw[gp];omega) q2 ht hq)
   ·exact he.k t x (gE h1 (JX D7 FV j8 hc hn))
  refine mK ho t7 (M6 US hs VH Qn (hu i hi j8) VJ λv w' aD S' dl hS aV nR hsame hx=>?_);rw[J9 r0 Zd.1 Zd.2] at dl;refine⟨aD,S',dl,λj hj j7=>?_,(kD v).2,(kD v).1,λt x UP=>?_⟩
  ·by_cases e:j=i
   ·subst e;rw[dB] at j7;cases j7
   ·rw[aN d e] at j7;rw[hsame _ (by omega)];exact hu j hj j7
  ·rcases nQ t x UP with⟨UP,hne⟩|⟨ht,rfl⟩
   ·obtain⟨z,q1,q2⟩:=he.k t x UP;exact⟨z,(lw v t hne).trans q1,q2.keep hS aV nR⟩
   ·refine⟨v,?_,?_⟩
    ·rw[J3,ht];show(a.tmps.setIfInBounds t v)[t]?=_;exact Array.getElem?_setIfInBounds_self_of_lt (by rw[he.s];exact nO t ht)
    ·have ju:=hx (by rw[J3,ht];rfl);rcases Ir with rfl|⟨b,rfl,rfl⟩
     ·exact ju
     ·exact ju
theorem EW {id:Nat} {st bG:bT} {a:Act} {w:World} {n:Nat} (h:(IY C m ops n st).hit bG) (aY:cP m cx st a w) (hQ:∀a' w',cP m cx bG a' w'->Q .normal a' w'):(Code.region id ops true).wp P Q a w:=by
 unfold IY at h;split at h
 ·rename_i hc;simp only[Bool.and_eq_true] at hc;obtain⟨⟨⟨hm,hb⟩,il⟩,gC⟩:=hc;simp only at h;generalize QT n (jI C ops n (nk (ops.toList.take n) []) [] false st.env st.heap (ops.toList.take n) []).lvs=gs at h;split at h
  ·rename_i VB;obtain⟨rs,h1,h2⟩:=T.hit_bind h;have hsz:=cQ hb;have wu:n<=ops.size:=by omega
   have Az:(ops.toList.take n).length=n:=by rw[List.length_take,Array.length_toList];omega
   have dE:∀(k:Nat) (o:Oper),(ops.toList.take n)[k]?=some o->ops[k]?=some o:=λk o hk=>by
    rw[List.getElem?_take] at hk;split at hk
    ·simpa using hk
    ·cases hk
   obtain⟨q1,q2⟩:=uh _ [] rs h1 (λk o hk=>by rw[List.length_nil,Nat.zero_add];exact dE k o hk) λi hi=>absurd hi (Nat.not_lt_zero _);rw[List.length_nil,Nat.zero_add,Az] at q1;have D7:uQ ops (nk (ops.toList.take n) []):=rp _ [] (λi s hs=>by cases hs) λk o hk=>by rw[List.length_nil,Nat.zero_add];exact dE k o hk
   have FV:∀(l:List Oper) (fg:List Nat),(nk l fg).length=fg.length+l.length:=by
    intro l;induction l with
    | nil=>intro fg;rfl
    | cons o l ih=>intro fg;show(nk l _).length=_;rw[ih,List.length_append,List.length_cons,List.length_nil,List.length_cons];omega
   have lP:∀(i j:Nat),waits ops i j=true->j<i:=by
    intro i j hw;unfold waits at hw;cases ho:ops[i]? with
    | none=>rw[ho] at hw;cases hw
    | some o=>
     rw[ho] at hw;simp only[Option.map_some,Option.getD_some,Array.any_eq_true',Bool.and_eq_true,beq_iff_eq] at hw;obtain⟨e,he,SQ,rfl⟩:=hw;exact i6 hb ho e he SQ
   refine iC n (ops.size-n) (DJ m cx ops n st.env st.heap rs) hm hb il ?_ (λQ' d a w i hi hI j8 mg hc hw=>DJ.step q1 wu (λi hi=>q2 i (by omega)) VB D7 (by rw[FV,List.length_nil,Nat.zero_add,Az]) gC lP hi hI j8 mg hc hw) λd a w hI jy=>?_
   ·obtain⟨bs,S,hs,he⟩:=aY;have hd:Below w.heap.size w w.drew:=(Below.refl _ _).drew;have hh0:ey st.heap n rs (λ_=>false)=st.heap++List.replicate n .dead:=by
     refine List.ext_getElem? λk=>?_;by_cases hk:k<st.heap.length+n
     ·rw[gB hk,si];by_cases fb:k<st.heap.length
      ·rw[List.getElem?_append_left fb,List.getD_eq_getElem?_getD,List.getElem?_eq_getElem fb];rfl
      ·rw[List.getElem?_append_right (by omega),List.getElem?_replicate,if_pos (by omega),List.getD_eq_getElem?_getD,List.getElem?_eq_none (by omega)];rfl
     ·rw[List.getElem?_eq_none (by rw[gA];omega),List.getElem?_eq_none (by rw[List.length_append,List.length_replicate];omega)]
    refine⟨bs++List.replicate n undef,S,by rw[hh0];exact(hs.grow hd (λ_ h=>h) λ_ h=>.inl h).pads n,λj hj _=>?_,he.d,he.s,λt x hx=>?_⟩
    ·rw[<-hs.len,List.getElem?_append_right (by omega),Nat.add_sub_cancel_left,List.getElem?_replicate,if_pos hj]
    ·rcases eQ hx with⟨j,r,_,h,_⟩|⟨h1,_⟩
     ·cases h
     ·obtain⟨v,k1,k2⟩:=he.k t x h1;exact⟨v,k1,k2.keep (λ_ h=>h) (λ_ _=>rfl) λo u hu _=>by rw[List.getElem?_append_left (List.getElem?_eq_some_iff.1 hu).1];exact hu⟩
   ·obtain⟨bs,S,hs,_,he⟩:=hI;have ik:cP m cx ⟨gF ops (k7 ops n) st.env (λ_=>true) (gf rs),ey st.heap n rs (λ_=>true)⟩ a w:=by
     refine⟨bs,S,?_,he.d,he.s,λt x hx=>he.k t x ?_⟩
     ·have:ey st.heap n rs (λ_=>true)=ey st.heap n rs d:=by
       unfold ey;refine List.map_congr_left λo _=>iU λj hj=>.inl ?_;rw[jy j hj]
      show HS cx bs w S (ey st.heap n rs (λ_=>true));rw[this];exact hs
     ·rcases eQ hx with⟨j,r,hj,_,ht,hr,rfl⟩|⟨k1,k2⟩
      ·rw[gp] at hj;exact eJ (by rw[gp];exact hj) (jy j (by omega)) ht hr
      ·exact gE k1 (yt k2)
    have:=mi (C:=C) (Q:=Q) (cx:=cx) (ops.toList.drop n) n rfl h2 ik hQ
    rwa [List.length_drop,Array.length_toList] at this
  ·exact h.elim
 ·exact h.elim
end
def JN (l:List Oper):Bool:=l.any λo=>match o.op with
 | .build _ ps=>ps.toList.any λp=>match p.2 with
  | .tmp t=>l.any λq=>match q.op with
   | .buildSlice _ _ _=>q.dst==some t
   | _=>false
  | _=>false
 | _=>false
def JM {P:Program} (C:dN P) (l:List Oper):Bool:=l.any λo=>match o.op with
 | .call { callee:=.value (.func f),args:=args, .. }=>(C.D.find? λs=>s.f==f).any Sm.al&&args.toList.any λx=>match x with
  | .tmp t=>l.any λq=>match q.op with
   | .buildSlice _ _ _=>q.dst==some t
   | .makeSlice _ _ _=>q.dst==some t
   | _=>false
  | _=>false
 | _=>false
def No {P:Program} (C:dN P) (m:Nat) (ops:Array Oper) (st:bT):T bT:=
 if !(JN ops.toList)&&!(JM C ops.toList)&&nA ops (uo C [] ops.toList) (uo C [] ops.toList+(ops.size-uo C [] ops.toList)) then IX C m ops (uo C [] ops.toList) st
 else if !(JN ops.toList)&&!(JM C ops.toList)&&nA ops (oa C ops.toList) (oa C ops.toList+(ops.size-oa C ops.toList)) then IX C m ops (oa C ops.toList) st
 else if nA ops (oc [] ops.toList) (oc [] ops.toList+(ops.size-oc [] ops.toList)) then IY C m ops (oc [] ops.toList) st else IY C m ops ops.size st
def Ks {P:Program} (C:dN P) (m:Nat) (fn:Func) (pb:List Nat) (vw:Bool) (hv:pb=[]\/vw=false):Rg P m where
 fn:=fn
 pb:=pb
 reg id ops dr st:=if dr then No C m ops st else vA C m ops ops.toList st
 ok id ops dr cx st bG a w Q h hs hQ:=by
  cases dr with
  | true=>
   have h:(No C m ops st).hit bG:=h;unfold No at h;split at h
   ·exact ET h hs hQ
   ·split at h
    ·exact ET h hs hQ
    ·split at h
     ·exact EW h hs hQ
     ·exact EW h hs hQ
  | false=>exact zQ h hs hQ
 res:=KW P C.ty fn vw
 resOk cx st a w r jl h hs:=GC (hv.imp (λe=>jl.trans e) id) h hs
theorem T.hit_map {α β:Type} {f:α->β} {t:T α} {r:β} (h:(t.bind λx=>.lf (f x)).hit r):∃q,t.hit q/\f q=r:=T.hit_bind h
def Kh {P:Program} {m:Nat} (R:Rg P m) (tb:List (Nat×List Nat)):Rg P m:={ R with
 reg:=λid ops dr st=>match tb.lookup id with
  | some l=>(R.reg id ops dr st).bind λst=>.lf (l.foldl sd st)
  | none=>R.reg id ops dr st
 ok:=λid ops dr cx st bG a w Q h hs hQ=>by
  revert h
  split
  ·intro h;obtain⟨q,h1,h2⟩:=T.hit_map h;exact R.ok id ops dr cx st q a w Q h1 hs λa' w' h'=>hQ a' w' (h2▸se h')
  ·intro h;exact R.ok id ops dr cx st bG a w Q h hs hQ }
structure oY where
 f:bT->T bT
 ok:∀(m:Nat) (cx:Cx) (st bG:bT) (a:Act) (w:World),(f st).hit bG->cP m cx st a w->cP m cx bG a w
def rowAt (H:List aa) (q k:Nat):Option Nat:=match H[q]? with
 | some (.cells _ cs)=>match cs[k]? with
  | some (.own o)=>some o
  | _=>none
 | _=>none
section
variable {m:Nat} {cx:Cx} {st:bT} {a:Act} {w:World} {S:Nat->Prop}
theorem GV {α:Type} [ak α] {k B:Nat} {e:TypeId} {v:Value} {xs:List α} (hk:ak.sz α=k) (h:Own w S B e v xs):∃aO:List (fl k),Own w S B e v aO/\aO.length=xs.length/\∀(j:Nat) (r:fl k) (x:α),aO[j]?=some r->xs[j]?=some x->ak.rep w S r.cells x:=by
 subst hk;obtain⟨cs,h1,h2,h3⟩:=h;have:∀{cs:List Value} {xs:List α},Flat w S cs xs->∃aO:List (fl (ak.sz α)),Flat w S cs aO/\aO.length=xs.length/\∀(j:Nat) (r:fl (ak.sz α)) (x:α),aO[j]?=some r->xs[j]?=some x->ak.rep w S r.cells x:=by
  intro cs xs hf;induction hf with
  | nil=>exact⟨[],.nil,rfl,λj r x h=>by cases h⟩
  | @snoc cs ds xs x hf hr ih=>
   obtain⟨aO,q1,q2,q3⟩:=ih;refine⟨aO++[⟨ds,ak.len hr⟩],.snoc q1 rfl,by simp[q2],λj r y hj hy=>?_⟩;by_cases Ml:j<aO.length
   ·rw[List.getElem?_append_left Ml] at hj;rw[List.getElem?_append_left (by omega)] at hy;exact q3 j r y hj hy
   ·have nK:j=aO.length:=by have:=(List.getElem?_eq_some_iff.1 hj).1;simp at this;omega
    subst nK;rw[List.getElem?_append_right (Nat.le_refl _)] at hj;rw[q2,List.getElem?_append_right (Nat.le_refl _)] at hy;simp at hj hy;subst hj hy;exact hr
 obtain⟨aO,q1,q2,q3⟩:=this h2;exact⟨aO,⟨cs,by rw[q2];exact h1,q1,h3⟩,q2,q3⟩
theorem GK {α:Type} [ak α] {B:Nat} {e:TypeId} {v:Value} {xs:List α} {aO:List (fl (ak.sz α))} (h:Own w S B e v aO) (hl:aO.length=xs.length) (hr:∀(j:Nat) (r:fl (ak.sz α)) (x:α),aO[j]?=some r->xs[j]?=some x->ak.rep w S r.cells x):Own w S B e v xs:=by
 obtain⟨cs,h1,h2,h3⟩:=h;have:∀{cs:List Value} {aO:List (fl (ak.sz α))},Flat w S cs aO->∀xs:List α,aO.length=xs.length->(∀(j:Nat) (r:fl (ak.sz α)) (x:α),aO[j]?=some r->xs[j]?=some x->ak.rep w S r.cells x)->Flat w S cs xs:=by
  intro cs aO hf;induction hf with
  | nil=>intro xs hl _;rw[List.eq_nil_of_length_eq_zero hl.symm];exact .nil
  | @snoc cs ds aO r hf hd ih=>
   intro xs hl hr;have hne:xs≠[]:=λe=>by rw[e] at hl;simp at hl
   have FN:xs=xs.dropLast++[xs.getLast hne]:=(List.dropLast_concat_getLast hne).symm;have hlen:aO.length=xs.dropLast.length:=by rw[List.length_dropLast];simp at hl;omega
   rw[FN];have hd:ds=r.cells:=hd;refine .snoc (ih _ hlen λj r' x hj hx=>hr j r' x (by rw[List.getElem?_append_left (List.getElem?_eq_some_iff.1 hj).1];exact hj) (by rw[FN,List.getElem?_append_left (List.getElem?_eq_some_iff.1 hx).1];exact hx)) ?_;rw[hd];exact hr aO.length r _ (by rw[List.getElem?_append_right (Nat.le_refl _)];simp) (by
    conv=>lhs;rw[FN]
    rw[hlen,List.getElem?_append_right (Nat.le_refl _)];simp)
 exact⟨cs,by rw[<-hl];exact h1,this h2 xs hl hr,h3⟩
theorem HS.alt {bs:List Value} {H:List aa} (h:HS cx bs w S H) {i:Nat} {x y:aa} {v:Value} (hx:H[i]?=some x) (hv:bs[i]?=some v) (jG:OR bs w S y v) (hb:∀c,Bk y v c->Bk x v c:=by intro c h;exact h):HS cx bs w S (H.set i y):=
 h.setB hx hv (row:=none) ⟨rfl,rfl,rfl,Nat.le_refl _,λ_ _ _=>rfl⟩ (λ_ e=>by cases e) jG hb
def u6 (q k:Nat) (t tn:Ty) (st:bT):T bT:=match rowAt st.heap q k with
 | some o=>match st.heap[o]? with
  | some (.row Cf e rs)=>match Ty.eq? Cf tn with
   | some h=>if ak.sz (El tn)=ak.sz (El t) then .lf ⟨st.env,st.heap.set o (.zc e t tn rs.length [] (h.down▸rs.reverse))⟩ else .bad
   | none=>.bad
  | _=>.bad
 | none=>.bad
theorem zk {q k:Nat} {t tn:Ty} {bG:bT} (h:(u6 q k t tn st).hit bG) (aY:cP m cx st a w):cP m cx bG a w:=by
 unfold u6 at h;split at h
 ·rename_i o _;split at h
  ·rename_i Cf e rs hH;split at h
   ·rename_i hq _;obtain⟨hq⟩:=hq;subst hq;split at h
    ·rename_i hsz;obtain rfl:=h;obtain⟨bs,S,hs,he⟩:=aY;have sU:o<bs.length:=by rw[hs.len];exact(List.getElem?_eq_some_iff.1 hH).1
     have hv:=List.getElem?_eq_getElem sU;obtain⟨aO,r1,r2,r3⟩:=GV hsz (hs.o o _ _ hH hv);refine⟨bs,S,hs.alt hH hv ⟨aO,r1,by rw[r2,List.length_reverse],λj r hj=>⟨λx hx=>(by cases hx),λ_=>?_⟩⟩,he⟩;have Ml:j<rs.reverse.length:=by rw[<-r2];exact(List.getElem?_eq_some_iff.1 hj).1
     have hx:=List.getElem?_eq_getElem Ml;have hg:rs.reverse.getD (j-([]:List (El t)).length) (sW Cf)=rs.reverse[j]:=by
      rw[List.length_nil,Nat.sub_zero,List.getD_eq_getElem?_getD,hx];rfl
     show ak.rep w S r.cells (rs.reverse.getD (j-([]:List (El t)).length) (sW Cf));rw[hg];exact r3 j r _ hj hx
    ·exact h.elim
   ·exact h.elim
  ·exact h.elim
 ·exact h.elim
def PD (H:List aa) (q k:Nat):Option Nat:=match H[q]? with
 | some (.cells _ cs)=>match cs[k]? with
  | some (.mp o)=>some o
  | _=>none
 | _=>none
def BE (q k:Nat) (e:TypeId) (st:bT):T bT:=match PD st.heap q k with
 | some o=>match st.heap[o]? with
  | some (.mp kt (.list t) n f)=>.nd (∀k,f k=none) (.lf ⟨st.env,(st.heap.set o (.mq st.heap.length))++[.mr o kt t e n λ_=>none]⟩)
  | _=>.bad
 | none=>.bad
theorem BD {q k:Nat} {e:TypeId} {bG:bT} (h:(BE q k e st).hit bG) (aY:cP m cx st a w):cP m cx bG a w:=by
 unfold BE at h;split at h
 ·rename_i o _;split at h
  ·rename_i kt t n f hH;obtain⟨hf,h⟩:=h;obtain rfl:=h;obtain⟨bs,S,hs,he⟩:=aY;have sU:o<st.heap.length:=(List.getElem?_eq_some_iff.1 hH).1;obtain⟨v,hv⟩:∃v,bs[o]?=some v:=⟨_,List.getElem?_eq_getElem (by rw[hs.len];exact sU)⟩;obtain⟨b,g,e1,hg,hfg⟩:=hs.o o _ _ hH hv;have hB:Bk (.mp kt (.list t) n f) v b:=by rw[e1];rfl
   have SK:∀k,g k=none:=λk=>by have:=hfg k;rw[hf k] at this;exact this
   have s1:=hs.alt hH hv (y:=.mq st.heap.length) ⟨b,e1⟩ (λ_ h=>by cases h);have D3:=s1.pad;have hl1:(st.heap.set o (.mq st.heap.length)).length=st.heap.length:=List.length_set;have hj:((st.heap.set o (.mq st.heap.length))++[aa.dead])[st.heap.length]?=some .dead:=by rw[List.getElem?_append_right (by rw[hl1];exact Nat.le_refl _),hl1];simp
   have nK:(bs++[undef])[st.heap.length]?=some undef:=by rw[<-hs.len,List.getElem?_append_right (Nat.le_refl _)];simp
   have fc:=D3.fill (x:=.mr o kt t e n λ_=>none) (v:=lD b []) hj nK rfl
    ⟨b,[],g,rfl,by rw[List.getElem?_set_ne (by omega),List.getElem?_append_left (by rw[hs.len];exact sU),hv,e1],hg,λk u=>by rw[SK k];simp,λk _=>SK k,(λk k' u u' c q=>by rw[SK k] at q;cases q),λk u q=>by rw[SK k] at q;cases q⟩
    (λc hc=>by
     obtain⟨b',l',e2,hc⟩:=hc;obtain⟨rfl,rfl⟩:=gL e2;rcases hc with rfl|⟨_,_,_,hu,_⟩
     ·refine⟨(hs.nw _ _ _ _ hH hv hB).1,(hs.nw _ _ _ _ hH hv hB).2,λi y u hy hu hc1=>?_⟩;by_cases hi:i<st.heap.length
      ·rw[List.getElem?_append_left (by rw[hl1];exact hi)] at hy;rw[List.getElem?_append_left (by rw[hs.len];exact hi)] at hu;by_cases Vy:i=o
       ·subst Vy;rw[List.getElem?_set_self sU] at hy;obtain rfl:=Option.some.inj hy;cases hc1
       ·rw[List.getElem?_set_ne (Ne.symm Vy)] at hy;exact hs.ap i o _ _ _ _ _ Vy hy hu hH hv hc1 hB
      ·have hlt:=(List.getElem?_eq_some_iff.1 hy).1;rw[List.length_append,hl1] at hlt;obtain rfl:i=st.heap.length:=by simp at hlt;omega
       rw[hj] at hy;obtain rfl:=Option.some.inj hy;cases hc1
     ·cases hu)
   have e3:((st.heap.set o (.mq st.heap.length))++[aa.dead]).set st.heap.length (.mr o kt t e n λ_=>none)=(st.heap.set o (.mq st.heap.length))++[.mr o kt t e n λ_=>none]:=by
    rw[List.set_append_right _ _ (by rw[hl1];exact Nat.le_refl _),hl1];simp
   rw[e3] at fc;refine⟨_,S,fc,he.keep (λ_ h=>h) (af.refl _ _) λi u hu kR=>?_⟩;have hi:=(List.getElem?_eq_some_iff.1 hu).1;rw[hs.len] at hi;rw[List.getElem?_set_ne (by omega),List.getElem?_append_left (by rw[hs.len];exact hi)];exact hu
  ·exact h.elim
 ·exact h.elim
def BG (q k:Nat) (st:bT):T bT:=match rowAt st.heap q k with
 | some o=>match st.heap[o]? with
  | some (.zc e t tn dQ done rest)=>.nd (done.length<dQ) (.lf ⟨st.env,(st.heap++[aa.dead]).set o (.zip st.heap.length e t tn dQ done (kS tn (rest.getD 0 (sW tn))) (rest.drop 1))⟩)
  | _=>.bad
 | none=>.bad
theorem BF {q k:Nat} {bG:bT} (h:(BG q k st).hit bG) (aY:cP m cx st a w):cP m cx bG a w:=by
 unfold BG at h;split at h
 ·rename_i o _;split at h
  ·rename_i e t tn dQ done rest hH;obtain⟨hlt,h⟩:=h;obtain rfl:=h;obtain⟨bs,S,hs,he⟩:=aY;have sU:o<bs.length:=by rw[hs.len];exact(List.getElem?_eq_some_iff.1 hH).1
   have hv:=List.getElem?_eq_getElem sU;obtain⟨aO,ho,hz⟩:=hs.o o _ _ hH hv;obtain⟨g,n,c,hvs⟩:∃g n c,bs[o]=.slice (some ⟨g,0,none⟩) n c:=by
    obtain⟨cs,⟨_,h2⟩,_⟩:=ho;rcases h2 with⟨_,hn⟩|⟨g,cap,cur,fW,_⟩
    ·rw[hz.1] at hn;omega
    ·exact⟨g,_,_,fW⟩
   have D3:=hs.pad;have hj:(st.heap++[aa.dead])[st.heap.length]?=some .dead:=by rw[List.getElem?_append_right (Nat.le_refl _)];simp
   have nK:(bs++[undef])[st.heap.length]?=some undef:=by rw[<-hs.len,List.getElem?_append_right (Nat.le_refl _)];simp
   have fc:=D3.fill (x:=.dead) (v:=.pointer (some ⟨g,done.length*ak.sz (El t),none⟩)) hj nK rfl trivial (λb hb=>by cases hb);rw[CF hj] at fc;have pR:(bs++[undef]).set st.heap.length (.pointer (some ⟨g,done.length*ak.sz (El t),none⟩))=bs++[.pointer (some ⟨g,done.length*ak.sz (El t),none⟩)]:=by
    rw[<-hs.len,List.set_append_right _ _ (Nat.le_refl _)];simp
   rw[pR] at fc;have hH2:(st.heap++[aa.dead])[o]?=some (.zc e t tn dQ done rest):=by rw[List.getElem?_append_left (List.getElem?_eq_some_iff.1 hH).1];exact hH
   have fW:(bs++[.pointer (some ⟨g,done.length*ak.sz (El t),none⟩)])[o]?=some bs[o]:=by rw[List.getElem?_append_left sU];exact hv
   have hd:∀k,(rest.drop 1).getD k (sW tn)=rest.getD (k+1) (sW tn):=λk=>by
    rw[List.getD_eq_getElem?_getD,List.getD_eq_getElem?_getD,List.getElem?_drop,Nat.add_comm]
   refine⟨_,S,fc.alt (y:=.zip st.heap.length e t tn dQ done (kS tn (rest.getD 0 (sW tn))) (rest.drop 1)) hH2 fW ⟨aO,ho,⟨hz.1,λj r hr=>?_⟩,hlt,.pointer (some ⟨g,done.length*ak.sz (El t),none⟩),by rw[<-hs.len,List.getElem?_append_right (Nat.le_refl _)];simp,rfl,λg' n' c' e=>by rw[hvs] at e;injection e with e;injection e with e;injection e with e;rw[e]⟩,he.keep (λ_ h=>h) (af.refl _ _) (i7 _ _)⟩;obtain⟨z1,z2⟩:=hz.2 j r hr;refine⟨z1,λe=>?_,λwv=>?_⟩
   ·have:=z2 (by omega);rw[show j-done.length=0 by omega] at this;exact fZ this
   ·rw[hd,show j-done.length-1+1=j-done.length by omega];exact z2 (by omega)
  ·exact h.elim
 ·exact h.elim
def Lg (cs:List AV):List Nat:=cs.filterMap λ
 | .own o=>some o
 | _=>none
def xg (q k:Nat) (st:bT):T bT:=match rowAt st.heap q k with
 | some o=>match st.heap[o]? with
  | some (.zip _ e t tn dQ done cur rest)=>(T.op (un t cur)).bind λy=>.lf ⟨st.env,st.heap.set o (.zc e t tn dQ (done++[y]) rest)⟩
  | _=>.bad
 | none=>.bad
def F5 (q k:Nat) (st:bT):bT:=match rowAt st.heap q k with
 | some o=>match st.heap[o]? with
  | some (.zip _ _ _ _ _ _ cur _)=>(Lg cur).foldl (λst i=>IM i st) st
  | _=>st
 | none=>st
def u5 (q k:Nat) (st:bT):T bT:=xg q k (F5 q k st)
theorem zj {q k:Nat} {bG:bT} (h:(u5 q k st).hit bG) (aY:cP m cx st a w):cP m cx bG a w:=by
 have hf:cP m cx (F5 q k st) a w:=by
  unfold F5;split
  ·split
   ·rename_i cur _ _;have:∀(l:List Nat) (st:bT),cP m cx st a w->cP m cx (l.foldl (λst i=>IM i st) st) a w:=by
     intro l;induction l with
     | nil=>intro st h;exact h
     | cons i l ih=>intro st h;exact ih _ (nW h)
    exact this _ _ aY
   ·exact aY
  ·exact aY
 unfold u5 at h;generalize F5 q k st=st1 at h hf;unfold xg at h;split at h
 ·rename_i o _;split at h
  ·rename_i o2 e t tn dQ done cur rest hH;obtain⟨y,h1,h2⟩:=T.hit_bind h;obtain rfl:=h2;have hy:=T.hit_op h1;obtain⟨bs,S,hs,he⟩:=hf;have sU:o<bs.length:=by rw[hs.len];exact(List.getElem?_eq_some_iff.1 hH).1
   have hv:=List.getElem?_eq_getElem sU;obtain⟨aO,ho,hz,_⟩:=hs.o o _ _ hH hv;refine⟨bs,S,hs.alt hH hv ⟨aO,ho,hz.1,λj r hr=>?_⟩,he⟩;obtain⟨z1,z2,z3⟩:=hz.2 j r hr;refine⟨λx hx=>?_,λhl=>?_⟩
   ·by_cases hj:j<done.length
    ·rw[List.getElem?_append_left hj] at hx;exact z1 x hx
    ·have nK:j=done.length:=by have:=(List.getElem?_eq_some_iff.1 hx).1;simp at this;omega
     subst nK;rw[List.getElem?_append_right (Nat.le_refl _)] at hx;simp at hx;subst hx;exact gQ hy (z2 rfl)
   ·rw[List.length_append,List.length_singleton] at hl ⊢;rw[show j-(done.length+1)=j-done.length-1 by omega];exact z3 (by omega)
  ·exact h.elim
 ·exact h.elim
def KB (q k:Nat) (st:bT):T bT:=match rowAt st.heap q k with
 | some o=>match st.heap[o]? with
  | some (.zc e t _ dQ done _)=>.nd (dQ=done.length) (.lf ⟨st.env,st.heap.set o (.row t e done.reverse)⟩)
  | _=>.bad
 | none=>.bad
theorem F6 {q k:Nat} {bG:bT} (h:(KB q k st).hit bG) (aY:cP m cx st a w):cP m cx bG a w:=by
 unfold KB at h;split at h
 ·rename_i o _;split at h
  ·rename_i e t tn dQ done rest hH;obtain⟨hlt,h⟩:=h;obtain rfl:=h;obtain⟨bs,S,hs,he⟩:=aY;have sU:o<bs.length:=by rw[hs.len];exact(List.getElem?_eq_some_iff.1 hH).1
   have hv:=List.getElem?_eq_getElem sU;obtain⟨aO,ho,hz⟩:=hs.o o _ _ hH hv;refine⟨bs,S,hs.alt hH hv ?_,he⟩;show Own (α:=El t) w S 0 e _ done.reverse.reverse;rw[List.reverse_reverse];exact GK ho (hz.1.trans hlt) λj r x hr hx=>(hz.2 j r hr).1 x hx
  ·exact h.elim
 ·exact h.elim
end
def QQ (q k:Nat) (e:TypeId):oY:=⟨BE q k e,λ_ _ _ _ _ _=>BD⟩
def MK (q k:Nat) (t tn:Ty):oY:=⟨u6 q k t tn,λ_ _ _ _ _ _=>zk⟩
def QR (q k:Nat):oY:=⟨BG q k,λ_ _ _ _ _ _=>BF⟩
def sa (q k:Nat):oY:=⟨u5 q k,λ_ _ _ _ _ _=>zj⟩
def Wm (q k:Nat):oY:=⟨KB q k,λ_ _ _ _ _ _=>F6⟩
def SJ (l:List (Nat×oY)) (id:Nat) (st:bT):T bT:=match l.lookup id with
 | some h=>h.f st
 | none=>.lf st
theorem Ea {m:Nat} {cx:Cx} {l:List (Nat×oY)} {id:Nat} {st bG:bT} {a:Act} {w:World} (h:(SJ l id st).hit bG) (aY:cP m cx st a w):cP m cx bG a w:=by
 unfold SJ at h;split at h
 ·exact oY.ok _ m cx st bG a w h aY
 ·obtain rfl:=h;exact aY
def nH {P:Program} {m:Nat} (R:Rg P m) (pre post:List (Nat×oY)):Rg P m:={ R with
 reg:=λid ops dr st=>(SJ pre id st).bind λst=>(R.reg id ops dr st).bind λst=>SJ post id st
 ok:=λid ops dr cx st bG a w Q h hs hQ=>by
  obtain⟨s1,h1,h2⟩:=T.hit_bind h;obtain⟨s2,h3,h4⟩:=T.hit_bind h2;exact R.ok id ops dr cx s1 s2 a w Q h3 (Ea h1 hs) λa' w' h'=>hQ a' w' (Ea h4 h') }
end Go.Proofs.YtichkplomldgiaaGreatDoor
