/- MDrd MFrz MHook -/
import Derived.Test.YtdbpbfglhbiadaaGreatDoorF00
import Derived.Test.YtdbpbfglhbiadaaGreatDoorF28
set_option maxHeartbeats 8000000
set_option maxRecDepth 100000
namespace Go.Proofs.YtdbpbfglhbiadaaGreatDoor
open Go Go.RowKit
structure Dl where
 x:XV
 nw:Option ah
 ch:List (Nat×ah)
def eB:List (Nat×ah)->Nat->Option ah
 | [],_=>none
 | p::l,o=>match eB l o with
  | some y=>some y
  | none=>if p.1=o then some p.2 else none
def mH (N0:Nat) (rs:List Dl) (j o:Nat):Option ah:=match rs[j]? with
 | some r=>if o=N0+j then some (r.nw.getD .dead) else eB r.ch o
 | none=>none
def fD (N0:Nat) (rs:List Dl) (d:Nat->Bool) (x0:ah) (o:Nat) (n:Nat):ah:=(List.range n).foldl (λx j=>if d j then(mH N0 rs j o).getD x else x) x0
section
variable {N0 o:Nat} {rs:List Dl} {d d':Nat->Bool} {x0:ah}
theorem jX {n:Nat}:fD N0 rs d x0 o (n+1)=if d n then(mH N0 rs n o).getD (fD N0 rs d x0 o n) else fD N0 rs d x0 o n:=by
 unfold fD;rw[List.range_succ,List.foldl_append];rfl
theorem mF:∀{n:Nat},(∀j,j<n->d j=d' j\/mH N0 rs j o=none)->fD N0 rs d x0 o n=fD N0 rs d' x0 o n
 | 0,_=>rfl
 | n+1,h=>by
  rw[jX,jX,mF (n:=n) λj hj=>h j (by omega)];rcases h n (by omega) with e|e
  ·rw[e]
  ·rw[e];simp
theorem Oj {i:Nat} (hd:d i=false):∀{n:Nat},i<n->(∀j,i<j->j<n->d j=true->mH N0 rs j o=none\/mH N0 rs i o=none)->fD N0 rs (jq d i) x0 o n=(mH N0 rs i o).getD (fD N0 rs d x0 o n)
 | n+1,hi,h=>by
  rw[jX,jX];by_cases e:i=n
  ·subst e;rw[fS,if_pos rfl,hd,mF (d':=d) λj hj=>.inl (bp d (by omega))];simp
  ·rw[bp d (acj e),Oj hd (n:=n) (by omega) λj h1 h2 h3=>h j h1 (by omega) h3];cases hn:d n with
   | false=>simp
   | true=>
    rcases h n (by omega) (by omega) hn with q|q
    ·rw[q];simp
    ·rw[q];simp
end
theorem Lg {P:Program} {Hv Hf:List ah} {t:TypeId} {x y:Option XV} {p:Nat×ah} (hv:vi Hv Hf) (h:ye P Hv t x y=some p):ye P Hf t x y=some p:=by
 unfold ye at h ⊢;split at h
 ·split at h
  ·rename_i hH;rcases hv.2 _ _ hH with e|e
   ·cases e
   ·simp only[*]
  ·cases h
 ·split at h
  ·rename_i hH;rcases hv.2 _ _ hH with e|e
   ·cases e
   ·simp only[*]
  ·cases h
 ·split at h
  ·rename_i hH;rcases hv.2 _ _ hH with e|e
   ·cases e
   ·simp only[*]
  ·cases h
 ·cases h
def apK (H:List ah) (x:Option XV):List (Nat×ah):=match x with
 | some (.one (.own ob))=>[(ob,.dead)]
 | some (.one (.mrow q kt k))=>match H[q]? with
  | some (.mr p jR t e' n f)=>match Kt.eq? kt jR with
   | some h=>[(q,.mx p jR t e' n f (h.down▸k))]
   | none=>[]
  | _=>[]
 | _=>[]
theorem Tw {ty:TypeId->Option Ty} {Hv Hf H':List ah} {e:TypeId} {x:Option XV} {q:(y:Ty)×List (El y)} (hv:vi Hv Hf) (h:apS ty Hv e x=some (H',q)):apS ty Hf e x=some (ig (apK Hv x) Hf,q):=by
 unfold apS at h ⊢;split at h
 ·split at h
  ·rename_i ob _ y e' rs hH;rcases hv.2 _ _ hH with e2|e2
   ·cases e2
   ·split at h
    ·rename_i he;injection h with h
     injection h with h1 h2
     subst h2;simp only[e2,he,if_true];rfl
    ·cases h
  ·cases h
 ·cases hte:ty e with
  | none=>rw[hte] at h;cases h
  | some y=>
   rw[hte] at h;injection h with h
   injection h with h1 h2
   subst h2;rfl
 ·rename_i q kt k;split at h
  ·rename_i p jR t e' n f hH;rcases hv.2 _ _ hH with e2|e2
   ·cases e2
   ·split at h
    ·rename_i hk gr;split at h
     ·rename_i he;injection h with h
      injection h with h1 h2
      subst h2;subst he;simp only[e2,gr,if_true];simp only[apK,hH,gr];rfl
     ·cases h
    ·cases h
  ·cases h
 ·cases h
theorem Tv {Hv Hf:List ah} {y:Ty} {x:Option XV} {ys:List (El y)} (hv:vi Hv Hf) (h:apY Hv y x=some ys):apY Hf y x=some ys:=by
 unfold apY at h ⊢;split at h
 ·split at h
  ·rename_i hH;rcases hv.2 _ _ hH with e2|e2
   ·cases e2
   ·simp only[e2];exact h
  ·cases h
 ·exact h
 ·cases h
theorem Pf {P:Program} {ty:TypeId->Option Ty} {Hv Hf:List ah} {t:TypeId} {s x:Option XV} {r:List ah×(y:Ty)×TypeId×List (El y)} (hv:vi Hv Hf) (h:(E7 P ty Hv t s x).hit r):(E7 P ty Hf t s x).hit (ig (apK Hv s) Hf,r.2):=by
 unfold E7 at h ⊢;cases eX:slI P t with
 | none=>rw[eX] at h;exact h.elim
 | some q=>
  obtain⟨e,sz,bytes⟩:=q;rw[eX] at h;simp only at h ⊢;cases hs:apS ty Hv e s with
  | none=>rw[hs] at h;exact h.elim
  | some q=>
   obtain⟨H',y,rs⟩:=q;rw[hs] at h;rw[Tw hv hs];simp only at h ⊢;cases hy:apY Hv y x with
   | none=>rw[hy] at h;exact h.elim
   | some ys=>
    rw[hy] at h;rw[Tv hv hy];simp only at h ⊢;split at h
    ·rename_i iL;rw[if_pos iL];obtain⟨h1,h2⟩:=h;exact⟨h1,by obtain rfl:=h2;rfl⟩
    ·exact h.elim
def Ul (cs:List AV):List Nat:=cs.filterMap lD
def KO (H:List ah):XV->XV
 | .one a=>.one (zY H a)
 | .agg cs=>.agg (cs.map (zY H))
 | x=>x
def wM (xs:List XV):List Nat:=xs.flatMap λ
 | .one a=>Ul [a]
 | .agg cs=>Ul cs
 | .tup _=>[]
def dop {P:Program} (C:gb P) (bW:Nat) (env:Env) (H:List ah) (o:Oper):T Dl:=match o.op with
 | .store t x y=>match o.dst with
  | none=>T.op ((ye P H t (ev env x) (ev env y)).map λp=>⟨.tup [],none,[p]⟩)
  | some _=>.bad
 | .call { callee:=.builtin .append,args:=args,argTypes:=ts }=>match args.toList,ts.toList with
  | [s,x],[t,t']=>if t=t' then(E7 P C.ty H t (ev env s) (ev env x)).bind λr=>.lf ⟨.one (.own bW),some (.row r.2.1 r.2.2.1 r.2.2.2),apK H (ev env s)⟩ else .bad
  | _,_=>.bad
 | .mapUpdate t x k v=>match o.dst with
  | none=>(Ww P C.ty bW H t (ev env x) (ev env k) (ev env v)).bind λr=>.lf ⟨.tup [],r.2,r.1⟩
  | some _=>.bad
 | .buildSlice t n ps=>match ka env ps.toList with
  | some l=>(T.op (Iw P C.ty bW t n (some (Uc H l)))).bind λr=>.lf ⟨r.1,r.2,kB (tL l)⟩
  | none=>.bad
 | .call { callee:=.value (.func f),args:=args,argTypes:=_ }=>if C.eff o then(C.d o env H).bind λr=>.lf ⟨r.1,none,r.2⟩ else(match i9 env args.toList with
  | some xs=>if xs.any QS&&(C.D.find? λs=>s.f==f).any Sm.al then(Uk C.ty C.D (H.map λ_=>ah.dead) f (some (xs.map (KO H)))).bind λx=>.lf ⟨x,none,kB (wM xs)⟩ else(U2 C.ty C.D bW env H o).bind λr=>.lf ⟨r.1,r.2,[]⟩
  | none=>.bad)
 | _=>if C.eff o then(C.d o env H).bind λr=>.lf ⟨r.1,none,r.2⟩ else(U2 C.ty C.D bW env H o).bind λr=>.lf ⟨r.1,r.2,[]⟩
theorem Lv {α:Type} {l:List α} {i:Nat} {x:α} (h:l[i]?=some x):l.set i x=l:=by
 refine acS λj=>?_;by_cases e:i=j
 ·subst e;rw[aat (aab.1 h).1,h]
 ·rw[aan e]
theorem vi.hide {Hv Hf:List ah} (hv:vi Hv Hf) {cx:Cx} {bs:List Value} {w:World} {S:Nat->Prop} (hs:HS cx bs w S Hf):HS cx bs w S Hv:=hs.mask hv.1 hv.2
theorem gE:∀{l l':List (Nat×ah)} {H:List ah},ig (l++l') H=ig l' (ig l H)
 | [],_,_=>rfl
 | _::l,_,_=>gE (l:=l)
theorem fG:∀{l:List (Nat×ah)} {H:List ah},(ig l H).length=H.length
 | [],_=>rfl
 | p::l,H=>by show(ig l (H.set p.1 p.2)).length=_;rw[fG,aaJ]
theorem kx:∀{l:List (Nat×ah)} {H:List ah} {o:Nat} {y:ah},H[o]?=some y->(ig l H)[o]?=some ((eB l o).getD y)
 | [],_,_,_,h=>h
 | p::l,H,o,y,h=>by
  show(ig l (H.set p.1 p.2))[o]?=_;by_cases e:p.1=o
  ·subst e;rw[kx (l:=l) (aat (aab.1 h).1)];show _=some (Option.getD (match eB l p.1 with|some y=>some y|none=>if p.1=p.1 then some p.2 else none) y);cases eB l p.1<;>simp
  ·rw[kx (l:=l) (by rw[aan e];exact h)];show _=some (Option.getD (match eB l o with|some y=>some y|none=>if p.1=o then some p.2 else none) y);cases eB l o<;>simp[e]
theorem uj {k:Nat} {x:ah}:∀{l:List (Nat×ah)} {o:Nat},eB (l++[(k,x)]) o=if k=o then some x else eB l o
 | [],o=>by show(match (none:Option ah) with|some y=>some y|none=>if k=o then some x else none)=_;rfl
 | p::l,o=>by
  show(match eB (l++[(k,x)]) o with|some y=>some y|none=>if p.1=o then some p.2 else none)=if k=o then some x else(match eB l o with|some y=>some y|none=>if p.1=o then some p.2 else none)
  rw[uj (l:=l)];by_cases e:k=o
  ·rw[if_pos e,if_pos e]
  ·rw[if_neg e,if_neg e]
theorem xh {x:ah}:∀{l:List (Nat×ah)} {o:Nat},eB l o=some x->∃p∈l,p.1=o
 | p::l,o,h=>by
  have h:(match eB l o with|some y=>some y|none=>if p.1=o then some p.2 else none)=some x:=h;cases e:eB l o with
  | some y=>obtain⟨q,h1,h2⟩:=xh e;exact⟨q,aap _ h1,h2⟩
  | none=>
   rw[e] at h;simp only at h;split at h
   ·rename_i h1;exact⟨p,aah,h1⟩
   ·cases h
theorem Al {H:List ah} {i:Nat} (h:∀x,H[i]?=some x->x=.dead):H.set i .dead=H:=by
 refine acS λj=>?_;by_cases e:i=j
 ·subst e;cases hx:H[i]? with
  | none=>rw[aaE (by rw[aaJ];exact List.getElem?_eq_none_iff.1 hx)]
  | some x=>rw[aat (aab.1 hx).1,h x hx]
 ·rw[aan e]
theorem SA {P:Program} {o:Oper} {cx:Cx} {bs:List Value} {w:World} {S:Nat->Prop} {Hf:List ah} {bW:Nat} {a:Act} {q:XV×Option ah} {K:Act->World->Prop} {Q:Exit->Act->World->Prop} (hs:HS cx bs w S Hf) (hn:Hf[bW]?=some .dead) (hb:bs[bW]?=some undef) (h:iw P o bs w S a bW q) (hK:∀v w' aU S',HS cx aU w' S' (Hf.set bW (q.2.getD .dead))->(∀b,S b->S' b)->aw S w w'->iC bs aU->(∀j,j≠bW->aU[j]?=bs[j]?)->(o.dst.isSome=true->XR aU w' S' q.1 v)->K (a.put o.dst v) w'):o.wp P a w K Q:=by
 refine h _ _ λv w' S' u vJ hS sx hx hf=>?_;have eY:=hs.grow vJ hS sx;have bC:aw S w w':=(aw.of_below vJ).sub λb q=>(hs.s b q).1;cases hq:q.2 with
 | none=>
  refine hK v w' bs S' ?_ hS bC (iC.refl _) (λ_ _=>rfl) λ_=>(hx bs (iC.refl _) (by rw[hq];intro h;cases h)).1;rw[hq];show HS cx bs w' S' (Hf.set bW .dead);rw[Al λx hx=>by rw[hn] at hx;exact(aad hx).symm];exact eY
 | some x=>
  have uF:iC bs (bs.set bW u):=λi z hz gN=>by
   rw[aan (λe=>by subst e;rw[hb] at hz;obtain rfl:=aad hz;cases gN)];exact hz
  obtain⟨R0,zI⟩:=hx (bs.set bW u) uF (λ_=>aat (aab.1 hb).1);refine hK v w' (bs.set bW u) S' ?_ hS bC uF (λj hj=>aan (acj hj)) λ_=>R0;rw[hq];refine eY.fill hn hb rfl (zI x hq) λb fF=>⟨.inl (aao hs.size (hf x hq b fF).1),(hf x hq b fF).2,λi z p hz hp e=>?_⟩;have:=(hs.o i z p hz hp).lt e;have:=(hf x hq b fF).1;omega
theorem ot {o:Nat}:∀os:List Nat,eB (kB os) o=none\/eB (kB os) o=some .dead
 | []=>.inl rfl
 | i::os=>by
  show(match eB (kB os) o with|some y=>some y|none=>if i=o then some ah.dead else none)=none\/_=some ah.dead;rcases ot (o:=o) os with e|e
  ·by_cases h:i=o
   ·exact .inr (by show(match eB (kB os) o with|some y=>some y|none=>if i=o then some ah.dead else none)=_;rw[e];simp[h])
   ·exact .inl (by rw[e];simp[h])
  ·exact .inr (by show(match eB (kB os) o with|some y=>some y|none=>if i=o then some ah.dead else none)=_;rw[e])
theorem sY {bs:List Value} {w:World} {S S':Nat->Prop} {Hv Hf:List ah} {os:List Nat} (hv:vi Hv Hf) (hS:∀b,S b->S' b) (hk:∀o∈os,∀(y:ah) (x:AV) (v:Value),Hf[o]?=some y->jp y=some x->bs[o]?=some v->VR bs w S' x v) {x:AV} {v:Value} (hx:∀o,lD x=some o->o∈os) (h:VR bs w S x v):VR bs w S' (zY Hv x) v:=by
 have up:VR bs w S' x v:=h.keep hS (aw.refl _ _) (iC.refl _);unfold zY;split
 ·rename_i o ho;cases e:Hv[o]? with
  | none=>exact up
  | some y=>
   show VR bs w S' ((jp y).getD x) v;cases e2:jp y with
   | none=>exact up
   | some z=>
    rcases hv.2 _ _ e with e3|e3
    ·subst e3;cases e2
    ·exact hk o (hx o ho) y z v e3 e2 (tP h ho)
 ·exact up
theorem KP {bs:List Value} {w:World} {S S':Nat->Prop} {Hv Hf:List ah} {os:List Nat} (hv:vi Hv Hf) (hS:∀b,S b->S' b) (hk:∀o∈os,∀(y:ah) (x:AV) (v:Value),Hf[o]?=some y->jp y=some x->bs[o]?=some v->VR bs w S' x v) {l:List (Nat×List AV)} {m:List (Nat×Value)} (h:F2 (λp q=>p.1=q.1/\F2 (VR bs w S) p.2 q.2.cells.toList) l m) (hm:∀p∈l,∀x∈p.2,∀o,lD x=some o->o∈os):F2 (λp q=>p.1=q.1/\F2 (VR bs w S') p.2 q.2.cells.toList) (Uc Hv l) m:=
 h.mapL λp hp _ hr=>⟨hr.1,hr.2.mapL λx hx _ hvr=>sY hv hS hk (hm p hp x hx) hvr⟩
theorem IM {l:List (Nat×List AV)}:∀p∈l,∀x∈p.2,∀o,lD x=some o->o∈tL l:=λp hp x hx _ e=>List.mem_flatMap.2 ⟨p,hp,adR.2 ⟨x,hx,e⟩⟩
theorem H8 {bs:List Value} {w:World} {S S':Nat->Prop} {Hv Hf:List ah} {os:List Nat} (hv:vi Hv Hf) (hS:∀b,S b->S' b) (hk:∀o∈os,∀(y:ah) (x:AV) (v:Value),Hf[o]?=some y->jp y=some x->bs[o]?=some v->VR bs w S' x v) {l:List XV} {m:List Value} (h:F2 (XR bs w S) l m) (hm:∀x∈l,∀a o,(x=.one a\/∃cs,x=.agg cs/\a∈cs)->lD a=some o->o∈os):F2 (XR bs w S') (l.map (KO Hv)) m:=by
 refine h.mapL λx hx v hvr=>?_;cases x with
 | one a=>exact sY hv hS hk (λo e=>hm _ hx a o (.inl rfl) e) hvr
 | agg cs=>
  obtain⟨vs,e,hf⟩:=hvr;exact⟨vs,e,hf.mapL λy hy u hu=>sY hv hS hk (λo e2=>hm _ hx y o (.inr ⟨cs,rfl,hy⟩) e2) hu⟩
 | tup l=>exact XR.keep hvr hS (aw.refl _ _) (iC.refl _)
theorem IL {l:List XV}:∀x∈l,∀a o,(x=.one a\/∃cs,x=.agg cs/\a∈cs)->lD a=some o->o∈wM l:=by
 intro x hx a o h e;refine List.mem_flatMap.2 ⟨x,hx,?_⟩;rcases h with rfl|⟨cs,rfl,h⟩
 ·exact adR.2 ⟨a,aa3.2 rfl,e⟩
 ·exact adR.2 ⟨a,h,e⟩
theorem kW {Hv Hf:List ah} (hv:vi Hv Hf) {i:Nat} {y:ah} (h:Hv[i]?=some y) (hy:y≠.dead):Hf[i]?=some y:=(hv.2 _ _ h).elim (λe=>absurd e hy) id
theorem Rb {P:Program} {ty:TypeId->Option Ty} {bW:Nat} {Hv Hf:List ah} {t:TypeId} {m x v:Option XV} {r:List (Nat×ah)×Option ah} (hv:vi Hv Hf) (h:(Ww P ty bW Hv t m x v).hit r):(Ww P ty bW Hf t m x v).hit r:=by
 unfold Ww at h ⊢;split at h
 ·split at h
  ·rename_i hk hH;simp only[hk,kW hv hH (λe=>by cases e)];exact h
  ·rename_i hk hH;simp only[hk,kW hv hH (λe=>by cases e)];split at h
   ·rename_i hQ;simp only[kW hv hQ (λe=>by cases e)];split at h
    ·rename_i hR;simp only[kW hv hR (λe=>by cases e)];exact h
    ·exact h.elim
   ·exact h.elim
  ·exact h.elim
 ·exact h.elim
theorem YM {P:Program} {C:gb P} {o:Oper} {cx:Cx} {bs:List Value} {w:World} {S:Nat->Prop} {Hv Hf:List ah} {m bW:Nat} {env:Env} {a:Act} {r:Dl} {K:Act->World->Prop} {Q:Exit->Act->World->Prop} (hv:vi Hv Hf) (hs:HS cx bs w S Hf) (he:ER m bs w S env a) (hn:Hf[bW]?=some .dead) (hb:bs[bW]?=some undef) (h:(dop C bW env Hv o).hit r) (hK:∀v w' aU S',HS cx aU w' S' (ig (r.ch++[(bW,r.nw.getD .dead)]) Hf)->(∀b,S b->S' b)->aw S w w'->iC bs aU->(∀j,j≠bW->aU[j]?=bs[j]?)->(o.dst.isSome=true->XR aU w' S' r.x v)->K (a.put o.dst v) w'):o.wp P a w K Q:=by
 unfold dop at h;split at h
 ·rename_i t x y hop;split at h
  ·rename_i uD;have h:=T.hit_op h;cases hp:ye P Hv t (ev env x) (ev env y) with
   | none=>rw[hp] at h;cases h
   | some p=>
    rw[hp] at h;obtain rfl:=aad h;refine FD hs he hop uD (Lg hv hp) λw' q1 q2=>?_;have:=hK undef w' bs S (q1.mask (by show((Hf.set p.1 p.2).set bW .dead).length=_;rw[aaJ]) λi x hx=>by
     have hx:((Hf.set p.1 p.2).set bW .dead)[i]?=some x:=hx;by_cases e:bW=i
     ·subst e;rw[aat (by rw[aaJ];exact(aab.1 hn).1)] at hx;exact .inl (aad hx).symm
     ·rw[aan e] at hx;exact .inr hx) (λ_ h=>h) q2 (iC.refl _) (λ_ _=>rfl) (λe=>by rw[uD] at e;cases e)
    rw[uD] at this;exact this
  ·exact h.elim
 ·rename_i args ts hop;split at h
  ·rename_i s x t t' ha ht;split at h
   ·rename_i e;subst e;obtain⟨q,h1,h2⟩:=T.hit_bind h;obtain rfl:(⟨.one (.own bW),some (.row q.2.1 q.2.2.1 q.2.2.2),apK Hv (ev env s)⟩:Dl)=r:=h2;have ha':args=#[s,x]:=by rw[<-abs (xs:=args),ha]
    have R4:ts=#[t,t]:=by rw[<-abs (xs:=ts),ht]
    rw[ha',R4] at hop;refine Hg hs he hop (Pf hv h1) λv w' bS hHl Sl bC gn bH=>?_;have hj:(ig (apK Hv (ev env s)) Hf)[bW]?=some .dead:=by
     exact Sl bW hn
    have iW:=bS.fill (x:=.row q.2.1 q.2.2.1 q.2.2.2) (v:=v) hj hb rfl gn bH;obtain⟨A',n',c',Jh,_⟩:=gn.slice;refine hK v w' (bs.set bW v) S (by rw[gE];exact iW) (λ_ h=>h) bC (λi u hu pY=>?_) (λj hj=>aan (acj hj)) λ_=>⟨aat (aab.1 hb).1,A',n',c',Jh⟩;rw[aan (λe=>by subst e;rw[hb] at hu;obtain rfl:=aad hu;cases pY)];exact hu
   ·exact h.elim
  ·exact h.elim
 ·rename_i t x k v hop;split at h
  ·rename_i uD;obtain⟨q,h1,h2⟩:=T.hit_bind h;obtain rfl:(⟨.tup [],q.2,q.1⟩:Dl)=r:=h2;refine Mk hs he C.isP hop uD hn hb (Rb hv h1) λw' aU q1 q2 q3 q4=>?_;have:=hK undef w' aU S q1 (λ_ h=>h) q2 q3 q4 (λe=>by rw[uD] at e;cases e);rw[uD] at this;exact this
  ·exact h.elim
 ·rename_i t n ps hop;split at h
  ·rename_i l hp;obtain⟨q,h1,h2⟩:=T.hit_bind h;obtain rfl:(⟨q.1,q.2,kB (tL l)⟩:Dl)=r:=h2;obtain⟨S',k1,k2,k3⟩:=yN (tL l) hs;have sx:(ig (kB (tL l)) Hf)[bW]?=some .dead:=by
    rw[kx hn];rcases ot (o:=bW) (tL l) with e|e
    ·rw[e];rfl
    ·rw[e];rfl
   have Eu:=KP hv k1 k3 (kz he hp) IM;refine SA k2 sx hb (FM k2 Eu hop (T.hit_op h1)) λv w' aU S'' q1 q2 q3 q4 q5 q6=>?_;exact hK v w' aU S'' (by rw[gE];exact q1) (λb h=>q2 b (k1 b h)) (q3.sub k1) q4 q5 q6
  ·exact h.elim
 ·rename_i f args ts hop;split at h
  ·rename_i NN;obtain⟨q,h1,h2⟩:=T.hit_bind h;obtain rfl:(⟨q.1,none,q.2⟩:Dl)=r:=h2;refine C.dok m o cx bs S env Hv Hf a w q K Q NN hv hs he h1 λv w' S' q1 q2 q3 q4=>?_;refine hK v w' bs S' ?_ q2 q3 (iC.refl _) (λ_ _=>rfl) λ_=>q4;refine q1.mask (by rw[fG,fG]) λi x hx=>?_;rw[gE] at hx;have hx:((ig q.2 Hf).set bW .dead)[i]?=some x:=hx;by_cases e:bW=i
   ·subst e;rw[aat (by rw[fG];exact(aab.1 hn).1)] at hx;exact .inl (aad hx).symm
   ·rw[aan e] at hx;exact .inr hx
  ·split at h
   ·rename_i xs hx;split at h
    ·obtain⟨q,h1,h2⟩:=T.hit_bind h;obtain rfl:(⟨q,none,kB (wM xs)⟩:Dl)=r:=h2;obtain⟨S',k1,k2,k3⟩:=yN (wM xs) hs;have sx:(ig (kB (wM xs)) Hf)[bW]?=some .dead:=by
      rw[kx hn];rcases ot (o:=bW) (wM xs) with e|e
      ·rw[e];rfl
      ·rw[e];rfl
     have Bz:=H8 hv k1 k3 (iO he hx) IL;have hd:HS cx bs w S' (Hv.map λ_=>ah.dead):=k2.mask (by rw[abm,fG];exact hv.1) λi x hx=>by
      rw[acn] at hx;cases e:Hv[i]? with
      | none=>rw[e] at hx;cases hx
      | some y=>rw[e] at hx;exact .inl (aad hx).symm
     refine SA k2 sx hb (tK (cap:=#[]) hd (λys hy=>by obtain rfl:=aad hy;rw[Array.toList_empty,ack];exact Bz) rfl hop h1) λv w' aU S'' q1 q2 q3 q4 q5 q6=>?_;exact hK v w' aU S'' (by rw[gE];exact q1) (λb h=>q2 b (k1 b h)) (q3.sub k1) q4 q5 q6
    ·obtain⟨q,h1,h2⟩:=T.hit_bind h;obtain rfl:(⟨q.1,q.2,[]⟩:Dl)=r:=h2;exact SA hs hn hb (za C.isP (hv.hide hs) he h1) hK
   ·exact h.elim
 ·split at h
  ·rename_i NN;obtain⟨q,h1,h2⟩:=T.hit_bind h;obtain rfl:(⟨q.1,none,q.2⟩:Dl)=r:=h2;refine C.dok m o cx bs S env Hv Hf a w q K Q NN hv hs he h1 λv w' S' q1 q2 q3 q4=>?_;refine hK v w' bs S' ?_ q2 q3 (iC.refl _) (λ_ _=>rfl) λ_=>q4;refine q1.mask (by rw[fG,fG]) λi x hx=>?_;rw[gE] at hx;have hx:((ig q.2 Hf).set bW .dead)[i]?=some x:=hx;by_cases e:bW=i
   ·subst e;rw[aat (by rw[fG];exact(aab.1 hn).1)] at hx;exact .inl (aad hx).symm
   ·rw[aan e] at hx;exact .inr hx
  ·obtain⟨q,h1,h2⟩:=T.hit_bind h;obtain rfl:(⟨q.1,q.2,[]⟩:Dl)=r:=h2;exact SA hs hn hb (za C.isP (hv.hide hs) he h1) hK
theorem Ol {N0 o:Nat} {rs:List Dl} {d:Nat->Bool} {x0:ah} {i:Nat}:∀{n:Nat},i<=n->(∀j,i<=j->j<n->d j=false)->fD N0 rs d x0 o n=fD N0 rs d x0 o i
 | 0,h,_=>by
  obtain rfl:i=0:=by omega
  rfl
 | n+1,h,hd=>by
  by_cases e:i=n+1
  ·rw[e]
  ·rw[jX,hd n (by omega) (by omega),Ol (n:=n) (by omega) λj h1 h2=>hd j h1 (by omega)];simp
theorem U4 {N0 o:Nat} {rs rs':List Dl} {d:Nat->Bool} {x0:ah}:∀{n:Nat},(∀j,j<n->rs[j]?=rs'[j]?)->fD N0 rs d x0 o n=fD N0 rs' d x0 o n
 | 0,_=>rfl
 | n+1,h=>by
  rw[jX,jX,U4 (n:=n) λj hj=>h j (by omega)];have:mH N0 rs n o=mH N0 rs' n o:=by unfold mH;rw[h n (by omega)]
  rw[this]
theorem zh {N0 o:Nat} {rs:List Dl} {x0:ah}:∀{n:Nat},fD N0 rs (λ_=>false) x0 o n=x0
 | 0=>rfl
 | n+1=>by rw[jX,zh (n:=n)];simp
def j8 (rs:List Dl):Rs:=rs.map λr=>some (r.x,r.nw)
def iu (H0:List ah) (n:Nat) (rs:List Dl) (d:Nat->Bool):List ah:=(List.range (H0.length+n)).map λo=>fD H0.length rs d (H0.getD o .dead) o n
def Am (H0:List ah) (n:Nat) (rs:List Dl) (wH hid:Nat->Bool):List ah:=(List.range (H0.length+n)).map λo=>if hid o then .dead else fD H0.length rs wH (H0.getD o .dead) o rs.length
def Jn (N0:Nat) (ms gs:List Nat) (i o:Nat):Bool:=(decide (N0<=o)&&!(selB ms i (o-N0)))||(List.range gs.length).any λj=>j !=i&&!(selB ms i j)&&!(selB ms j i)&&(gs.getD j 0).testBit o
def gsB (N0 n:Nat) (ms gs:List Nat):Bool:=gs.length==n&&(List.range n).all λi=>(List.range (N0+n)).all λo=>!((gs.getD i 0).testBit o)||((decide (o<N0)||selB ms i (o-N0))&&(List.range i).all λj=>selB ms i j||!((gs.getD j 0).testBit o))
def chB (gs:List Nat) (i k:Nat) (r:Dl):Bool:=r.ch.all λp=>decide (p.1<k)&&(gs.getD i 0).testBit p.1
def skD:Dl:=⟨.tup [],none,[]⟩
def bD (b:Bool):Dl:=⟨.one (.val (.bool b)),none,[]⟩
def nQ {P:Program} (C:gb P) (ops:Array Oper) (n:Nat) (ms gs:List Nat) (chk:Bool) (cX:Env) (H0:List ah):List Oper->List Dl->T (List Dl)
 | [],rs=>.lf rs
 | o::l,rs=>match P3 ops rs.length o (j8 rs) with
  | some false=>nQ C ops n ms gs chk cX H0 l (rs++[skD])
  | some true=>(dop C (H0.length+rs.length) (kI ops (RO ops n ms rs.length) cX (selB ms rs.length) (j8 rs)) (Am H0 n rs (selB ms rs.length) (Jn H0.length ms gs rs.length)) o).bind λr=>
   if !chk||chB gs rs.length (H0.length+n) r then(match ab8 ops rs.length,r with
    | true,⟨.one (.sym (.bool b)),none,[]⟩=>.br b (nQ C ops n ms gs chk cX H0 l (rs++[bD true])) (nQ C ops n ms gs chk cX H0 l (rs++[bD false]))
    | _,r=>nQ C ops n ms gs chk cX H0 l (rs++[r])) else .bad
  | none=>.bad
def T.lvs {α:Type}:T α->List α
 | .lf a=>[a]
 | .br _ x y=>x.lvs++y.lvs
 | .nd _ t=>t.lvs
 | .bad=>[]
def abJ (r:Dl):Nat:=r.ch.foldl (λs p=>s||| 2^p.1) 0
def adm (n:Nat) (l:List (List Dl)):List Nat:=(List.range n).map λi=>l.foldl (λs rs=>s||| (match rs[i]? with
 | some r=>abJ r
 | none=>0)) 0
def uO:List Nat->List Oper->Nat
 | _,[]=>0
 | rd,o::l=>if(match o.dst with|some t=>rd.contains t|none=>false) then 0 else uO (abu o++rd) l+1
def SX {P:Program} (C:gb P) (m:Nat) (ops:Array Oper) (n:Nat) (st:dw):T dw:=
 if P.follows .mixedOrders&&lA (n+(ops.size-n)) ops&&uk ops n (n+(ops.size-n))&&xK ops n m then
  (λ(l:List Oper) (ms:List Nat)=>(λ(gs:List Nat)=>if gsB st.heap.length n ms gs then(nQ C ops n ms gs true st.env st.heap l []).bind λrs=>
   DK C m ops (ops.toList.drop n) ⟨kI ops (qt ops n) st.env (λ_=>true) (j8 rs),iu st.heap n rs (λ_=>true)⟩ else .bad) (adm n (nQ C ops n ms [] false st.env st.heap l []).lvs)) (ops.toList.take n) (tX (ops.toList.take n) [])
 else .bad
section
variable {P:Program} {ops:Array Oper} {Q:Exit->Act->World->Prop} {C:gb P} {n m:Nat} {cx:Cx} {ms gs:List Nat} {cX:Env} {H0:List ah}
def pU (C:gb P) (ops:Array Oper) (n:Nat) (ms gs:List Nat) (cX:Env) (H0:List ah) (rs:List Dl) (i:Nat):Prop:=
 ∃o r,ops[i]?=some o/\rs[i]?=some r/\((P3 ops i o (j8 (rs.take i))=some false/\r=skD)\/
  (P3 ops i o (j8 (rs.take i))=some true/\∃r0,(dop C (H0.length+i) (kI ops (RO ops n ms i) cX (selB ms i) (j8 (rs.take i))) (Am H0 n (rs.take i) (selB ms i) (Jn H0.length ms gs i)) o).hit r0/\chB gs i (H0.length+n) r0=true/\(r=r0\/∃b,r0=⟨.one (.sym (.bool b)),none,[]⟩/\r=bD b)))
theorem pU.more {rs:List Dl} {i:Nat} (h:pU C ops n ms gs cX H0 rs i) (hi:i<rs.length) (x:Dl):pU C ops n ms gs cX H0 (rs++[x]) i:=by
 unfold pU at h ⊢;rw[ab7 (by omega),aai hi];exact h
theorem BC:∀(l:List Oper) (rs rs':List Dl),(nQ C ops n ms gs true cX H0 l rs).hit rs'->(∀(k:Nat) (o:Oper),l[k]?=some o->ops[rs.length+k]?=some o)->(∀i,i<rs.length->pU C ops n ms gs cX H0 rs i)->rs'.length=rs.length+l.length/\∀i,i<rs'.length->pU C ops n ms gs cX H0 rs' i
 | [],rs,rs',h,_,hs=>by have h:rs=rs':=h;subst h;exact⟨rfl,hs⟩
 | o::l,rs,rs',h,hl,hs=>by
  have ho:=hl 0 o rfl;rw[adX] at ho;have next:∀(x:Dl),(nQ C ops n ms gs true cX H0 l (rs++[x])).hit rs'->pU C ops n ms gs cX H0 (rs++[x]) rs.length->rs'.length=rs.length+(o::l).length/\∀i,i<rs'.length->pU C ops n ms gs cX H0 rs' i:=by
   intro x h hx;obtain⟨q1,q2⟩:=BC l (rs++[x]) rs' h (λk o' hk=>by
    rw[aaj,aar,aa1,ab5,ad7 (0+1)];exact hl (k+1) o' (by simpa using hk)) λi hi=>by
     rw[aaj,aar,aa1] at hi;by_cases e:i=rs.length
     ·rw[e];exact hx
     ·exact(hs i (by omega)).more (by omega) x
   refine⟨?_,q2⟩;rw[q1,aaj,aar,aa1,aar];omega
  have qE:∀x,(rs++[x]).take rs.length=rs:=λx=>by rw[ab7 (aam _),List.take_length]
  have fW:∀x,(rs++[x])[rs.length]?=some x:=λx=>by rw[aaf (aam _)];simp
  unfold nQ at h;split at h
  ·rename_i hg;exact next _ h ⟨o,_,ho,fW _,.inl ⟨by rw[qE];exact hg,rfl⟩⟩
  ·rename_i hg;obtain⟨r0,h1,h2⟩:=T.hit_bind h;simp only[Bool.not_true,ada] at h2;split at h2
   ·rename_i X5;split at h2
    ·rename_i b qG;cases b with
     | true=>exact next _ (h2.1 rfl) ⟨o,_,ho,fW _,.inr ⟨by rw[qE];exact hg,_,by rw[qE];exact h1,X5,.inr ⟨true,rfl,rfl⟩⟩⟩
     | false=>exact next _ (h2.2 rfl) ⟨o,_,ho,fW _,.inr ⟨by rw[qE];exact hg,_,by rw[qE];exact h1,X5,.inr ⟨false,rfl,rfl⟩⟩⟩
    ·exact next _ h2 ⟨o,_,ho,fW _,.inr ⟨by rw[qE];exact hg,_,by rw[qE];exact h1,X5,.inl rfl⟩⟩
   ·exact h2.elim
  ·exact h.elim
theorem kD {rs:List Dl} {d:Nat->Bool}:(iu H0 n rs d).length=H0.length+n:=by simp[iu]
theorem kE {rs:List Dl} {d:Nat->Bool} {o:Nat} (ho:o<H0.length+n):(iu H0 n rs d)[o]?=some (fD H0.length rs d (H0.getD o .dead) o n):=by
 unfold iu;rw[acn,adA ho];rfl
theorem Lz {rs:List Dl} {j:Nat} {r:Dl} (h:rs[j]?=some r):(j8 rs)[j]?=some (some (r.x,r.nw)):=by
 unfold j8;rw[acn,h];rfl
theorem Iv {rs:List Dl} {i:Nat}:j8 (rs.take i)=(j8 rs).take i:=by unfold j8;rw[List.map_take]
theorem ky {rs:List Dl}:(j8 rs).length=rs.length:=by unfold j8;rw[abm]
def DJ (m:Nat) (cx:Cx) (ops:Array Oper) (n:Nat) (cX:Env) (H0:List ah) (rs:List Dl) (d:Nat->Bool) (a:Act) (w:World):Prop:=
 ∃bs S,HS cx bs w S (iu H0 n rs d)/\(∀j,j<n->d j=false->bs[H0.length+j]?=some undef)/\ER m bs w S (kI ops (I8 ops n d) cX d (j8 rs)) a
theorem DJ.step {rs:List Dl} (bm:rs.length=n) (_:n<=ops.size) (dV:∀i,i<n->pU C ops n ms gs cX H0 rs i) (hgs:gsB H0.length n ms gs=true) (yU:CF ops ms) (PX:ms.length=n) (kF:xK ops n m=true) (rC:∀(i j:Nat),waits ops i j=true->j<i) {Q':Exit->Act->World->Prop} {d:Nat->Bool} {a:Act} {w:World} {i:Nat} (hi:i<n) (h:DJ m cx ops n cX H0 rs d a w) (nD:d i=false) (rX:∀j,n<=j->d j=false) (hc:∀k q,d k=true->waits ops k q=true->d q=true) (hw:∀q,waits ops i q=true->d q=true) : wpOp P ops Q' i (DJ m cx ops n cX H0 rs (jq d i)) a w:=by
 obtain⟨bs,S,hs,hu,he⟩:=h;obtain⟨o,r,ho,hr,NX⟩:=dV i hi;have vJ:bs.length=H0.length+n:=by rw[hs.len,kD]
 have uC:∀t,cR ops i=some t->t<m:=λt ht=>(lm kF hi ht).1;have UH:o.dst=cR ops i:=by unfold cR;rw[ho];rfl
 have Ug:∀{j k:Nat},j<n->selB ms j k=true->(∀q,waits ops j q=true->d q=true)->k<j/\d k=true:=by
  intro j k hj hk PO;unfold selB at hk;rw[aal,decide_eq_true_eq] at hk;refine⟨hk.1,?_⟩;have him:j<ms.length:=by rw[PX];exact hj
  have uz:=hk.2;rw[aac,aaa him] at uz;exact yU j _ (aaa him) k uz d hc PO
 have Eo:∀j,selB ms i j=true->j<i/\d j=true:=λj hj=>Ug hi hj hw;have GH:∀j,d j=true->j<n:=λj hj=>by
  rcases Nat.lt_or_ge j n with h|h
  ·exact h
  ·rw[rX j h] at hj;cases hj
 have XA:∀j,d j=true->selB ms j i=false:=λj hj=>by
  cases e:selB ms j i with
  | false=>rfl
  | true=>rw[(Ug (GH j hj) e λq=>hc j q hj).2] at nD;cases nD
 have XL:=hgs;unfold gsB at XL;rw[aal,beq_iff_eq] at XL;obtain⟨hgl,XO⟩:=XL;have Sy:∀{j o:Nat},j<n->o<H0.length+n->(gs.getD j 0).testBit o=true->(o<H0.length\/selB ms j (o-H0.length)=true)/\∀k,k<j->selB ms j k=true\/(gs.getD k 0).testBit o=false:=by
  intro j o hj ho hb;have:=aau.1 (aau.1 XO j (aaI.2 hj)) o (aaI.2 ho);rw[hb] at this;simp only[Bool.not_true,ada,aal,acG,decide_eq_true_eq] at this;refine⟨this.1,λk hk=>?_⟩;have:=aau.1 this.2 k (aaI.2 hk);simpa using this
 have X5:∀{j o:Nat} {q:Dl} {x:ah},j<n->rs[j]?=some q->eB q.ch o=some x->o<H0.length+n/\(gs.getD j 0).testBit o=true:=by
  intro j o q x hj hq hx;obtain⟨p,hp,rfl⟩:=xh hx;obtain⟨o',r',_,iV,NZ⟩:=dV j hj;rw[hq] at iV;obtain rfl:=aad iV;rcases NZ with⟨_,rfl⟩|⟨_,r0,_,UW,rfl|⟨b,rfl,rfl⟩⟩
  ·cases hp
  ·have:=aau.1 UW p hp;simpa using this
  ·cases hp
 have Bw:∀{j o:Nat} {x:ah},j<n->mH H0.length rs j o=some x->o=H0.length+j\/(o<H0.length+n/\(gs.getD j 0).testBit o=true):=by
  intro j o x hj hx;unfold mH at hx;cases hq:rs[j]? with
  | none=>rw[hq] at hx;cases hx
  | some q=>
   rw[hq] at hx;simp only at hx;split at hx
   ·rename_i e;exact .inl e
   ·exact .inr (X5 hj hq hx)
 have qF:∀(v:Value) t,cR ops i≠some t->(a.put o.dst v).tmps[t]?=a.tmps[t]?:=by
  intro v t hx;rw[UH];cases e:cR ops i with
  | none=>rfl
  | some q=>
   have eM:q≠t:=λe2=>hx (by rw[e,e2]);show(a.tmps.setIfInBounds q v)[t]?=_;rw[adw eM]
 have pk:∀v:Value,(a.put o.dst v).tmps.size=m/\(a.put o.dst v).defers=[]:=by
  intro v;cases o.dst with
  | none=>exact⟨he.s,he.d⟩
  | some q=>exact⟨by show(a.tmps.setIfInBounds q v).size=m;rw[Array.size_setIfInBounds];exact he.s,he.d⟩
 have uE:∀t x,(t,x)∈kI ops (I8 ops n (jq d i)) cX (jq d i) (j8 rs)->((t,x)∈kI ops (I8 ops n d) cX d (j8 rs)/\cR ops i≠some t)\/(cR ops i=some t/\r.x=x):=by
  intro t x hx;rcases iM hx with⟨j,q,hj,eY,ht,hq,hqx⟩|⟨h1,hn⟩
  ·by_cases e:j=i
   ·subst e;rw[Lz hr] at hq;obtain rfl:=aad (aad hq);exact .inr ⟨ht,hqx⟩
   ·rw[bp d e] at eY;subst hqx;exact .inl ⟨iE hj eY ht hq,λe2=>GU kF hi (by rw[ky] at hj;omega) (λe3=>e e3.symm) t e2 ht⟩
  ·obtain⟨k1,k2⟩:=Gp hi hn nD;exact .inl ⟨kH h1 k1,k2⟩
 have Bs:∀j,j<i->(j8 (rs.take i))[j]?=(j8 rs)[j]?:=λj hj=>by rw[Iv,acf,if_pos hj]
 have uA:∀{c:Bool},P3 ops i o (j8 (rs.take i))=some c->Region.wanted o (yielded ops a.tmps)=c:=by
  intro c hg;unfold P3 at hg;split at hg
  ·rename_i qG;injection hg with hg
   subst hg;simp[Region.wanted,qG]
  ·rename_i j want qG;split at hg
   ·rename_i PO;have NE:=rC i j PO;rw[Bs j NE] at hg;split at hg
    ·rename_i t b _ ht hr;injection hg with hg
     subst hg;obtain⟨v,hv,hx⟩:=he.k t _ (iE (by rw[ky];omega) (hw j PO) ht hr);obtain⟨rfl,_⟩:=hx;exact mV qG ht hv
    ·rename_i t _ ht hr;injection hg with hg
     subst hg;obtain⟨v,hv,vs,e1,e2⟩:=he.k t _ (iE (by rw[ky];omega) (hw j PO) ht hr);cases e2
     exact qf qG ht (by rw[hv,e1];rfl)
    ·cases hg
   ·cases hg
 have acH:(iu H0 n rs d)[H0.length+i]?=some .dead:=by
  rw[kE (by omega)];have:fD H0.length rs d (H0.getD (H0.length+i) .dead) (H0.length+i) n=fD H0.length rs (λ_=>false) (H0.getD (H0.length+i) .dead) (H0.length+i) n:=by
   refine mF λj hj=>?_;cases oz:d j with
   | false=>exact .inl rfl
   | true=>
    right
    cases hx:mH H0.length rs j (H0.length+i) with
    | none=>rfl
    | some x=>
     rcases Bw hj hx with e|⟨_,e⟩
     ·have:i=j:=by omega
      subst this;rw[nD] at oz;cases oz
     ·rcases(Sy hj (by omega) e).1 with q|q
      ·omega
      ·rw[aaB,XA j oz] at q;cases q
  rw[this,zh,aac,aaE (by omega)];rfl
 have UN:∀q:Dl,q.ch=r.ch->q.nw=r.nw->ig (q.ch++[(H0.length+i,q.nw.getD .dead)]) (iu H0 n rs d)=iu H0 n rs (jq d i):=by
  intro q e1 e2;rw[e1,e2];refine acS λk=>?_;by_cases hk:k<H0.length+n
  ·rw[kx (kE hk),kE hk,uj];congr 1
   have hci:mH H0.length rs i k=if H0.length+i=k then some (r.nw.getD .dead) else eB r.ch k:=by
    unfold mH;rw[hr];by_cases e:H0.length+i=k
    ·subst e;simp
    ·rw[if_neg e];simp only;rw[if_neg (acj e)]
   rw[<-hci];refine(Oj nD hi λj hj1 uz oz=>?_).symm;cases hx:mH H0.length rs j k with
   | none=>exact .inl rfl
   | some x=>
    right
    cases hy:mH H0.length rs i k with
    | none=>rfl
    | some y=>
     exfalso
     have Z4:=XA j oz;rcases Bw uz hx with e|⟨_,e⟩
     ·rcases Bw hi hy with e'|⟨_,e'⟩
      ·omega
      ·rcases(Sy hi hk e').1 with q|q
       ·omega
       ·rw[e,aaB] at q;have:=(Eo j q).1;omega
     ·rcases Bw hi hy with e'|⟨_,e'⟩
      ·rcases(Sy uz hk e).1 with q|q
       ·omega
       ·rw[e',aaB,Z4] at q;cases q
      ·rcases(Sy uz hk e).2 i hj1 with q|q
       ·rw[Z4] at q;cases q
       ·rw[e'] at q;cases q
  ·rw[aaE (by rw[fG,kD];omega),aaE (by rw[kD];omega)]
 rcases NX with⟨hg,rfl⟩|⟨hg,r0,aie,UW,Sc⟩
 ·
  have Bq:=uA hg;unfold wpOp;rw[ho];simp only[Bq,acg,if_false];have hh:=UN skD rfl rfl;have hh:(iu H0 n rs d).set (H0.length+i) .dead=iu H0 n rs (jq d i):=hh;rw[Al λx hx=>by rw[acH] at hx;exact(aad hx).symm] at hh;refine⟨bs,S,hh▸hs,λj hj oz=>hu j hj ?_,(pk undef).2,(pk undef).1,λt x hx=>?_⟩
  ·by_cases e:j=i
   ·subst e;exact nD
   ·rw[bp d e] at oz;exact oz
  ·rcases uE t x hx with⟨hx,eM⟩|⟨ht,rfl⟩
   ·obtain⟨v,q1,q2⟩:=he.k t x hx;exact⟨v,(qF undef t eM).trans q1,q2⟩
   ·refine⟨undef,?_,[],rfl,.nil⟩;rw[UH,ht];show(a.tmps.setIfInBounds t undef)[t]?=_;exact abk (by rw[he.s];exact uC t ht)
 ·have Bq:=uA hg;have hrc:r0.ch=r.ch/\r0.nw=r.nw:=by
   rcases Sc with rfl|⟨b,rfl,rfl⟩<;>exact⟨rfl,rfl⟩
  have ahk:vi (Am H0 n (rs.take i) (selB ms i) (Jn H0.length ms gs i)) (iu H0 n rs d):=by
   refine⟨by rw[kD];simp[Am],λk x hx=>?_⟩;unfold Am at hx;rw[acn] at hx;by_cases hk:k<H0.length+n
   ·rw[adA hk] at hx;have hx:(if Jn H0.length ms gs i k then ah.dead else fD H0.length (rs.take i) (selB ms i) (H0.getD k .dead) k (rs.take i).length)=x:=aad hx;cases hh:Jn H0.length ms gs i k with
    | true=>rw[hh] at hx;exact .inl (by simpa using hx.symm)
    | false=>
     right
     rw[hh] at hx;have hx:fD H0.length (rs.take i) (selB ms i) (H0.getD k .dead) k (rs.take i).length=x:=by simpa using hx
     rw[kE hk,<-hx];congr 1
     rw[aa7,aef (by omega),U4 (rs:=rs.take i) (rs':=rs) (n:=i) λj hj=>by rw[acf,if_pos hj]];rw[<-Ol (d:=selB ms i) (i:=i) (n:=n) (by omega) λj h1 h2=>by
      cases e:selB ms i j with
      | false=>rfl
      | true=>have:=(Eo j e).1;omega]
     refine mF λj hj=>?_;cases oz:d j with
     | false=>
      left
      cases e:selB ms i j with
      | false=>rfl
      | true=>have:=(Eo j e).2;rw[oz] at this;cases this
     | true=>
      cases e:selB ms i j with
      | true=>exact .inl rfl
      | false=>
       right
       have vI:j≠i:=λe=>by subst e;rw[nD] at oz;cases oz
       unfold Jn at hh;rw[Bool.or_eq_false_iff] at hh;cases hx:mH H0.length rs j k with
       | none=>rfl
       | some y=>
        exfalso
        rcases Bw hj hx with e2|⟨_,e2⟩
        ·have h1:=hh.1;rw[e2,aaB,e] at h1;simp at h1
        ·have:=List.any_eq_false.1 hh.2 j (aaI.2 (by omega));rw[e,XA j oz,e2] at this;simp[vI] at this
   ·rw[aaE (by simpa using hk)] at hx;cases hx
  have hem:ER m bs w S (kI ops (RO ops n ms i) cX (selB ms i) (j8 (rs.take i))) a:=by
   refine⟨he.d,he.s,λt x hx=>?_⟩;rcases iM hx with⟨j,q,hj,eY,ht,hq,rfl⟩|⟨h1,hn⟩
   ·obtain⟨q1,q2⟩:=Eo j eY;rw[Bs j q1] at hq;exact he.k t _ (iE (by rw[ky];omega) q2 ht hq)
   ·exact he.k t x (kH h1 (UB yU PX nD hc hn))
  refine sR ho Bq (YM ahk hs hem acH (hu i hi nD) aie λv w' aU S' eY hS bC uF hsame hx=>?_);rw[UN r0 hrc.1 hrc.2] at eY;refine⟨aU,S',eY,λj hj oz=>?_,(pk v).2,(pk v).1,λt x hxe=>?_⟩
  ·by_cases e:j=i
   ·subst e;rw[fS] at oz;cases oz
   ·rw[bp d e] at oz;rw[hsame _ (by omega)];exact hu j hj oz
  ·rcases uE t x hxe with⟨hxe,eM⟩|⟨ht,rfl⟩
   ·obtain⟨z,q1,q2⟩:=he.k t x hxe;exact⟨z,(qF v t eM).trans q1,q2.keep hS bC uF⟩
   ·refine⟨v,?_,?_⟩
    ·rw[UH,ht];show(a.tmps.setIfInBounds t v)[t]?=_;exact abk (by rw[he.s];exact uC t ht)
    ·have ia:=hx (by rw[UH,ht];rfl);rcases Sc with rfl|⟨b,rfl,rfl⟩
     ·exact ia
     ·exact ia
theorem OB {id:Nat} {st cQ:dw} {a:Act} {w:World} {n:Nat} (h:(SX C m ops n st).hit cQ) (bL:eO m cx st a w) (hQ:∀a' w',eO m cx cQ a' w'->Q .normal a' w'):(Code.region id ops true).wp P Q a w:=by
 unfold SX at h;split at h
 ·rename_i hc;simp only[aal] at hc;obtain⟨⟨⟨hm,hb⟩,jx⟩,kF⟩:=hc;simp only at h;generalize adm n (nQ C ops n (tX (ops.toList.take n) []) [] false st.env st.heap (ops.toList.take n) []).lvs=gs at h;split at h
  ·rename_i hgs;obtain⟨rs,h1,h2⟩:=T.hit_bind h;have iL:=eT hb;have Ev:n<=ops.size:=by omega
   have CO:(ops.toList.take n).length=n:=by rw[aa7,aaD];omega
   have fW:∀(k:Nat) (o:Oper),(ops.toList.take n)[k]?=some o->ops[k]?=some o:=λk o hk=>by
    rw[acf] at hk;split at hk
    ·simpa using hk
    ·cases hk
   obtain⟨q1,q2⟩:=BC _ [] rs h1 (λk o hk=>by rw[aa1,aa6];exact fW k o hk) λi hi=>absurd hi (Nat.not_lt_zero _);rw[aa1,aa6,CO] at q1;have yU:CF ops (tX (ops.toList.take n) []):=yF _ [] (λi s hs=>by cases hs) λk o hk=>by rw[aa1,aa6];exact fW k o hk
   have PX:∀(l:List Oper) (dy:List Nat),(tX l dy).length=dy.length+l.length:=by
    intro l;induction l with
    | nil=>intro dy;rfl
    | cons o l ih=>intro dy;show(tX l _).length=_;rw[ih,aaj,aar,aa1,aar];omega
   have rC:∀(i j:Nat),waits ops i j=true->j<i:=by
    intro i j hw;unfold waits at hw;cases ho:ops[i]? with
    | none=>rw[ho] at hw;cases hw
    | some o=>
     rw[ho] at hw;simp only[adf,acl,Array.any_eq_true',aal,beq_iff_eq] at hw;obtain⟨e,he,hbi,rfl⟩:=hw;exact mL hb ho e he hbi
   refine lS n (ops.size-n) (DJ m cx ops n st.env st.heap rs) hm hb jx ?_ (λQ' d a w i hi hI nD rX hc hw=>DJ.step q1 Ev (λi hi=>q2 i (by omega)) hgs yU (by rw[PX,aa1,aa6,CO]) kF rC hi hI nD rX hc hw) λd a w hI dW=>?_
   ·obtain⟨bs,S,hs,he⟩:=bL;have hd:Below w.heap.size w w.drew:=(Below.refl _ _).drew;have hh0:iu st.heap n rs (λ_=>false)=st.heap++List.replicate n .dead:=by
     refine acS λk=>?_;by_cases hk:k<st.heap.length+n
     ·rw[kE hk,zh];by_cases gr:k<st.heap.length
      ·rw[aai gr,aac,aaa gr];rfl
      ·rw[aaf (by omega),adE,if_pos (by omega),aac,aaE (by omega)];rfl
     ·rw[aaE (by rw[kD];omega),aaE (by rw[aaj,adW];omega)]
    refine⟨bs++List.replicate n undef,S,by rw[hh0];exact(hs.grow hd (λ_ h=>h) λ_ h=>.inl h).pads n,λj hj _=>?_,he.d,he.s,λt x hx=>?_⟩
    ·rw[<-hs.len,aaf (by omega),aaB,adE,if_pos hj]
    ·rcases iM hx with⟨j,r,_,h,_⟩|⟨h1,_⟩
     ·cases h
     ·obtain⟨v,k1,k2⟩:=he.k t x h1;exact⟨v,k1,k2.keep (λ_ h=>h) (λ_ _=>rfl) λo u hu _=>by rw[aai (aab.1 hu).1];exact hu⟩
   ·obtain⟨bs,S,hs,_,he⟩:=hI;have lE:eO m cx ⟨kI ops (qt ops n) st.env (λ_=>true) (j8 rs),iu st.heap n rs (λ_=>true)⟩ a w:=by
     refine⟨bs,S,?_,he.d,he.s,λt x hx=>he.k t x ?_⟩
     ·have:iu st.heap n rs (λ_=>true)=iu st.heap n rs d:=by
       unfold iu;refine List.map_congr_left λo _=>mF λj hj=>.inl ?_;rw[dW j hj]
      show HS cx bs w S (iu st.heap n rs (λ_=>true));rw[this];exact hs
     ·rcases iM hx with⟨j,r,hj,_,ht,hr,rfl⟩|⟨k1,k2⟩
      ·rw[ky] at hj;exact iE (by rw[ky];exact hj) (dW j (by omega)) ht hr
      ·exact kH k1 (Gq k2)
    have:=sg (C:=C) (Q:=Q) (cx:=cx) (ops.toList.drop n) n rfl h2 lE hQ
    rwa [acP,aaD] at this
  ·exact h.elim
 ·exact h.elim
end
def Uq (l:List Oper):Bool:=l.any λo=>match o.op with
 | .build _ ps=>ps.toList.any λp=>match p.2 with
  | .tmp t=>l.any λq=>match q.op with
   | .buildSlice _ _ _=>q.dst==some t
   | _=>false
  | _=>false
 | _=>false
def Uo {P:Program} (C:gb P) (l:List Oper):Bool:=l.any λo=>match o.op with
 | .call { callee:=.value (.func f),args:=args, .. }=>(C.D.find? λs=>s.f==f).any Sm.al&&args.toList.any λx=>match x with
  | .tmp t=>l.any λq=>match q.op with
   | .buildSlice _ _ _=>q.dst==some t
   | .makeSlice _ _ _=>q.dst==some t
   | _=>false
  | _=>false
 | _=>false
def Zf {P:Program} (C:gb P) (m:Nat) (ops:Array Oper) (st:dw):T dw:=
 if !(Uq ops.toList)&&!(Uo C ops.toList)&&uk ops (BK C [] ops.toList) (BK C [] ops.toList+(ops.size-BK C [] ops.toList)) then SU C m ops (BK C [] ops.toList) st
 else if !(Uq ops.toList)&&!(Uo C ops.toList)&&uk ops (uN C ops.toList) (uN C ops.toList+(ops.size-uN C ops.toList)) then SU C m ops (uN C ops.toList) st
 else if uk ops (uO [] ops.toList) (uO [] ops.toList+(ops.size-uO [] ops.toList)) then SX C m ops (uO [] ops.toList) st else SX C m ops ops.size st
def Vh {P:Program} (C:gb P) (m:Nat) (fn:Func) (pb:List Nat) (vw:Bool) (hv:pb=[]\/vw=false):Rg P m where
 fn:=fn
 pb:=pb
 reg id ops dr st:=if dr then Zf C m ops st else DK C m ops ops.toList st
 ok id ops dr cx st cQ a w Q h hs hQ:=by
  cases dr with
  | true=>
   have h:(Zf C m ops st).hit cQ:=h;unfold Zf at h;split at h
   ·exact OA h hs hQ
   ·split at h
    ·exact OA h hs hQ
    ·split at h
     ·exact OB h hs hQ
     ·exact OB h hs hQ
  | false=>exact IC h hs hQ
 res:=V2 P C.ty fn vw
 resOk cx st a w r lQ h hs:=QG (hv.imp (λe=>lQ.trans e) id) h hs
theorem T.hit_map {α β:Type} {f:α->β} {t:T α} {r:β} (h:(t.bind λx=>.lf (f x)).hit r):∃q,t.hit q/\f q=r:=T.hit_bind h
def Oe {P:Program} {m:Nat} (R:Rg P m) (tb:List (Nat×List Nat)):Rg P m:={ R with
 reg:=λid ops dr st=>match tb.lookup id with
  | some l=>(R.reg id ops dr st).bind λst=>.lf (l.foldl ze st)
  | none=>R.reg id ops dr st
 ok:=λid ops dr cx st cQ a w Q h hs hQ=>by
  revert h
  split
  ·intro h;obtain⟨q,h1,h2⟩:=T.hit_map h;exact R.ok id ops dr cx st q a w Q h1 hs λa' w' h'=>hQ a' w' (h2▸zf h')
  ·intro h;exact R.ok id ops dr cx st cQ a w Q h hs hQ }
structure zA where
 f:dw->T dw
 ok:∀(m:Nat) (cx:Cx) (st cQ:dw) (a:Act) (w:World),(f st).hit cQ->eO m cx st a w->eO m cx cQ a w
def rowAt (H:List ah) (q k:Nat):Option Nat:=match H[q]? with
 | some (.cells _ cs)=>match cs[k]? with
  | some (.own o)=>some o
  | _=>none
 | _=>none
section
variable {m:Nat} {cx:Cx} {st:dw} {a:Act} {w:World} {S:Nat->Prop}
theorem QR {α:Type} [ay α] {k B:Nat} {e:TypeId} {v:Value} {xs:List α} (hk:ay.sz α=k) (h:Own w S B e v xs):∃bq:List (jj k),Own w S B e v bq/\bq.length=xs.length/\∀(j:Nat) (r:jj k) (x:α),bq[j]?=some r->xs[j]?=some x->ay.rep w S r.cells x:=by
 subst hk;obtain⟨cs,h1,h2,h3⟩:=h;have:∀{cs:List Value} {xs:List α},Flat w S cs xs->∃bq:List (jj (ay.sz α)),Flat w S cs bq/\bq.length=xs.length/\∀(j:Nat) (r:jj (ay.sz α)) (x:α),bq[j]?=some r->xs[j]?=some x->ay.rep w S r.cells x:=by
  intro cs xs hf;induction hf with
  | nil=>exact⟨[],.nil,rfl,λj r x h=>by cases h⟩
  | @snoc cs ds xs x hf hr ih=>
   obtain⟨bq,q1,q2,q3⟩:=ih;refine⟨bq++[⟨ds,ay.len hr⟩],.snoc q1 rfl,by simp[q2],λj r y hj hy=>?_⟩;by_cases XI:j<bq.length
   ·rw[aai XI] at hj;rw[aai (by omega)] at hy;exact q3 j r y hj hy
   ·have uz:j=bq.length:=by have:=(aab.1 hj).1;simp at this;omega
    subst uz;rw[aaf (aam _)] at hj;rw[q2,aaf (aam _)] at hy;simp at hj hy;subst hj hy;exact hr
 obtain⟨bq,q1,q2,q3⟩:=this h2;exact⟨bq,⟨cs,by rw[q2];exact h1,q1,h3⟩,q2,q3⟩
theorem QN {α:Type} [ay α] {B:Nat} {e:TypeId} {v:Value} {xs:List α} {bq:List (jj (ay.sz α))} (h:Own w S B e v bq) (hl:bq.length=xs.length) (hr:∀(j:Nat) (r:jj (ay.sz α)) (x:α),bq[j]?=some r->xs[j]?=some x->ay.rep w S r.cells x):Own w S B e v xs:=by
 obtain⟨cs,h1,h2,h3⟩:=h;have:∀{cs:List Value} {bq:List (jj (ay.sz α))},Flat w S cs bq->∀xs:List α,bq.length=xs.length->(∀(j:Nat) (r:jj (ay.sz α)) (x:α),bq[j]?=some r->xs[j]?=some x->ay.rep w S r.cells x)->Flat w S cs xs:=by
  intro cs bq hf;induction hf with
  | nil=>intro xs hl _;rw[aaw hl.symm];exact .nil
  | @snoc cs ds bq r hf hd ih=>
   intro xs hl hr;have eM:xs≠[]:=λe=>by rw[e] at hl;simp at hl
   have Ng:xs=xs.dropLast++[xs.getLast eM]:=(List.dropLast_concat_getLast eM).symm;have bm:bq.length=xs.dropLast.length:=by rw[List.length_dropLast];simp at hl;omega
   rw[Ng];have hd:ds=r.cells:=hd;refine .snoc (ih _ bm λj r' x hj hx=>hr j r' x (by rw[aai (aab.1 hj).1];exact hj) (by rw[Ng,aai (aab.1 hx).1];exact hx)) ?_;rw[hd];exact hr bq.length r _ (by rw[aaf (aam _)];simp) (by
    conv=>lhs;rw[Ng]
    rw[bm,aaf (aam _)];simp)
 exact⟨cs,by rw[<-hl];exact h1,this h2 xs hl hr,h3⟩
theorem HS.alt {bs:List Value} {H:List ah} (h:HS cx bs w S H) {i:Nat} {x y:ah} {v:Value} (hx:H[i]?=some x) (hv:bs[i]?=some v) (kj:OR bs w S y v) (hb:∀c,Bk y v c->Bk x v c:=by intro c h;exact h):HS cx bs w S (H.set i y):=
 h.setB hx hv (row:=none) ⟨rfl,rfl,rfl,aam _,λ_ _ _=>rfl⟩ (λ_ e=>by cases e) kj hb
def Df (q k:Nat) (t tn:Ty) (st:dw):T dw:=match rowAt st.heap q k with
 | some o=>match st.heap[o]? with
  | some (.row KZ e rs)=>match Ty.eq? KZ tn with
   | some h=>if ay.sz (El tn)=ay.sz (El t) then .lf ⟨st.env,st.heap.set o (.zc e t tn rs.length [] (h.down▸rs.reverse))⟩ else .bad
   | none=>.bad
  | _=>.bad
 | none=>.bad
theorem Hz {q k:Nat} {t tn:Ty} {cQ:dw} (h:(Df q k t tn st).hit cQ) (bL:eO m cx st a w):eO m cx cQ a w:=by
 unfold Df at h;split at h
 ·rename_i o _;split at h
  ·rename_i KZ e rs hH;split at h
   ·rename_i hq _;obtain⟨hq⟩:=hq;subst hq;split at h
    ·rename_i iL;obtain rfl:=h;obtain⟨bs,S,hs,he⟩:=bL;have wl:o<bs.length:=by rw[hs.len];exact(aab.1 hH).1
     have hv:=aaa wl;obtain⟨bq,r1,r2,r3⟩:=QR iL (hs.o o _ _ hH hv);refine⟨bs,S,hs.alt hH hv ⟨bq,r1,by rw[r2,aak],λj r hj=>⟨λx hx=>(by cases hx),λ_=>?_⟩⟩,he⟩;have XI:j<rs.reverse.length:=by rw[<-r2];exact(aab.1 hj).1
     have hx:=aaa XI;have hg:rs.reverse.getD (j-([]:List (El t)).length) (zQ KZ)=rs.reverse[j]:=by
      rw[aa1,Nat.sub_zero,aac,hx];rfl
     show ay.rep w S r.cells (rs.reverse.getD (j-([]:List (El t)).length) (zQ KZ));rw[hg];exact r3 j r _ hj hx
    ·exact h.elim
   ·exact h.elim
  ·exact h.elim
 ·exact h.elim
def abK (H:List ah) (q k:Nat):Option Nat:=match H[q]? with
 | some (.cells _ cs)=>match cs[k]? with
  | some (.mp o)=>some o
  | _=>none
 | _=>none
def KA (q k:Nat) (e:TypeId) (st:dw):T dw:=match abK st.heap q k with
 | some o=>match st.heap[o]? with
  | some (.mp kt (.list t) n f)=>.nd (∀k,f k=none) (.lf ⟨st.env,(st.heap.set o (.mq st.heap.length))++[.mr o kt t e n λ_=>none]⟩)
  | _=>.bad
 | none=>.bad
theorem Kz {q k:Nat} {e:TypeId} {cQ:dw} (h:(KA q k e st).hit cQ) (bL:eO m cx st a w):eO m cx cQ a w:=by
 unfold KA at h;split at h
 ·rename_i o _;split at h
  ·rename_i kt t n f hH;obtain⟨hf,h⟩:=h;obtain rfl:=h;obtain⟨bs,S,hs,he⟩:=bL;have wl:o<st.heap.length:=(aab.1 hH).1;obtain⟨v,hv⟩:∃v,bs[o]?=some v:=⟨_,aaa (by rw[hs.len];exact wl)⟩;obtain⟨b,g,e1,hg,hfg⟩:=hs.o o _ _ hH hv;have hB:Bk (.mp kt (.list t) n f) v b:=by rw[e1];rfl
   have hgn:∀k,g k=none:=λk=>by have:=hfg k;rw[hf k] at this;exact this
   have s1:=hs.alt hH hv (y:=.mq st.heap.length) ⟨b,e1⟩ (λ_ h=>by cases h);have Np:=s1.pad;have hl1:(st.heap.set o (.mq st.heap.length)).length=st.heap.length:=aaJ;have hj:((st.heap.set o (.mq st.heap.length))++[ah.dead])[st.heap.length]?=some .dead:=by rw[aaf (by rw[hl1];exact aam _),hl1];simp
   have uz:(bs++[undef])[st.heap.length]?=some undef:=by rw[<-hs.len,aaf (aam _)];simp
   have iW:=Np.fill (x:=.mr o kt t e n λ_=>none) (v:=qQ b []) hj uz rfl
    ⟨b,[],g,rfl,by rw[aan (by omega),aai (by rw[hs.len];exact wl),hv,e1],hg,λk u=>by rw[hgn k];simp,λk _=>hgn k,(λk k' u u' c q=>by rw[hgn k] at q;cases q),λk u q=>by rw[hgn k] at q;cases q⟩
    (λc hc=>by
     obtain⟨b',l',e2,hc⟩:=hc;obtain⟨rfl,rfl⟩:=kO e2;rcases hc with rfl|⟨_,_,_,hu,_⟩
     ·refine⟨(hs.nw _ _ _ _ hH hv hB).1,(hs.nw _ _ _ _ hH hv hB).2,λi y u hy hu hc1=>?_⟩;by_cases hi:i<st.heap.length
      ·rw[aai (by rw[hl1];exact hi)] at hy;rw[aai (by rw[hs.len];exact hi)] at hu;by_cases hio:i=o
       ·subst hio;rw[aat wl] at hy;obtain rfl:=aad hy;cases hc1
       ·rw[aan (acj hio)] at hy;exact hs.ap i o _ _ _ _ _ hio hy hu hH hv hc1 hB
      ·have hlt:=(aab.1 hy).1;rw[aaj,hl1] at hlt;obtain rfl:i=st.heap.length:=by simp at hlt;omega
       rw[hj] at hy;obtain rfl:=aad hy;cases hc1
     ·cases hu)
   have e3:((st.heap.set o (.mq st.heap.length))++[ah.dead]).set st.heap.length (.mr o kt t e n λ_=>none)=(st.heap.set o (.mq st.heap.length))++[.mr o kt t e n λ_=>none]:=by
    rw[act _ _ (by rw[hl1];exact aam _),hl1];simp
   rw[e3] at iW;refine⟨_,S,iW,he.keep (λ_ h=>h) (aw.refl _ _) λi u hu pY=>?_⟩;have hi:=(aab.1 hu).1;rw[hs.len] at hi;rw[aan (by omega),aai (by rw[hs.len];exact hi)];exact hu
  ·exact h.elim
 ·exact h.elim
def KC (q k:Nat) (st:dw):T dw:=match rowAt st.heap q k with
 | some o=>match st.heap[o]? with
  | some (.zc e t tn gw done rest)=>.nd (done.length<gw) (.lf ⟨st.env,(st.heap++[ah.dead]).set o (.zip st.heap.length e t tn gw done (jV tn (rest.getD 0 (zQ tn))) (rest.drop 1))⟩)
  | _=>.bad
 | none=>.bad
theorem KB {q k:Nat} {cQ:dw} (h:(KC q k st).hit cQ) (bL:eO m cx st a w):eO m cx cQ a w:=by
 unfold KC at h;split at h
 ·rename_i o _;split at h
  ·rename_i e t tn gw done rest hH;obtain⟨hlt,h⟩:=h;obtain rfl:=h;obtain⟨bs,S,hs,he⟩:=bL;have wl:o<bs.length:=by rw[hs.len];exact(aab.1 hH).1
   have hv:=aaa wl;obtain⟨bq,ho,hz⟩:=hs.o o _ _ hH hv;obtain⟨g,n,c,hvs⟩:∃g n c,bs[o]=.slice (some ⟨g,0,none⟩) n c:=by
    obtain⟨cs,⟨_,h2⟩,_⟩:=ho;rcases h2 with⟨_,hn⟩|⟨g,cap,cur,jS,_⟩
    ·rw[hz.1] at hn;omega
    ·exact⟨g,_,_,jS⟩
   have Np:=hs.pad;have hj:(st.heap++[ah.dead])[st.heap.length]?=some .dead:=by rw[aaf (aam _)];simp
   have uz:(bs++[undef])[st.heap.length]?=some undef:=by rw[<-hs.len,aaf (aam _)];simp
   have iW:=Np.fill (x:=.dead) (v:=.pointer (some ⟨g,done.length*ay.sz (El t),none⟩)) hj uz rfl trivial (λb hb=>by cases hb);rw[Lv hj] at iW;have xt:(bs++[undef]).set st.heap.length (.pointer (some ⟨g,done.length*ay.sz (El t),none⟩))=bs++[.pointer (some ⟨g,done.length*ay.sz (El t),none⟩)]:=by
    rw[<-hs.len,act _ _ (aam _)];simp
   rw[xt] at iW;have hH2:(st.heap++[ah.dead])[o]?=some (.zc e t tn gw done rest):=by rw[aai (aab.1 hH).1];exact hH
   have jS:(bs++[.pointer (some ⟨g,done.length*ay.sz (El t),none⟩)])[o]?=some bs[o]:=by rw[aai wl];exact hv
   have hd:∀k,(rest.drop 1).getD k (zQ tn)=rest.getD (k+1) (zQ tn):=λk=>by
    rw[aac,aac,acc,ad7]
   refine⟨_,S,iW.alt (y:=.zip st.heap.length e t tn gw done (jV tn (rest.getD 0 (zQ tn))) (rest.drop 1)) hH2 jS ⟨bq,ho,⟨hz.1,λj r hr=>?_⟩,hlt,.pointer (some ⟨g,done.length*ay.sz (El t),none⟩),by rw[<-hs.len,aaf (aam _)];simp,rfl,λg' n' c' e=>by rw[hvs] at e;injection e with e;injection e with e;injection e with e;rw[e]⟩,he.keep (λ_ h=>h) (aw.refl _ _) (mM _ _)⟩;obtain⟨z1,z2⟩:=hz.2 j r hr;refine⟨z1,λe=>?_,λiR=>?_⟩
   ·have:=z2 (by omega);rw[show j-done.length=0 by omega] at this;exact jg this
   ·rw[hd,show j-done.length-1+1=j-done.length by omega];exact z2 (by omega)
  ·exact h.elim
 ·exact h.elim
def Wh (cs:List AV):List Nat:=cs.filterMap λ
 | .own o=>some o
 | _=>none
def Fo (q k:Nat) (st:dw):T dw:=match rowAt st.heap q k with
 | some o=>match st.heap[o]? with
  | some (.zip _ e t tn gw done cur rest)=>(T.op (un t cur)).bind λy=>.lf ⟨st.env,st.heap.set o (.zc e t tn gw (done++[y]) rest)⟩
  | _=>.bad
 | none=>.bad
def Qb (q k:Nat) (st:dw):dw:=match rowAt st.heap q k with
 | some o=>match st.heap[o]? with
  | some (.zip _ _ _ _ _ _ cur _)=>(Wh cur).foldl (λst i=>SF i st) st
  | _=>st
 | none=>st
def De (q k:Nat) (st:dw):T dw:=Fo q k (Qb q k st)
theorem Hy {q k:Nat} {cQ:dw} (h:(De q k st).hit cQ) (bL:eO m cx st a w):eO m cx cQ a w:=by
 have hf:eO m cx (Qb q k st) a w:=by
  unfold Qb;split
  ·split
   ·rename_i cur _ _;have:∀(l:List Nat) (st:dw),eO m cx st a w->eO m cx (l.foldl (λst i=>SF i st) st) a w:=by
     intro l;induction l with
     | nil=>intro st h;exact h
     | cons i l ih=>intro st h;exact ih _ (uI h)
    exact this _ _ bL
   ·exact bL
  ·exact bL
 unfold De at h;generalize Qb q k st=st1 at h hf;unfold Fo at h;split at h
 ·rename_i o _;split at h
  ·rename_i o2 e t tn gw done cur rest hH;obtain⟨y,h1,h2⟩:=T.hit_bind h;obtain rfl:=h2;have hy:=T.hit_op h1;obtain⟨bs,S,hs,he⟩:=hf;have wl:o<bs.length:=by rw[hs.len];exact(aab.1 hH).1
   have hv:=aaa wl;obtain⟨bq,ho,hz,_⟩:=hs.o o _ _ hH hv;refine⟨bs,S,hs.alt hH hv ⟨bq,ho,hz.1,λj r hr=>?_⟩,he⟩;obtain⟨z1,z2,z3⟩:=hz.2 j r hr;refine⟨λx hx=>?_,λhl=>?_⟩
   ·by_cases hj:j<done.length
    ·rw[aai hj] at hx;exact z1 x hx
    ·have uz:j=done.length:=by have:=(aab.1 hx).1;simp at this;omega
     subst uz;rw[aaf (aam _)] at hx;simp at hx;subst hx;exact jr hy (z2 rfl)
   ·rw[aaj,aaA] at hl ⊢;rw[show j-(done.length+1)=j-done.length-1 by omega];exact z3 (by omega)
  ·exact h.elim
 ·exact h.elim
def Vv (q k:Nat) (st:dw):T dw:=match rowAt st.heap q k with
 | some o=>match st.heap[o]? with
  | some (.zc e t _ gw done _)=>.nd (gw=done.length) (.lf ⟨st.env,st.heap.set o (.row t e done.reverse)⟩)
  | _=>.bad
 | none=>.bad
theorem Qc {q k:Nat} {cQ:dw} (h:(Vv q k st).hit cQ) (bL:eO m cx st a w):eO m cx cQ a w:=by
 unfold Vv at h;split at h
 ·rename_i o _;split at h
  ·rename_i e t tn gw done rest hH;obtain⟨hlt,h⟩:=h;obtain rfl:=h;obtain⟨bs,S,hs,he⟩:=bL;have wl:o<bs.length:=by rw[hs.len];exact(aab.1 hH).1
   have hv:=aaa wl;obtain⟨bq,ho,hz⟩:=hs.o o _ _ hH hv;refine⟨bs,S,hs.alt hH hv ?_,he⟩;show Own (α:=El t) w S 0 e _ done.reverse.reverse;rw[aag];exact QN ho (hz.1.trans hlt) λj r x hr hx=>(hz.2 j r hr).1 x hx
  ·exact h.elim
 ·exact h.elim
end
def adj (q k:Nat) (e:TypeId):zA:=⟨KA q k e,λ_ _ _ _ _ _=>Kz⟩
def Oa (q k:Nat) (t tn:Ty):zA:=⟨Df q k t tn,λ_ _ _ _ _ _=>Hz⟩
def U0 (q k:Nat):zA:=⟨KC q k,λ_ _ _ _ _ _=>KB⟩
def mD (q k:Nat):zA:=⟨De q k,λ_ _ _ _ _ _=>Hy⟩
def adl (q k:Nat):zA:=⟨Vv q k,λ_ _ _ _ _ _=>Qc⟩
def hkT (l:List (Nat×zA)) (id:Nat) (st:dw):T dw:=match l.lookup id with
 | some h=>h.f st
 | none=>.lf st
theorem NC {m:Nat} {cx:Cx} {l:List (Nat×zA)} {id:Nat} {st cQ:dw} {a:Act} {w:World} (h:(hkT l id st).hit cQ) (bL:eO m cx st a w):eO m cx cQ a w:=by
 unfold hkT at h;split at h
 ·exact zA.ok _ m cx st cQ a w h bL
 ·obtain rfl:=h;exact bL
def yT {P:Program} {m:Nat} (R:Rg P m) (pre post:List (Nat×zA)):Rg P m:={ R with
 reg:=λid ops dr st=>(hkT pre id st).bind λst=>(R.reg id ops dr st).bind λst=>hkT post id st
 ok:=λid ops dr cx st cQ a w Q h hs hQ=>by
  obtain⟨s1,h1,h2⟩:=T.hit_bind h;obtain⟨s2,h3,h4⟩:=T.hit_bind h2;exact R.ok id ops dr cx s1 s2 a w Q h3 (NC h1 hs) λa' w' h'=>hQ a' w' (NC h4 h') }
end Go.Proofs.YtdbpbfglhbiadaaGreatDoor
