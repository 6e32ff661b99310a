/- MDrd MFrz MHook -/
import Derived.Test.YtdbpbfglhbiadaaGreatDoorH00
import Derived.Test.YtdbpbfglhbiadaaGreatDoorH28
set_option maxHeartbeats 4000000
set_option maxRecDepth 100000
namespace Go.Proofs.YtdbpbfglhbiadaaGreatDoor
open Go Go.RowKit
structure Dl where
 x:XV
 nw:Option ah
 ch:List (Nat×ah)
def eM:List (Nat×ah)->Nat->Option ah
 | [],_=>none
 | p::l,o=>match eM l o with
  | some y=>some y
  | none=>if p.1=o then some p.2 else none
def nc (N0:Nat) (rs:List Dl) (j o:Nat):Option ah:=match rs[j]? with
 | some r=>if o=N0+j then some (r.nw.getD .dead) else eM r.ch o
 | none=>none
def fD (N0:Nat) (rs:List Dl) (d:Nat->Bool) (x0:ah) (o:Nat) (n:Nat):ah:=(List.range n).foldl (λx j=>if d j then(nc N0 rs j o).getD x else x) x0
section
variable {N0 o:Nat} {rs:List Dl} {d d':Nat->Bool} {x0:ah}
theorem kd {n:Nat}:fD N0 rs d x0 o (n+1)=if d n then(nc N0 rs n o).getD (fD N0 rs d x0 o n) else fD N0 rs d x0 o n:=by
 unfold fD;rw[List.range_succ,List.foldl_append];rfl
theorem m7:∀{n:Nat},(∀j,j<n->d j=d' j\/nc N0 rs j o=none)->fD N0 rs d x0 o n=fD N0 rs d' x0 o n
 | 0,_=>rfl
 | n+1,h=>by
  rw[kd,kd,m7 (n:=n) λj hj=>h j (by omega)];rcases h n (by omega) with e|e
  ·rw[e]
  ·rw[e];simp
theorem Qx {i:Nat} (hd:d i=false):∀{n:Nat},i<n->(∀j,i<j->j<n->d j=true->nc N0 rs j o=none\/nc N0 rs i o=none)->fD N0 rs (jI d i) x0 o n=(nc N0 rs i o).getD (fD N0 rs d x0 o n)
 | n+1,hi,h=>by
  rw[kd,kd];by_cases e:i=n
  ·subst e;rw[gh,if_pos rfl,hd,m7 (d':=d) λj hj=>.inl (bC d (by omega))];simp
  ·rw[bC d (acE e),Qx hd (n:=n) (by omega) λj h1 h2 h3=>h j h1 (by omega) h3];cases hn:d n with
   | false=>simp
   | true=>
    rcases h n (by omega) (by omega) hn with q|q
    ·rw[q];simp
    ·rw[q];simp
end
theorem Nq {P:Program} {Hv Hf:List ah} {t:TypeId} {x y:Option XV} {p:Nat×ah} (hv:xb Hv Hf) (h:zD P Hv t x y=some p):zD P Hf t x y=some p:=by
 unfold zD at h ⊢;split at h
 ·split at h
  ·rename_i hH;rcases hv.2 _ _ hH with e|e
   ·cases e
   ·simp only[*]
  ·cases h
 ·split at h
  ·rename_i hH;rcases hv.2 _ _ hH with e|e
   ·cases e
   ·simp only[*]
  ·cases h
 ·split at h
  ·rename_i hH;rcases hv.2 _ _ hH with e|e
   ·cases e
   ·simp only[*]
  ·cases h
 ·cases h
def apK (H:List ah) (x:Option XV):List (Nat×ah):=match x with
 | some (.one (.own ob))=>[(ob,.dead)]
 | some (.one (.mrow q kt k))=>match H[q]? with
  | some (.mr p j5 t e' n f)=>match Kt.eq? kt j5 with
   | some h=>[(q,.mx p j5 t e' n f (h.down▸k))]
   | none=>[]
  | _=>[]
 | _=>[]
theorem Wm {ty:TypeId->Option Ty} {Hv Hf H':List ah} {e:TypeId} {x:Option XV} {q:(y:Ty)×List (El y)} (hv:xb Hv Hf) (h:apS ty Hv e x=some (H',q)):apS ty Hf e x=some (iH (apK Hv x) Hf,q):=by
 unfold apS at h ⊢;split at h
 ·split at h
  ·rename_i ob _ y e' rs hH;rcases hv.2 _ _ hH with e2|e2
   ·cases e2
   ·split at h
    ·rename_i he;injection h with h
     injection h with h1 h2
     subst h2;simp only[e2,he,if_true];rfl
    ·cases h
  ·cases h
 ·cases hte:ty e with
  | none=>rw[hte] at h;cases h
  | some y=>
   rw[hte] at h;injection h with h
   injection h with h1 h2
   subst h2;rfl
 ·rename_i q kt k;split at h
  ·rename_i p j5 t e' n f hH;rcases hv.2 _ _ hH with e2|e2
   ·cases e2
   ·split at h
    ·rename_i hk gM;split at h
     ·rename_i he;injection h with h
      injection h with h1 h2
      subst h2;subst he;simp only[e2,gM,if_true];simp only[apK,hH,gM];rfl
     ·cases h
    ·cases h
  ·cases h
 ·cases h
theorem Wl {Hv Hf:List ah} {y:Ty} {x:Option XV} {ys:List (El y)} (hv:xb Hv Hf) (h:apY Hv y x=some ys):apY Hf y x=some ys:=by
 unfold apY at h ⊢;split at h
 ·split at h
  ·rename_i hH;rcases hv.2 _ _ hH with e2|e2
   ·cases e2
   ·simp only[e2];exact h
  ·cases h
 ·exact h
 ·cases h
theorem RE {P:Program} {ty:TypeId->Option Ty} {Hv Hf:List ah} {t:TypeId} {s x:Option XV} {r:List ah×(y:Ty)×TypeId×List (El y)} (hv:xb Hv Hf) (h:(GO P ty Hv t s x).hit r):(GO P ty Hf t s x).hit (iH (apK Hv s) Hf,r.2):=by
 unfold GO at h ⊢;cases fm:slI P t with
 | none=>rw[fm] at h;exact h.elim
 | some q=>
  obtain⟨e,sz,bytes⟩:=q;rw[fm] at h;simp only at h ⊢;cases hs:apS ty Hv e s with
  | none=>rw[hs] at h;exact h.elim
  | some q=>
   obtain⟨H',y,rs⟩:=q;rw[hs] at h;rw[Wm hv hs];simp only at h ⊢;cases hy:apY Hv y x with
   | none=>rw[hy] at h;exact h.elim
   | some ys=>
    rw[hy] at h;rw[Wl hv hy];simp only at h ⊢;split at h
    ·rename_i jb;rw[if_pos jb];obtain⟨h1,h2⟩:=h;exact⟨h1,by obtain rfl:=h2;rfl⟩
    ·exact h.elim
def WY (cs:List AV):List Nat:=cs.filterMap lZ
def MU (H:List ah):XV->XV
 | .one a=>.one (BG H a)
 | .agg cs=>.agg (cs.map (BG H))
 | x=>x
def yb (xs:List XV):List Nat:=xs.flatMap λ
 | .one a=>WY [a]
 | .agg cs=>WY cs
 | .tup _=>[]
def dop {P:Program} (C:eP P) (cm:Nat) (env:Env) (H:List ah) (o:Oper):T Dl:=match o.op with
 | .store t x y=>match o.dst with
  | none=>T.op ((zD P H t (ev env x) (ev env y)).map λp=>⟨.tup [],none,[p]⟩)
  | some _=>.bad
 | .call { callee:=.builtin .append,args:=args,argTypes:=ts }=>match args.toList,ts.toList with
  | [s,x],[t,t']=>if t=t' then(GO P C.ty H t (ev env s) (ev env x)).bind λr=>.lf ⟨.one (.own cm),some (.row r.2.1 r.2.2.1 r.2.2.2),apK H (ev env s)⟩ else .bad
  | _,_=>.bad
 | .mapUpdate t x k v=>match o.dst with
  | none=>(Zq P C.ty cm H t (ev env x) (ev env k) (ev env v)).bind λr=>.lf ⟨.tup [],r.2,r.1⟩
  | some _=>.bad
 | .buildSlice t n ps=>match kq env ps.toList with
  | some l=>(T.op (Kj P C.ty cm t n (some (WN H l)))).bind λr=>.lf ⟨r.1,r.2,kP (vg l)⟩
  | none=>.bad
 | .call { callee:=.value (.func f),args:=args,argTypes:=_ }=>if C.eff o then(C.d o env H).bind λr=>.lf ⟨r.1,none,r.2⟩ else(match jt env args.toList with
  | some xs=>if xs.any TZ&&(C.D.find? λs=>s.f==f).any Sm.al then(WX C.ty C.D (H.map λ_=>ah.dead) f (some (xs.map (MU H)))).bind λx=>.lf ⟨x,none,kP (yb xs)⟩ else(XD C.ty C.D cm env H o).bind λr=>.lf ⟨r.1,r.2,[]⟩
  | none=>.bad)
 | _=>if C.eff o then(C.d o env H).bind λr=>.lf ⟨r.1,none,r.2⟩ else(XD C.ty C.D cm env H o).bind λr=>.lf ⟨r.1,r.2,[]⟩
theorem NH {α:Type} {l:List α} {i:Nat} {x:α} (h:l[i]?=some x):l.set i x=l:=by
 refine acQ λj=>?_;by_cases e:i=j
 ·subst e;rw[abv (aad.1 h).1,h]
 ·rw[aaS e]
theorem xb.hide {Hv Hf:List ah} (hv:xb Hv Hf) {cx:Cx} {bs:List Value} {w:World} {S:Nat->Prop} (hs:HS cx bs w S Hf):HS cx bs w S Hv:=hs.mask hv.1 hv.2
theorem gV:∀{l l':List (Nat×ah)} {H:List ah},iH (l++l') H=iH l' (iH l H)
 | [],_,_=>rfl
 | _::l,_,_=>gV (l:=l)
theorem fU:∀{l:List (Nat×ah)} {H:List ah},(iH l H).length=H.length
 | [],_=>rfl
 | p::l,H=>by show(iH l (H.set p.1 p.2)).length=_;rw[fU,ab1]
theorem kK:∀{l:List (Nat×ah)} {H:List ah} {o:Nat} {y:ah},H[o]?=some y->(iH l H)[o]?=some ((eM l o).getD y)
 | [],_,_,_,h=>h
 | p::l,H,o,y,h=>by
  show(iH l (H.set p.1 p.2))[o]?=_;by_cases e:p.1=o
  ·subst e;rw[kK (l:=l) (abv (aad.1 h).1)];show _=some (Option.getD (match eM l p.1 with|some y=>some y|none=>if p.1=p.1 then some p.2 else none) y);cases eM l p.1<;>simp
  ·rw[kK (l:=l) (by rw[aaS e];exact h)];show _=some (Option.getD (match eM l o with|some y=>some y|none=>if p.1=o then some p.2 else none) y);cases eM l o<;>simp[e]
theorem vR {k:Nat} {x:ah}:∀{l:List (Nat×ah)} {o:Nat},eM (l++[(k,x)]) o=if k=o then some x else eM l o
 | [],o=>by show(match (none:Option ah) with|some y=>some y|none=>if k=o then some x else none)=_;rfl
 | p::l,o=>by
  show(match eM (l++[(k,x)]) o with|some y=>some y|none=>if p.1=o then some p.2 else none)=if k=o then some x else(match eM l o with|some y=>some y|none=>if p.1=o then some p.2 else none)
  rw[vR (l:=l)];by_cases e:k=o
  ·rw[if_pos e,if_pos e]
  ·rw[if_neg e,if_neg e]
theorem yx {x:ah}:∀{l:List (Nat×ah)} {o:Nat},eM l o=some x->∃p∈l,p.1=o
 | p::l,o,h=>by
  have h:(match eM l o with|some y=>some y|none=>if p.1=o then some p.2 else none)=some x:=h;cases e:eM l o with
  | some y=>obtain⟨q,h1,h2⟩:=yx e;exact⟨q,aa0 _ h1,h2⟩
  | none=>
   rw[e] at h;simp only at h;split at h
   ·rename_i h1;exact⟨p,aaz,h1⟩
   ·cases h
theorem BW {H:List ah} {i:Nat} (h:∀x,H[i]?=some x->x=.dead):H.set i .dead=H:=by
 refine acQ λj=>?_;by_cases e:i=j
 ·subst e;cases hx:H[i]? with
  | none=>rw[abC (by rw[ab1];exact List.getElem?_eq_none_iff.1 hx)]
  | some x=>rw[abv (aad.1 hx).1,h x hx]
 ·rw[aaS e]
theorem Vs {P:Program} {o:Oper} {cx:Cx} {bs:List Value} {w:World} {S:Nat->Prop} {Hf:List ah} {cm:Nat} {a:Act} {q:XV×Option ah} {K:Act->World->Prop} {Q:Exit->Act->World->Prop} (hs:HS cx bs w S Hf) (hn:Hf[cm]?=some .dead) (hb:bs[cm]?=some undef) (h:iN P o bs w S a cm q) (hK:∀v w' aZ S',HS cx aZ w' S' (Hf.set cm (q.2.getD .dead))->(∀b,S b->S' b)->aw S w w'->iV bs aZ->(∀j,j≠cm->aZ[j]?=bs[j]?)->(o.dst.isSome=true->XR aZ w' S' q.1 v)->K (a.put o.dst v) w'):o.wp P a w K Q:=by
 refine h _ _ λv w' S' u AP hS um hx hf=>?_;have fo:=hs.grow AP hS um;have bM:aw S w w':=(aw.of_below AP).sub λb q=>(hs.s b q).1;cases hq:q.2 with
 | none=>
  refine hK v w' bs S' ?_ hS bM (iV.refl _) (λ_ _=>rfl) λ_=>(hx bs (iV.refl _) (by rw[hq];intro h;cases h)).1;rw[hq];show HS cx bs w' S' (Hf.set cm .dead);rw[BW λx hx=>by rw[hn] at hx;exact(aaj hx).symm];exact fo
 | some x=>
  have wu:iV bs (bs.set cm u):=λi z hz jR=>by
   rw[aaS (λe=>by subst e;rw[hb] at hz;obtain rfl:=aaj hz;cases jR)];exact hz
  obtain⟨UX,Bt⟩:=hx (bs.set cm u) wu (λ_=>abv (aad.1 hb).1);refine hK v w' (bs.set cm u) S' ?_ hS bM wu (λj hj=>aaS (acE hj)) λ_=>UX;rw[hq];refine fo.fill hn hb rfl (Bt x hq) λb gp=>⟨.inl (aax hs.size (hf x hq b gp).1),(hf x hq b gp).2,λi z p hz hp e=>?_⟩;have:=(hs.o i z p hz hp).lt e;have:=(hf x hq b gp).1;omega
theorem o4 {o:Nat}:∀os:List Nat,eM (kP os) o=none\/eM (kP os) o=some .dead
 | []=>.inl rfl
 | i::os=>by
  show(match eM (kP os) o with|some y=>some y|none=>if i=o then some ah.dead else none)=none\/_=some ah.dead;rcases o4 (o:=o) os with e|e
  ·by_cases h:i=o
   ·exact .inr (by show(match eM (kP os) o with|some y=>some y|none=>if i=o then some ah.dead else none)=_;rw[e];simp[h])
   ·exact .inl (by rw[e];simp[h])
  ·exact .inr (by show(match eM (kP os) o with|some y=>some y|none=>if i=o then some ah.dead else none)=_;rw[e])
theorem uF {bs:List Value} {w:World} {S S':Nat->Prop} {Hv Hf:List ah} {os:List Nat} (hv:xb Hv Hf) (hS:∀b,S b->S' b) (hk:∀o∈os,∀(y:ah) (x:AV) (v:Value),Hf[o]?=some y->jH y=some x->bs[o]?=some v->VR bs w S' x v) {x:AV} {v:Value} (hx:∀o,lZ x=some o->o∈os) (h:VR bs w S x v):VR bs w S' (BG Hv x) v:=by
 have up:VR bs w S' x v:=h.keep hS (aw.refl _ _) (iV.refl _);unfold BG;split
 ·rename_i o ho;cases e:Hv[o]? with
  | none=>exact up
  | some y=>
   show VR bs w S' ((jH y).getD x) v;cases e2:jH y with
   | none=>exact up
   | some z=>
    rcases hv.2 _ _ e with e3|e3
    ·subst e3;cases e2
    ·exact hk o (hx o ho) y z v e3 e2 (vk h ho)
 ·exact up
theorem MV {bs:List Value} {w:World} {S S':Nat->Prop} {Hv Hf:List ah} {os:List Nat} (hv:xb Hv Hf) (hS:∀b,S b->S' b) (hk:∀o∈os,∀(y:ah) (x:AV) (v:Value),Hf[o]?=some y->jH y=some x->bs[o]?=some v->VR bs w S' x v) {l:List (Nat×List AV)} {m:List (Nat×Value)} (h:F2 (λp q=>p.1=q.1/\F2 (VR bs w S) p.2 q.2.cells.toList) l m) (hm:∀p∈l,∀x∈p.2,∀o,lZ x=some o->o∈os):F2 (λp q=>p.1=q.1/\F2 (VR bs w S') p.2 q.2.cells.toList) (WN Hv l) m:=
 h.mapL λp hp _ hr=>⟨hr.1,hr.2.mapL λx hx _ hvr=>uF hv hS hk (hm p hp x hx) hvr⟩
theorem KE {l:List (Nat×List AV)}:∀p∈l,∀x∈p.2,∀o,lZ x=some o->o∈vg l:=λp hp x hx _ e=>adA.2 ⟨p,hp,adk.2 ⟨x,hx,e⟩⟩
theorem JS {bs:List Value} {w:World} {S S':Nat->Prop} {Hv Hf:List ah} {os:List Nat} (hv:xb Hv Hf) (hS:∀b,S b->S' b) (hk:∀o∈os,∀(y:ah) (x:AV) (v:Value),Hf[o]?=some y->jH y=some x->bs[o]?=some v->VR bs w S' x v) {l:List XV} {m:List Value} (h:F2 (XR bs w S) l m) (hm:∀x∈l,∀a o,(x=.one a\/∃cs,x=.agg cs/\a∈cs)->lZ a=some o->o∈os):F2 (XR bs w S') (l.map (MU Hv)) m:=by
 refine h.mapL λx hx v hvr=>?_;cases x with
 | one a=>exact uF hv hS hk (λo e=>hm _ hx a o (.inl rfl) e) hvr
 | agg cs=>
  obtain⟨vs,e,hf⟩:=hvr;exact⟨vs,e,hf.mapL λy hy u hu=>uF hv hS hk (λo e2=>hm _ hx y o (.inr ⟨cs,rfl,hy⟩) e2) hu⟩
 | tup l=>exact XR.keep hvr hS (aw.refl _ _) (iV.refl _)
theorem KD {l:List XV}:∀x∈l,∀a o,(x=.one a\/∃cs,x=.agg cs/\a∈cs)->lZ a=some o->o∈yb l:=by
 intro x hx a o h e;refine adA.2 ⟨x,hx,?_⟩;rcases h with rfl|⟨cs,rfl,h⟩
 ·exact adk.2 ⟨a,acb.2 rfl,e⟩
 ·exact adk.2 ⟨a,h,e⟩
theorem lu {Hv Hf:List ah} (hv:xb Hv Hf) {i:Nat} {y:ah} (h:Hv[i]?=some y) (hy:y≠.dead):Hf[i]?=some y:=(hv.2 _ _ h).elim (λe=>absurd e hy) id
theorem Ug {P:Program} {ty:TypeId->Option Ty} {cm:Nat} {Hv Hf:List ah} {t:TypeId} {m x v:Option XV} {r:List (Nat×ah)×Option ah} (hv:xb Hv Hf) (h:(Zq P ty cm Hv t m x v).hit r):(Zq P ty cm Hf t m x v).hit r:=by
 unfold Zq at h ⊢;split at h
 ·split at h
  ·rename_i hk hH;simp only[hk,lu hv hH (λe=>by cases e)];exact h
  ·rename_i hk hH;simp only[hk,lu hv hH (λe=>by cases e)];split at h
   ·rename_i hQ;simp only[lu hv hQ (λe=>by cases e)];split at h
    ·rename_i hR;simp only[lu hv hR (λe=>by cases e)];exact h
    ·exact h.elim
   ·exact h.elim
  ·exact h.elim
 ·exact h.elim
theorem abh {P:Program} {C:eP P} {o:Oper} {cx:Cx} {bs:List Value} {w:World} {S:Nat->Prop} {Hv Hf:List ah} {m cm:Nat} {env:Env} {a:Act} {r:Dl} {K:Act->World->Prop} {Q:Exit->Act->World->Prop} (hv:xb Hv Hf) (hs:HS cx bs w S Hf) (he:ER m bs w S env a) (hn:Hf[cm]?=some .dead) (hb:bs[cm]?=some undef) (h:(dop C cm env Hv o).hit r) (hK:∀v w' aZ S',HS cx aZ w' S' (iH (r.ch++[(cm,r.nw.getD .dead)]) Hf)->(∀b,S b->S' b)->aw S w w'->iV bs aZ->(∀j,j≠cm->aZ[j]?=bs[j]?)->(o.dst.isSome=true->XR aZ w' S' r.x v)->K (a.put o.dst v) w'):o.wp P a w K Q:=by
 unfold dop at h;split at h
 ·rename_i t x y hop;split at h
  ·rename_i wo;have h:=T.hit_op h;cases hp:zD P Hv t (ev env x) (ev env y) with
   | none=>rw[hp] at h;cases h
   | some p=>
    rw[hp] at h;obtain rfl:=aaj h;refine Hn hs he hop wo (Nq hv hp) λw' q1 q2=>?_;have:=hK undef w' bs S (q1.mask (by show((Hf.set p.1 p.2).set cm .dead).length=_;rw[ab1]) λi x hx=>by
     have hx:((Hf.set p.1 p.2).set cm .dead)[i]?=some x:=hx;by_cases e:cm=i
     ·subst e;rw[abv (by rw[ab1];exact(aad.1 hn).1)] at hx;exact .inl (aaj hx).symm
     ·rw[aaS e] at hx;exact .inr hx) (λ_ h=>h) q2 (iV.refl _) (λ_ _=>rfl) (λe=>by rw[wo] at e;cases e)
    rw[wo] at this;exact this
  ·exact h.elim
 ·rename_i args ts hop;split at h
  ·rename_i s x t t' ha ht;split at h
   ·rename_i e;subst e;obtain⟨q,h1,h2⟩:=T.hit_bind h;obtain rfl:(⟨.one (.own cm),some (.row q.2.1 q.2.2.1 q.2.2.2),apK Hv (ev env s)⟩:Dl)=r:=h2;have ha':args=#[s,x]:=by rw[<-acn (xs:=args),ha]
    have U4:ts=#[t,t]:=by rw[<-acn (xs:=ts),ht]
    rw[ha',U4] at hop;refine Jx hs he hop (RE hv h1) λv w' ci hHl Vi bM gL bX=>?_;have hj:(iH (apK Hv (ev env s)) Hf)[cm]?=some .dead:=by
     exact Vi cm hn
    have jp:=ci.fill (x:=.row q.2.1 q.2.2.1 q.2.2.2) (v:=v) hj hb rfl gL bX;obtain⟨A',n',c',Ld,_⟩:=gL.slice;refine hK v w' (bs.set cm v) S (by rw[gV];exact jp) (λ_ h=>h) bM (λi u hu qZ=>?_) (λj hj=>aaS (acE hj)) λ_=>⟨abv (aad.1 hb).1,A',n',c',Ld⟩;rw[aaS (λe=>by subst e;rw[hb] at hu;obtain rfl:=aaj hu;cases qZ)];exact hu
   ·exact h.elim
  ·exact h.elim
 ·rename_i t x k v hop;split at h
  ·rename_i wo;obtain⟨q,h1,h2⟩:=T.hit_bind h;obtain rfl:(⟨.tup [],q.2,q.1⟩:Dl)=r:=h2;refine OG hs he C.isP hop wo hn hb (Ug hv h1) λw' aZ q1 q2 q3 q4=>?_;have:=hK undef w' aZ S q1 (λ_ h=>h) q2 q3 q4 (λe=>by rw[wo] at e;cases e);rw[wo] at this;exact this
  ·exact h.elim
 ·rename_i t n ps hop;split at h
  ·rename_i l hp;obtain⟨q,h1,h2⟩:=T.hit_bind h;obtain rfl:(⟨q.1,q.2,kP (vg l)⟩:Dl)=r:=h2;obtain⟨S',k1,k2,k3⟩:=AB (vg l) hs;have um:(iH (kP (vg l)) Hf)[cm]?=some .dead:=by
    rw[kK hn];rcases o4 (o:=cm) (vg l) with e|e
    ·rw[e];rfl
    ·rw[e];rfl
   have F1:=MV hv k1 k3 (kM he hp) KE;refine Vs k2 um hb (HJ k2 F1 hop (T.hit_op h1)) λv w' aZ S'' q1 q2 q3 q4 q5 q6=>?_;exact hK v w' aZ S'' (by rw[gV];exact q1) (λb h=>q2 b (k1 b h)) (q3.sub k1) q4 q5 q6
  ·exact h.elim
 ·rename_i f args ts hop;split at h
  ·rename_i P1;obtain⟨q,h1,h2⟩:=T.hit_bind h;obtain rfl:(⟨q.1,none,q.2⟩:Dl)=r:=h2;refine C.dok m o cx bs S env Hv Hf a w q K Q P1 hv hs he h1 λv w' S' q1 q2 q3 q4=>?_;refine hK v w' bs S' ?_ q2 q3 (iV.refl _) (λ_ _=>rfl) λ_=>q4;refine q1.mask (by rw[fU,fU]) λi x hx=>?_;rw[gV] at hx;have hx:((iH q.2 Hf).set cm .dead)[i]?=some x:=hx;by_cases e:cm=i
   ·subst e;rw[abv (by rw[fU];exact(aad.1 hn).1)] at hx;exact .inl (aaj hx).symm
   ·rw[aaS e] at hx;exact .inr hx
  ·split at h
   ·rename_i xs hx;split at h
    ·obtain⟨q,h1,h2⟩:=T.hit_bind h;obtain rfl:(⟨q,none,kP (yb xs)⟩:Dl)=r:=h2;obtain⟨S',k1,k2,k3⟩:=AB (yb xs) hs;have um:(iH (kP (yb xs)) Hf)[cm]?=some .dead:=by
      rw[kK hn];rcases o4 (o:=cm) (yb xs) with e|e
      ·rw[e];rfl
      ·rw[e];rfl
     have Dj:=JS hv k1 k3 (je he hx) KD;have hd:HS cx bs w S' (Hv.map λ_=>ah.dead):=k2.mask (by rw[acf,fU];exact hv.1) λi x hx=>by
      rw[acG] at hx;cases e:Hv[i]? with
      | none=>rw[e] at hx;cases hx
      | some y=>rw[e] at hx;exact .inl (aaj hx).symm
     refine Vs k2 um hb (vf (cap:=#[]) hd (λys hy=>by obtain rfl:=aaj hy;rw[Array.toList_empty,acx];exact Dj) rfl hop h1) λv w' aZ S'' q1 q2 q3 q4 q5 q6=>?_;exact hK v w' aZ S'' (by rw[gV];exact q1) (λb h=>q2 b (k1 b h)) (q3.sub k1) q4 q5 q6
    ·obtain⟨q,h1,h2⟩:=T.hit_bind h;obtain rfl:(⟨q.1,q.2,[]⟩:Dl)=r:=h2;exact Vs hs hn hb (AR C.isP (hv.hide hs) he h1) hK
   ·exact h.elim
 ·split at h
  ·rename_i P1;obtain⟨q,h1,h2⟩:=T.hit_bind h;obtain rfl:(⟨q.1,none,q.2⟩:Dl)=r:=h2;refine C.dok m o cx bs S env Hv Hf a w q K Q P1 hv hs he h1 λv w' S' q1 q2 q3 q4=>?_;refine hK v w' bs S' ?_ q2 q3 (iV.refl _) (λ_ _=>rfl) λ_=>q4;refine q1.mask (by rw[fU,fU]) λi x hx=>?_;rw[gV] at hx;have hx:((iH q.2 Hf).set cm .dead)[i]?=some x:=hx;by_cases e:cm=i
   ·subst e;rw[abv (by rw[fU];exact(aad.1 hn).1)] at hx;exact .inl (aaj hx).symm
   ·rw[aaS e] at hx;exact .inr hx
  ·obtain⟨q,h1,h2⟩:=T.hit_bind h;obtain rfl:(⟨q.1,q.2,[]⟩:Dl)=r:=h2;exact Vs hs hn hb (AR C.isP (hv.hide hs) he h1) hK
theorem Qy {N0 o:Nat} {rs:List Dl} {d:Nat->Bool} {x0:ah} {i:Nat}:∀{n:Nat},i<=n->(∀j,i<=j->j<n->d j=false)->fD N0 rs d x0 o n=fD N0 rs d x0 o i
 | 0,h,_=>by
  obtain rfl:i=0:=by omega
  rfl
 | n+1,h,hd=>by
  by_cases e:i=n+1
  ·rw[e]
  ·rw[kd,hd n (by omega) (by omega),Qy (n:=n) (by omega) λj h1 h2=>hd j h1 (by omega)];simp
theorem XF {N0 o:Nat} {rs rs':List Dl} {d:Nat->Bool} {x0:ah}:∀{n:Nat},(∀j,j<n->rs[j]?=rs'[j]?)->fD N0 rs d x0 o n=fD N0 rs' d x0 o n
 | 0,_=>rfl
 | n+1,h=>by
  rw[kd,kd,XF (n:=n) λj hj=>h j (by omega)];have:nc N0 rs n o=nc N0 rs' n o:=by unfold nc;rw[h n (by omega)]
  rw[this]
theorem AX {N0 o:Nat} {rs:List Dl} {x0:ah}:∀{n:Nat},fD N0 rs (λ_=>false) x0 o n=x0
 | 0=>rfl
 | n+1=>by rw[kd,AX (n:=n)];simp
def ko (rs:List Dl):Rs:=rs.map λr=>some (r.x,r.nw)
def iM (H0:List ah) (n:Nat) (rs:List Dl) (d:Nat->Bool):List ah:=(List.range (H0.length+n)).map λo=>fD H0.length rs d (H0.getD o .dead) o n
def B6 (H0:List ah) (n:Nat) (rs:List Dl) (xT hid:Nat->Bool):List ah:=(List.range (H0.length+n)).map λo=>if hid o then .dead else fD H0.length rs xT (H0.getD o .dead) o rs.length
def Lk (N0:Nat) (ms gs:List Nat) (i o:Nat):Bool:=(decide (N0<=o)&&!(selB ms i (o-N0)))||(List.range gs.length).any λj=>j !=i&&!(selB ms i j)&&!(selB ms j i)&&(gs.getD j 0).testBit o
def gsB (N0 n:Nat) (ms gs:List Nat):Bool:=gs.length==n&&(List.range n).all λi=>(List.range (N0+n)).all λo=>!((gs.getD i 0).testBit o)||((decide (o<N0)||selB ms i (o-N0))&&(List.range i).all λj=>selB ms i j||!((gs.getD j 0).testBit o))
def chB (gs:List Nat) (i k:Nat) (r:Dl):Bool:=r.ch.all λp=>decide (p.1<k)&&(gs.getD i 0).testBit p.1
def skD:Dl:=⟨.tup [],none,[]⟩
def bD (b:Bool):Dl:=⟨.one (.val (.bool b)),none,[]⟩
def oH {P:Program} (C:eP P) (ops:Array Oper) (n:Nat) (ms gs:List Nat) (chk:Bool) (dd:Env) (H0:List ah):List Oper->List Dl->T (List Dl)
 | [],rs=>.lf rs
 | o::l,rs=>match Sy ops rs.length o (ko rs) with
  | some false=>oH C ops n ms gs chk dd H0 l (rs++[skD])
  | some true=>(dop C (H0.length+rs.length) (kW ops (UO ops n ms rs.length) dd (selB ms rs.length) (ko rs)) (B6 H0 n rs (selB ms rs.length) (Lk H0.length ms gs rs.length)) o).bind λr=>
   if !chk||chB gs rs.length (H0.length+n) r then(match ae8 ops rs.length,r with
    | true,⟨.one (.sym (.bool b)),none,[]⟩=>.br b (oH C ops n ms gs chk dd H0 l (rs++[bD true])) (oH C ops n ms gs chk dd H0 l (rs++[bD false]))
    | _,r=>oH C ops n ms gs chk dd H0 l (rs++[r])) else .bad
  | none=>.bad
def T.lvs {α:Type}:T α->List α
 | .lf a=>[a]
 | .br _ x y=>x.lvs++y.lvs
 | .nd _ t=>t.lvs
 | .bad=>[]
def aeK (r:Dl):Nat:=r.ch.foldl (λs p=>s||| 2^p.1) 0
def agk (n:Nat) (l:List (List Dl)):List Nat:=(List.range n).map λi=>l.foldl (λs rs=>s||| (match rs[i]? with
 | some r=>aeK r
 | none=>0)) 0
def wH:List Nat->List Oper->Nat
 | _,[]=>0
 | rd,o::l=>if(match o.dst with|some t=>rd.contains t|none=>false) then 0 else wH (aev o++rd) l+1
def VJ {P:Program} (C:eP P) (m:Nat) (ops:Array Oper) (n:Nat) (st:dA):T dA:=
 if P.follows .mixedOrders&&lU (n+(ops.size-n)) ops&&vT ops n (n+(ops.size-n))&&yY ops n m then
  (λ(l:List Oper) (ms:List Nat)=>(λ(gs:List Nat)=>if gsB st.heap.length n ms gs then(oH C ops n ms gs true st.env st.heap l []).bind λrs=>
   Fo C m ops (ops.toList.drop n) ⟨kW ops (rG ops n) st.env (λ_=>true) (ko rs),iM st.heap n rs (λ_=>true)⟩ else .bad) (agk n (oH C ops n ms [] false st.env st.heap l []).lvs)) (ops.toList.take n) (vE (ops.toList.take n) [])
 else .bad
section
variable {P:Program} {ops:Array Oper} {Q:Exit->Act->World->Prop} {C:eP P} {n m:Nat} {cx:Cx} {ms gs:List Nat} {dd:Env} {H0:List ah}
def qW (C:eP P) (ops:Array Oper) (n:Nat) (ms gs:List Nat) (dd:Env) (H0:List ah) (rs:List Dl) (i:Nat):Prop:=
 ∃o r,ops[i]?=some o/\rs[i]?=some r/\((Sy ops i o (ko (rs.take i))=some false/\r=skD)\/
  (Sy ops i o (ko (rs.take i))=some true/\∃r0,(dop C (H0.length+i) (kW ops (UO ops n ms i) dd (selB ms i) (ko (rs.take i))) (B6 H0 n (rs.take i) (selB ms i) (Lk H0.length ms gs i)) o).hit r0/\chB gs i (H0.length+n) r0=true/\(r=r0\/∃b,r0=⟨.one (.sym (.bool b)),none,[]⟩/\r=bD b)))
theorem qW.more {rs:List Dl} {i:Nat} (h:qW C ops n ms gs dd H0 rs i) (hi:i<rs.length) (x:Dl):qW C ops n ms gs dd H0 (rs++[x]) i:=by
 unfold qW at h ⊢;rw[acy (by omega),aay hi];exact h
theorem Dn:∀(l:List Oper) (rs rs':List Dl),(oH C ops n ms gs true dd H0 l rs).hit rs'->(∀(k:Nat) (o:Oper),l[k]?=some o->ops[rs.length+k]?=some o)->(∀i,i<rs.length->qW C ops n ms gs dd H0 rs i)->rs'.length=rs.length+l.length/\∀i,i<rs'.length->qW C ops n ms gs dd H0 rs' i
 | [],rs,rs',h,_,hs=>by have h:rs=rs':=h;subst h;exact⟨rfl,hs⟩
 | o::l,rs,rs',h,hl,hs=>by
  have ho:=hl 0 o rfl;rw[adq] at ho;have next:∀(x:Dl),(oH C ops n ms gs true dd H0 l (rs++[x])).hit rs'->qW C ops n ms gs dd H0 (rs++[x]) rs.length->rs'.length=rs.length+(o::l).length/\∀i,i<rs'.length->qW C ops n ms gs dd H0 rs' i:=by
   intro x h hx;obtain⟨q1,q2⟩:=Dn l (rs++[x]) rs' h (λk o' hk=>by
    rw[aaM,aaJ,ab9,acv,adT (0+1)];exact hl (k+1) o' (by simpa using hk)) λi hi=>by
     rw[aaM,aaJ,ab9] at hi;by_cases e:i=rs.length
     ·rw[e];exact hx
     ·exact(hs i (by omega)).more (by omega) x
   refine⟨?_,q2⟩;rw[q1,aaM,aaJ,ab9,aaJ];omega
  have rX:∀x,(rs++[x]).take rs.length=rs:=λx=>by rw[acy (aaG _),List.take_length]
  have gn:∀x,(rs++[x])[rs.length]?=some x:=λx=>by rw[aar (aaG _)];simp
  unfold oH at h;split at h
  ·rename_i hg;exact next _ h ⟨o,_,ho,gn _,.inl ⟨by rw[rX];exact hg,rfl⟩⟩
  ·rename_i hg;obtain⟨r0,h1,h2⟩:=T.hit_bind h;simp only[Bool.not_true,acY] at h2;split at h2
   ·rename_i hch;split at h2
    ·rename_i b sa;cases b with
     | true=>exact next _ (h2.1 rfl) ⟨o,_,ho,gn _,.inr ⟨by rw[rX];exact hg,_,by rw[rX];exact h1,hch,.inr ⟨true,rfl,rfl⟩⟩⟩
     | false=>exact next _ (h2.2 rfl) ⟨o,_,ho,gn _,.inr ⟨by rw[rX];exact hg,_,by rw[rX];exact h1,hch,.inr ⟨false,rfl,rfl⟩⟩⟩
    ·exact next _ h2 ⟨o,_,ho,gn _,.inr ⟨by rw[rX];exact hg,_,by rw[rX];exact h1,hch,.inl rfl⟩⟩
   ·exact h2.elim
  ·exact h.elim
theorem kR {rs:List Dl} {d:Nat->Bool}:(iM H0 n rs d).length=H0.length+n:=by simp[iM]
theorem kS {rs:List Dl} {d:Nat->Bool} {o:Nat} (ho:o<H0.length+n):(iM H0 n rs d)[o]?=some (fD H0.length rs d (H0.getD o .dead) o n):=by
 unfold iM;rw[acG,ada ho];rfl
theorem NO {rs:List Dl} {j:Nat} {r:Dl} (h:rs[j]?=some r):(ko rs)[j]?=some (some (r.x,r.nw)):=by
 unfold ko;rw[acG,h];rfl
theorem Ki {rs:List Dl} {i:Nat}:ko (rs.take i)=(ko rs).take i:=by unfold ko;rw[List.map_take]
theorem kL {rs:List Dl}:(ko rs).length=rs.length:=by unfold ko;rw[acf]
def DJ (m:Nat) (cx:Cx) (ops:Array Oper) (n:Nat) (dd:Env) (H0:List ah) (rs:List Dl) (d:Nat->Bool) (a:Act) (w:World):Prop:=
 ∃bs S,HS cx bs w S (iM H0 n rs d)/\(∀j,j<n->d j=false->bs[H0.length+j]?=some undef)/\ER m bs w S (kW ops (K1 ops n d) dd d (ko rs)) a
theorem DJ.step {rs:List Dl} (bJ:rs.length=n) (_:n<=ops.size) (eu:∀i,i<n->qW C ops n ms gs dd H0 rs i) (hgs:gsB H0.length n ms gs=true) (AJ:Ep ops ms) (Sq:ms.length=n) (kT:yY ops n m=true) (tu:∀(i j:Nat),waits ops i j=true->j<i) {Q':Exit->Act->World->Prop} {d:Nat->Bool} {a:Act} {w:World} {i:Nat} (hi:i<n) (h:DJ m cx ops n dd H0 rs d a w) (oo:d i=false) (tS:∀j,n<=j->d j=false) (hc:∀k q,d k=true->waits ops k q=true->d q=true) (hw:∀q,waits ops i q=true->d q=true) : wpOp P ops Q' i (DJ m cx ops n dd H0 rs (jI d i)) a w:=by
 obtain⟨bs,S,hs,hu,he⟩:=h;obtain⟨o,r,ho,hr,Qc⟩:=eu i hi;have AP:bs.length=H0.length+n:=by rw[hs.len,kR]
 have wn:∀t,cX ops i=some t->t<m:=λt ht=>(lK kT hi ht).1;have Xn:o.dst=cX ops i:=by unfold cX;rw[ho];rfl
 have WR:∀{j k:Nat},j<n->selB ms j k=true->(∀q,waits ops j q=true->d q=true)->k<j/\d k=true:=by
  intro j k hj hk Si;unfold selB at hk;rw[aav,decide_eq_true_eq] at hk;refine⟨hk.1,?_⟩;have him:j<ms.length:=by rw[Sq];exact hj
  have tR:=hk.2;rw[aal,aac him] at tR;exact AJ j _ (aac him) k tR d hc Si
 have FY:∀j,selB ms i j=true->j<i/\d j=true:=λj hj=>WR hi hj hw;have I5:∀j,d j=true->j<n:=λj hj=>by
  rcases Nat.lt_or_ge j n with h|h
  ·exact h
  ·rw[tS j h] at hj;cases hj
 have aah:∀j,d j=true->selB ms j i=false:=λj hj=>by
  cases e:selB ms j i with
  | false=>rfl
  | true=>rw[(WR (I5 j hj) e λq=>hc j q hj).2] at oo;cases oo
 have aau:=hgs;unfold gsB at aau;rw[aav,beq_iff_eq] at aau;obtain⟨hgl,hga⟩:=aau;have Vq:∀{j o:Nat},j<n->o<H0.length+n->(gs.getD j 0).testBit o=true->(o<H0.length\/selB ms j (o-H0.length)=true)/\∀k,k<j->selB ms j k=true\/(gs.getD k 0).testBit o=false:=by
  intro j o hj ho hb;have:=abc.1 (abc.1 hga j (abU.2 hj)) o (abU.2 ho);rw[hb] at this;simp only[Bool.not_true,acY,aav,acK,decide_eq_true_eq] at this;refine⟨this.1,λk hk=>?_⟩;have:=abc.1 this.2 k (abU.2 hk);simpa using this
 have hch:∀{j o:Nat} {q:Dl} {x:ah},j<n->rs[j]?=some q->eM q.ch o=some x->o<H0.length+n/\(gs.getD j 0).testBit o=true:=by
  intro j o q x hj hq hx;obtain⟨p,hp,rfl⟩:=yx hx;obtain⟨o',r',_,jo,Qe⟩:=eu j hj;rw[hq] at jo;obtain rfl:=aaj jo;rcases Qe with⟨_,rfl⟩|⟨_,r0,_,hcb,rfl|⟨b,rfl,rfl⟩⟩
  ·cases hp
  ·have:=abc.1 hcb p hp;simpa using this
  ·cases hp
 have Dh:∀{j o:Nat} {x:ah},j<n->nc H0.length rs j o=some x->o=H0.length+j\/(o<H0.length+n/\(gs.getD j 0).testBit o=true):=by
  intro j o x hj hx;unfold nc at hx;cases hq:rs[j]? with
  | none=>rw[hq] at hx;cases hx
  | some q=>
   rw[hq] at hx;simp only at hx;split at hx
   ·rename_i e;exact .inl e
   ·exact .inr (hch hj hq hx)
 have rY:∀(v:Value) t,cX ops i≠some t->(a.put o.dst v).tmps[t]?=a.tmps[t]?:=by
  intro v t hx;rw[Xn];cases e:cX ops i with
  | none=>rfl
  | some q=>
   have fR:q≠t:=λe2=>hx (by rw[e,e2]);show(a.tmps.setIfInBounds q v)[t]?=_;rw[ac7 fR]
 have qp:∀v:Value,(a.put o.dst v).tmps.size=m/\(a.put o.dst v).defers=[]:=by
  intro v;cases o.dst with
  | none=>exact⟨he.s,he.d⟩
  | some q=>exact⟨by show(a.tmps.setIfInBounds q v).size=m;rw[Array.size_setIfInBounds];exact he.s,he.d⟩
 have wt:∀t x,(t,x)∈kW ops (K1 ops n (jI d i)) dd (jI d i) (ko rs)->((t,x)∈kW ops (K1 ops n d) dd d (ko rs)/\cX ops i≠some t)\/(cX ops i=some t/\r.x=x):=by
  intro t x hx;rcases jc hx with⟨j,q,hj,fo,ht,hq,hqx⟩|⟨h1,hn⟩
  ·by_cases e:j=i
   ·subst e;rw[NO hr] at hq;obtain rfl:=aaj (aaj hq);exact .inr ⟨ht,hqx⟩
   ·rw[bC d e] at fo;subst hqx;exact .inl ⟨iX hj fo ht hq,λe2=>Je kT hi (by rw[kL] at hj;omega) (λe3=>e e3.symm) t e2 ht⟩
  ·obtain⟨k1,k2⟩:=IP hi hn oo;exact .inl ⟨kV h1 k1,k2⟩
 have Dd:∀j,j<i->(ko (rs.take i))[j]?=(ko rs)[j]?:=λj hj=>by rw[Ki,acB,if_pos hj]
 have wj:∀{c:Bool},Sy ops i o (ko (rs.take i))=some c->Region.wanted o (yielded ops a.tmps)=c:=by
  intro c hg;unfold Sy at hg;split at hg
  ·rename_i sa;injection hg with hg
   subst hg;simp[Region.wanted,sa]
  ·rename_i j want sa;split at hg
   ·rename_i Si;have PT:=tu i j Si;rw[Dd j PT] at hg;split at hg
    ·rename_i t b _ ht hr;injection hg with hg
     subst hg;obtain⟨v,hv,hx⟩:=he.k t _ (iX (by rw[kL];omega) (hw j Si) ht hr);obtain⟨rfl,_⟩:=hx;exact nG sa ht hv
    ·rename_i t _ ht hr;injection hg with hg
     subst hg;obtain⟨v,hv,vs,e1,e2⟩:=he.k t _ (iX (by rw[kL];omega) (hw j Si) ht hr);cases e2
     exact rj sa ht (by rw[hv,e1];rfl)
    ·cases hg
   ·cases hg
 have afE:(iM H0 n rs d)[H0.length+i]?=some .dead:=by
  rw[kS (by omega)];have:fD H0.length rs d (H0.getD (H0.length+i) .dead) (H0.length+i) n=fD H0.length rs (λ_=>false) (H0.getD (H0.length+i) .dead) (H0.length+i) n:=by
   refine m7 λj hj=>?_;cases pc:d j with
   | false=>exact .inl rfl
   | true=>
    right
    cases hx:nc H0.length rs j (H0.length+i) with
    | none=>rfl
    | some x=>
     rcases Dh hj hx with e|⟨_,e⟩
     ·have:i=j:=by omega
      subst this;rw[oo] at pc;cases pc
     ·rcases(Vq hj (by omega) e).1 with q|q
      ·omega
      ·rw[abB,aah j pc] at q;cases q
  rw[this,AX,aal,abC (by omega)];rfl
 have Xt:∀q:Dl,q.ch=r.ch->q.nw=r.nw->iH (q.ch++[(H0.length+i,q.nw.getD .dead)]) (iM H0 n rs d)=iM H0 n rs (jI d i):=by
  intro q e1 e2;rw[e1,e2];refine acQ λk=>?_;by_cases hk:k<H0.length+n
  ·rw[kK (kS hk),kS hk,vR];congr 1
   have hci:nc H0.length rs i k=if H0.length+i=k then some (r.nw.getD .dead) else eM r.ch k:=by
    unfold nc;rw[hr];by_cases e:H0.length+i=k
    ·subst e;simp
    ·rw[if_neg e];simp only;rw[if_neg (acE e)]
   rw[<-hci];refine(Qx oo hi λj hj1 tR pc=>?_).symm;cases hx:nc H0.length rs j k with
   | none=>exact .inl rfl
   | some x=>
    right
    cases hy:nc H0.length rs i k with
    | none=>rfl
    | some y=>
     exfalso
     have hns:=aah j pc;rcases Dh tR hx with e|⟨_,e⟩
     ·rcases Dh hi hy with e'|⟨_,e'⟩
      ·omega
      ·rcases(Vq hi hk e').1 with q|q
       ·omega
       ·rw[e,abB] at q;have:=(FY j q).1;omega
     ·rcases Dh hi hy with e'|⟨_,e'⟩
      ·rcases(Vq tR hk e).1 with q|q
       ·omega
       ·rw[e',abB,hns] at q;cases q
      ·rcases(Vq tR hk e).2 i hj1 with q|q
       ·rw[hns] at q;cases q
       ·rw[e'] at q;cases q
  ·rw[abC (by rw[fU,kR];omega),abC (by rw[kR];omega)]
 rcases Qc with⟨hg,rfl⟩|⟨hg,r0,al3,hcb,U7⟩
 ·
  have Dc:=wj hg;unfold wpOp;rw[ho];simp only[Dc,acC,if_false];have hh:=Xt skD rfl rfl;have hh:(iM H0 n rs d).set (H0.length+i) .dead=iM H0 n rs (jI d i):=hh;rw[BW λx hx=>by rw[afE] at hx;exact(aaj hx).symm] at hh;refine⟨bs,S,hh▸hs,λj hj pc=>hu j hj ?_,(qp undef).2,(qp undef).1,λt x hx=>?_⟩
  ·by_cases e:j=i
   ·subst e;exact oo
   ·rw[bC d e] at pc;exact pc
  ·rcases wt t x hx with⟨hx,fR⟩|⟨ht,rfl⟩
   ·obtain⟨v,q1,q2⟩:=he.k t x hx;exact⟨v,(rY undef t fR).trans q1,q2⟩
   ·refine⟨undef,?_,[],rfl,.nil⟩;rw[Xn,ht];show(a.tmps.setIfInBounds t undef)[t]?=_;exact acm (by rw[he.s];exact wn t ht)
 ·have Dc:=wj hg;have hrc:r0.ch=r.ch/\r0.nw=r.nw:=by
   rcases U7 with rfl|⟨b,rfl,rfl⟩<;>exact⟨rfl,rfl⟩
  have akV:xb (B6 H0 n (rs.take i) (selB ms i) (Lk H0.length ms gs i)) (iM H0 n rs d):=by
   refine⟨by rw[kR];simp[B6],λk x hx=>?_⟩;unfold B6 at hx;rw[acG] at hx;by_cases hk:k<H0.length+n
   ·rw[ada hk] at hx;have hx:(if Lk H0.length ms gs i k then ah.dead else fD H0.length (rs.take i) (selB ms i) (H0.getD k .dead) k (rs.take i).length)=x:=aaj hx;cases hh:Lk H0.length ms gs i k with
    | true=>rw[hh] at hx;exact .inl (by simpa using hx.symm)
    | false=>
     right
     rw[hh] at hx;have hx:fD H0.length (rs.take i) (selB ms i) (H0.getD k .dead) k (rs.take i).length=x:=by simpa using hx
     rw[kS hk,<-hx];congr 1
     rw[abD,ac8 (by omega),XF (rs:=rs.take i) (rs':=rs) (n:=i) λj hj=>by rw[acB,if_pos hj]];rw[<-Qy (d:=selB ms i) (i:=i) (n:=n) (by omega) λj h1 h2=>by
      cases e:selB ms i j with
      | false=>rfl
      | true=>have:=(FY j e).1;omega]
     refine m7 λj hj=>?_;cases pc:d j with
     | false=>
      left
      cases e:selB ms i j with
      | false=>rfl
      | true=>have:=(FY j e).2;rw[pc] at this;cases this
     | true=>
      cases e:selB ms i j with
      | true=>exact .inl rfl
      | false=>
       right
       have xl:j≠i:=λe=>by subst e;rw[oo] at pc;cases pc
       unfold Lk at hh;rw[Bool.or_eq_false_iff] at hh;cases hx:nc H0.length rs j k with
       | none=>rfl
       | some y=>
        exfalso
        rcases Dh hj hx with e2|⟨_,e2⟩
        ·have h1:=hh.1;rw[e2,abB,e] at h1;simp at h1
        ·have:=List.any_eq_false.1 hh.2 j (abU.2 (by omega));rw[e,aah j pc,e2] at this;simp[xl] at this
   ·rw[abC (by simpa using hk)] at hx;cases hx
  have hem:ER m bs w S (kW ops (UO ops n ms i) dd (selB ms i) (ko (rs.take i))) a:=by
   refine⟨he.d,he.s,λt x hx=>?_⟩;rcases jc hx with⟨j,q,hj,fo,ht,hq,rfl⟩|⟨h1,hn⟩
   ·obtain⟨q1,q2⟩:=FY j fo;rw[Dd j q1] at hq;exact he.k t _ (iX (by rw[kL];omega) q2 ht hq)
   ·exact he.k t x (kV h1 (Xf AJ Sq oo hc hn))
  refine uA ho Dc (abh akV hs hem afE (hu i hi oo) al3 λv w' aZ S' fo hS bM wu hsame hx=>?_);rw[Xt r0 hrc.1 hrc.2] at fo;refine⟨aZ,S',fo,λj hj pc=>?_,(qp v).2,(qp v).1,λt x hxe=>?_⟩
  ·by_cases e:j=i
   ·subst e;rw[gh] at pc;cases pc
   ·rw[bC d e] at pc;rw[hsame _ (by omega)];exact hu j hj pc
  ·rcases wt t x hxe with⟨hxe,fR⟩|⟨ht,rfl⟩
   ·obtain⟨z,q1,q2⟩:=he.k t x hxe;exact⟨z,(rY v t fR).trans q1,q2.keep hS bM wu⟩
   ·refine⟨v,?_,?_⟩
    ·rw[Xn,ht];show(a.tmps.setIfInBounds t v)[t]?=_;exact acm (by rw[he.s];exact wn t ht)
    ·have iF:=hx (by rw[Xn,ht];rfl);rcases U7 with rfl|⟨b,rfl,rfl⟩
     ·exact iF
     ·exact iF
theorem QN {id:Nat} {st cV:dA} {a:Act} {w:World} {n:Nat} (h:(VJ C m ops n st).hit cV) (bT:fc m cx st a w) (hQ:∀a' w',fc m cx cV a' w'->Q .normal a' w'):(Code.region id ops true).wp P Q a w:=by
 unfold VJ at h;split at h
 ·rename_i hc;simp only[aav] at hc;obtain⟨⟨⟨hm,hb⟩,mb⟩,kT⟩:=hc;simp only at h;generalize agk n (oH C ops n (vE (ops.toList.take n) []) [] false st.env st.heap (ops.toList.take n) []).lvs=gs at h;split at h
  ·rename_i hgs;obtain⟨rs,h1,h2⟩:=T.hit_bind h;have jb:=fi hb;have F3:n<=ops.size:=by omega
   have Le:(ops.toList.take n).length=n:=by rw[abD,abK];omega
   have gn:∀(k:Nat) (o:Oper),(ops.toList.take n)[k]?=some o->ops[k]?=some o:=λk o hk=>by
    rw[acB] at hk;split at hk
    ·simpa using hk
    ·cases hk
   obtain⟨q1,q2⟩:=Dn _ [] rs h1 (λk o hk=>by rw[ab9,acg];exact gn k o hk) λi hi=>absurd hi (Nat.not_lt_zero _);rw[ab9,acg,Le] at q1;have AJ:Ep ops (vE (ops.toList.take n) []):=Ak _ [] (λi s hs=>by cases hs) λk o hk=>by rw[ab9,acg];exact gn k o hk
   have Sq:∀(l:List Oper) (cY:List Nat),(vE l cY).length=cY.length+l.length:=by
    intro l;induction l with
    | nil=>intro cY;rfl
    | cons o l ih=>intro cY;show(vE l _).length=_;rw[ih,aaM,aaJ,ab9,aaJ];omega
   have tu:∀(i j:Nat),waits ops i j=true->j<i:=by
    intro i j hw;unfold waits at hw;cases ho:ops[i]? with
    | none=>rw[ho] at hw;cases hw
    | some o=>
     rw[ho] at hw;simp only[acU,acw,Array.any_eq_true',aav,beq_iff_eq] at hw;obtain⟨e,he,hbi,rfl⟩:=hw;exact nk hb ho e he hbi
   refine mE n (ops.size-n) (DJ m cx ops n st.env st.heap rs) hm hb mb ?_ (λQ' d a w i hi hI oo tS hc hw=>DJ.step q1 F3 (λi hi=>q2 i (by omega)) hgs AJ (by rw[Sq,ab9,acg,Le]) kT tu hi hI oo tS hc hw) λd a w hI eQ=>?_
   ·obtain⟨bs,S,hs,he⟩:=bT;have hd:Below w.heap.size w w.drew:=(Below.refl _ _).drew;have hh0:iM st.heap n rs (λ_=>false)=st.heap++List.replicate n .dead:=by
     refine acQ λk=>?_;by_cases hk:k<st.heap.length+n
     ·rw[kS hk,AX];by_cases gM:k<st.heap.length
      ·rw[aay gM,aal,aac gM];rfl
      ·rw[aar (by omega),adc,if_pos (by omega),aal,abC (by omega)];rfl
     ·rw[abC (by rw[kR];omega),abC (by rw[aaM,ado];omega)]
    refine⟨bs++List.replicate n undef,S,by rw[hh0];exact(hs.grow hd (λ_ h=>h) λ_ h=>.inl h).pads n,λj hj _=>?_,he.d,he.s,λt x hx=>?_⟩
    ·rw[<-hs.len,aar (by omega),abB,adc,if_pos hj]
    ·rcases jc hx with⟨j,r,_,h,_⟩|⟨h1,_⟩
     ·cases h
     ·obtain⟨v,k1,k2⟩:=he.k t x h1;exact⟨v,k1,k2.keep (λ_ h=>h) (λ_ _=>rfl) λo u hu _=>by rw[aay (aad.1 hu).1];exact hu⟩
   ·obtain⟨bs,S,hs,_,he⟩:=hI;have ma:fc m cx ⟨kW ops (rG ops n) st.env (λ_=>true) (ko rs),iM st.heap n rs (λ_=>true)⟩ a w:=by
     refine⟨bs,S,?_,he.d,he.s,λt x hx=>he.k t x ?_⟩
     ·have:iM st.heap n rs (λ_=>true)=iM st.heap n rs d:=by
       unfold iM;refine adB λo _=>m7 λj hj=>.inl ?_;rw[eQ j hj]
      show HS cx bs w S (iM st.heap n rs (λ_=>true));rw[this];exact hs
     ·rcases jc hx with⟨j,r,hj,_,ht,hr,rfl⟩|⟨k1,k2⟩
      ·rw[kL] at hj;exact iX (by rw[kL];exact hj) (eQ j (by omega)) ht hr
      ·exact kV k1 (IQ k2)
    have:=uc (C:=C) (Q:=Q) (cx:=cx) (ops.toList.drop n) n rfl h2 ma hQ
    rwa [abw,abK] at this
  ·exact h.elim
 ·exact h.elim
end
def W5 (l:List Oper):Bool:=l.any λo=>match o.op with
 | .build _ ps=>ps.toList.any λp=>match p.2 with
  | .tmp t=>l.any λq=>match q.op with
   | .buildSlice _ _ _=>q.dst==some t
   | _=>false
  | _=>false
 | _=>false
def W4 {P:Program} (C:eP P) (l:List Oper):Bool:=l.any λo=>match o.op with
 | .call { callee:=.value (.func f),args:=args, .. }=>(C.D.find? λs=>s.f==f).any Sm.al&&args.toList.any λx=>match x with
  | .tmp t=>l.any λq=>match q.op with
   | .buildSlice _ _ _=>q.dst==some t
   | .makeSlice _ _ _=>q.dst==some t
   | _=>false
  | _=>false
 | _=>false
def abZ {P:Program} (C:eP P) (m:Nat) (ops:Array Oper) (st:dA):T dA:=
 if !(W5 ops.toList)&&!(W4 C ops.toList)&&vT ops (Dw C [] ops.toList) (Dw C [] ops.toList+(ops.size-Dw C [] ops.toList)) then VI C m ops (Dw C [] ops.toList) st
 else if !(W5 ops.toList)&&!(W4 C ops.toList)&&vT ops (wG C ops.toList) (wG C ops.toList+(ops.size-wG C ops.toList)) then VI C m ops (wG C ops.toList) st
 else if vT ops (wH [] ops.toList) (wH [] ops.toList+(ops.size-wH [] ops.toList)) then VJ C m ops (wH [] ops.toList) st else VJ C m ops ops.size st
def X0 {P:Program} (C:eP P) (m:Nat) (fn:Func) (pb:List Nat) (vw:Bool) (hv:pb=[]\/vw=false):Rg P m where
 fn:=fn
 pb:=pb
 reg id ops dr st:=if dr then abZ C m ops st else Fo C m ops ops.toList st
 ok id ops dr cx st cV a w Q h hs hQ:=by
  cases dr with
  | true=>
   have h:(abZ C m ops st).hit cV:=h;unfold abZ at h;split at h
   ·exact QM h hs hQ
   ·split at h
    ·exact QM h hs hQ
    ·split at h
     ·exact QN h hs hQ
     ·exact QN h hs hQ
  | false=>exact Ko h hs hQ
 res:=YR P C.ty fn vw
 resOk cx st a w r nQ h hs:=TC (hv.imp (λe=>nQ.trans e) id) h hs
theorem T.hit_map {α β:Type} {f:α->β} {t:T α} {r:β} (h:(t.bind λx=>.lf (f x)).hit r):∃q,t.hit q/\f q=r:=T.hit_bind h
def Qq {P:Program} {m:Nat} (R:Rg P m) (tb:List (Nat×List Nat)):Rg P m:={ R with
 reg:=λid ops dr st=>match tb.lookup id with
  | some l=>(R.reg id ops dr st).bind λst=>.lf (l.foldl AS st)
  | none=>R.reg id ops dr st
 ok:=λid ops dr cx st cV a w Q h hs hQ=>by
  revert h
  split
  ·intro h;obtain⟨q,h1,h2⟩:=T.hit_map h;exact R.ok id ops dr cx st q a w Q h1 hs λa' w' h'=>hQ a' w' (h2▸AT h')
  ·intro h;exact R.ok id ops dr cx st cV a w Q h hs hQ }
structure xK where
 f:dA->T dA
 ok:∀(m:Nat) (cx:Cx) (st cV:dA) (a:Act) (w:World),(f st).hit cV->fc m cx st a w->fc m cx cV a w
def rowAt (H:List ah) (q k:Nat):Option Nat:=match H[q]? with
 | some (.cells _ cs)=>match cs[k]? with
  | some (.own o)=>some o
  | _=>none
 | _=>none
section
variable {m:Nat} {cx:Cx} {st:dA} {a:Act} {w:World} {S:Nat->Prop}
theorem TY {α:Type} [aA α] {k B:Nat} {e:TypeId} {v:Value} {xs:List α} (hk:aA.sz α=k) (h:Own w S B e v xs):∃bE:List (jE k),Own w S B e v bE/\bE.length=xs.length/\∀(j:Nat) (r:jE k) (x:α),bE[j]?=some r->xs[j]?=some x->aA.rep w S r.cells x:=by
 subst hk;obtain⟨cs,h1,h2,h3⟩:=h;have:∀{cs:List Value} {xs:List α},Flat w S cs xs->∃bE:List (jE (aA.sz α)),Flat w S cs bE/\bE.length=xs.length/\∀(j:Nat) (r:jE (aA.sz α)) (x:α),bE[j]?=some r->xs[j]?=some x->aA.rep w S r.cells x:=by
  intro cs xs hf;induction hf with
  | nil=>exact⟨[],.nil,rfl,λj r x h=>by cases h⟩
  | @snoc cs ds xs x hf hr ih=>
   obtain⟨bE,q1,q2,q3⟩:=ih;refine⟨bE++[⟨ds,aA.len hr⟩],.snoc q1 rfl,by simp[q2],λj r y hj hy=>?_⟩;by_cases hjl:j<bE.length
   ·rw[aay hjl] at hj;rw[aay (by omega)] at hy;exact q3 j r y hj hy
   ·have tR:j=bE.length:=by have:=(aad.1 hj).1;simp at this;omega
    subst tR;rw[aar (aaG _)] at hj;rw[q2,aar (aaG _)] at hy;simp at hj hy;subst hj hy;exact hr
 obtain⟨bE,q1,q2,q3⟩:=this h2;exact⟨bE,⟨cs,by rw[q2];exact h1,q1,h3⟩,q2,q3⟩
theorem TJ {α:Type} [aA α] {B:Nat} {e:TypeId} {v:Value} {xs:List α} {bE:List (jE (aA.sz α))} (h:Own w S B e v bE) (hl:bE.length=xs.length) (hr:∀(j:Nat) (r:jE (aA.sz α)) (x:α),bE[j]?=some r->xs[j]?=some x->aA.rep w S r.cells x):Own w S B e v xs:=by
 obtain⟨cs,h1,h2,h3⟩:=h;have:∀{cs:List Value} {bE:List (jE (aA.sz α))},Flat w S cs bE->∀xs:List α,bE.length=xs.length->(∀(j:Nat) (r:jE (aA.sz α)) (x:α),bE[j]?=some r->xs[j]?=some x->aA.rep w S r.cells x)->Flat w S cs xs:=by
  intro cs bE hf;induction hf with
  | nil=>intro xs hl _;rw[aaY hl.symm];exact .nil
  | @snoc cs ds bE r hf hd ih=>
   intro xs hl hr;have fR:xs≠[]:=λe=>by rw[e] at hl;simp at hl
   have Lb:xs=xs.dropLast++[xs.getLast fR]:=(List.dropLast_concat_getLast fR).symm;have bJ:bE.length=xs.dropLast.length:=by rw[List.length_dropLast];simp at hl;omega
   rw[Lb];have hd:ds=r.cells:=hd;refine .snoc (ih _ bJ λj r' x hj hx=>hr j r' x (by rw[aay (aad.1 hj).1];exact hj) (by rw[Lb,aay (aad.1 hx).1];exact hx)) ?_;rw[hd];exact hr bE.length r _ (by rw[aar (aaG _)];simp) (by
    conv=>lhs;rw[Lb]
    rw[bJ,aar (aaG _)];simp)
 exact⟨cs,by rw[<-hl];exact h1,this h2 xs hl hr,h3⟩
theorem HS.alt {bs:List Value} {H:List ah} (h:HS cx bs w S H) {i:Nat} {x y:ah} {v:Value} (hx:H[i]?=some x) (hv:bs[i]?=some v) (kD:OR bs w S y v) (hb:∀c,Bk y v c->Bk x v c:=by intro c h;exact h):HS cx bs w S (H.set i y):=
 h.setB hx hv (row:=none) ⟨rfl,rfl,rfl,aaG _,λ_ _ _=>rfl⟩ (λ_ e=>by cases e) kD hb
def ET (q k:Nat) (t tn:Ty) (st:dA):T dA:=match rowAt st.heap q k with
 | some o=>match st.heap[o]? with
  | some (.row Nc e rs)=>match Ty.eq? Nc tn with
   | some h=>if aA.sz (El tn)=aA.sz (El t) then .lf ⟨st.env,st.heap.set o (.zc e t tn rs.length [] (h.down▸rs.reverse))⟩ else .bad
   | none=>.bad
  | _=>.bad
 | none=>.bad
theorem JP {q k:Nat} {t tn:Ty} {cV:dA} (h:(ET q k t tn st).hit cV) (bT:fc m cx st a w):fc m cx cV a w:=by
 unfold ET at h;split at h
 ·rename_i o _;split at h
  ·rename_i Nc e rs hH;split at h
   ·rename_i hq _;obtain⟨hq⟩:=hq;subst hq;split at h
    ·rename_i jb;obtain rfl:=h;obtain⟨bs,S,hs,he⟩:=bT;have Bw:o<bs.length:=by rw[hs.len];exact(aad.1 hH).1
     have hv:=aac Bw;obtain⟨bE,r1,r2,r3⟩:=TY jb (hs.o o _ _ hH hv);refine⟨bs,S,hs.alt hH hv ⟨bE,r1,by rw[r2,aaP],λj r hj=>⟨λx hx=>(by cases hx),λ_=>?_⟩⟩,he⟩;have hjl:j<rs.reverse.length:=by rw[<-r2];exact(aad.1 hj).1
     have hx:=aac hjl;have hg:rs.reverse.getD (j-([]:List (El t)).length) (BA Nc)=rs.reverse[j]:=by
      rw[ab9,Nat.sub_zero,aal,hx];rfl
     show aA.rep w S r.cells (rs.reverse.getD (j-([]:List (El t)).length) (BA Nc));rw[hg];exact r3 j r _ hj hx
    ·exact h.elim
   ·exact h.elim
  ·exact h.elim
 ·exact h.elim
def aeL (H:List ah) (q k:Nat):Option Nat:=match H[q]? with
 | some (.cells _ cs)=>match cs[k]? with
  | some (.mp o)=>some o
  | _=>none
 | _=>none
def MG (q k:Nat) (e:TypeId) (st:dA):T dA:=match aeL st.heap q k with
 | some o=>match st.heap[o]? with
  | some (.mp kt (.list t) n f)=>.nd (∀k,f k=none) (.lf ⟨st.env,(st.heap.set o (.mq st.heap.length))++[.mr o kt t e n λ_=>none]⟩)
  | _=>.bad
 | none=>.bad
theorem MF {q k:Nat} {e:TypeId} {cV:dA} (h:(MG q k e st).hit cV) (bT:fc m cx st a w):fc m cx cV a w:=by
 unfold MG at h;split at h
 ·rename_i o _;split at h
  ·rename_i kt t n f hH;obtain⟨hf,h⟩:=h;obtain rfl:=h;obtain⟨bs,S,hs,he⟩:=bT;have Bw:o<st.heap.length:=(aad.1 hH).1;obtain⟨v,hv⟩:∃v,bs[o]?=some v:=⟨_,aac (by rw[hs.len];exact Bw)⟩;obtain⟨b,g,e1,hg,hfg⟩:=hs.o o _ _ hH hv;have hB:Bk (.mp kt (.list t) n f) v b:=by rw[e1];rfl
   have hgn:∀k,g k=none:=λk=>by have:=hfg k;rw[hf k] at this;exact this
   have s1:=hs.alt hH hv (y:=.mq st.heap.length) ⟨b,e1⟩ (λ_ h=>by cases h);have PG:=s1.pad;have hl1:(st.heap.set o (.mq st.heap.length)).length=st.heap.length:=ab1;have hj:((st.heap.set o (.mq st.heap.length))++[ah.dead])[st.heap.length]?=some .dead:=by rw[aar (by rw[hl1];exact aaG _),hl1];simp
   have tR:(bs++[undef])[st.heap.length]?=some undef:=by rw[<-hs.len,aar (aaG _)];simp
   have jp:=PG.fill (x:=.mr o kt t e n λ_=>none) (v:=sx b []) hj tR rfl
    ⟨b,[],g,rfl,by rw[aaS (by omega),aay (by rw[hs.len];exact Bw),hv,e1],hg,λk u=>by rw[hgn k];simp,λk _=>hgn k,(λk k' u u' c q=>by rw[hgn k] at q;cases q),λk u q=>by rw[hgn k] at q;cases q⟩
    (λc hc=>by
     obtain⟨b',l',e2,hc⟩:=hc;obtain⟨rfl,rfl⟩:=lh e2;rcases hc with rfl|⟨_,_,_,hu,_⟩
     ·refine⟨(hs.nw _ _ _ _ hH hv hB).1,(hs.nw _ _ _ _ hH hv hB).2,λi y u hy hu hc1=>?_⟩;by_cases hi:i<st.heap.length
      ·rw[aay (by rw[hl1];exact hi)] at hy;rw[aay (by rw[hs.len];exact hi)] at hu;by_cases hio:i=o
       ·subst hio;rw[abv Bw] at hy;obtain rfl:=aaj hy;cases hc1
       ·rw[aaS (acE hio)] at hy;exact hs.ap i o _ _ _ _ _ hio hy hu hH hv hc1 hB
      ·have hlt:=(aad.1 hy).1;rw[aaM,hl1] at hlt;obtain rfl:i=st.heap.length:=by simp at hlt;omega
       rw[hj] at hy;obtain rfl:=aaj hy;cases hc1
     ·cases hu)
   have e3:((st.heap.set o (.mq st.heap.length))++[ah.dead]).set st.heap.length (.mr o kt t e n λ_=>none)=(st.heap.set o (.mq st.heap.length))++[.mr o kt t e n λ_=>none]:=by
    rw[acH _ _ (by rw[hl1];exact aaG _),hl1];simp
   rw[e3] at jp;refine⟨_,S,jp,he.keep (λ_ h=>h) (aw.refl _ _) λi u hu qZ=>?_⟩;have hi:=(aad.1 hu).1;rw[hs.len] at hi;rw[aaS (by omega),aay (by rw[hs.len];exact hi)];exact hu
  ·exact h.elim
 ·exact h.elim
def MI (q k:Nat) (st:dA):T dA:=match rowAt st.heap q k with
 | some o=>match st.heap[o]? with
  | some (.zc e t tn gO done rest)=>.nd (done.length<gO) (.lf ⟨st.env,(st.heap++[ah.dead]).set o (.zip st.heap.length e t tn gO done (jS tn (rest.getD 0 (BA tn))) (rest.drop 1))⟩)
  | _=>.bad
 | none=>.bad
theorem MH {q k:Nat} {cV:dA} (h:(MI q k st).hit cV) (bT:fc m cx st a w):fc m cx cV a w:=by
 unfold MI at h;split at h
 ·rename_i o _;split at h
  ·rename_i e t tn gO done rest hH;obtain⟨hlt,h⟩:=h;obtain rfl:=h;obtain⟨bs,S,hs,he⟩:=bT;have Bw:o<bs.length:=by rw[hs.len];exact(aad.1 hH).1
   have hv:=aac Bw;obtain⟨bE,ho,hz⟩:=hs.o o _ _ hH hv;obtain⟨g,n,c,hvs⟩:∃g n c,bs[o]=.slice (some ⟨g,0,none⟩) n c:=by
    obtain⟨cs,⟨_,h2⟩,_⟩:=ho;rcases h2 with⟨_,hn⟩|⟨g,cap,cur,j6,_⟩
    ·rw[hz.1] at hn;omega
    ·exact⟨g,_,_,j6⟩
   have PG:=hs.pad;have hj:(st.heap++[ah.dead])[st.heap.length]?=some .dead:=by rw[aar (aaG _)];simp
   have tR:(bs++[undef])[st.heap.length]?=some undef:=by rw[<-hs.len,aar (aaG _)];simp
   have jp:=PG.fill (x:=.dead) (v:=.pointer (some ⟨g,done.length*aA.sz (El t),none⟩)) hj tR rfl trivial (λb hb=>by cases hb);rw[NH hj] at jp;have yG:(bs++[undef]).set st.heap.length (.pointer (some ⟨g,done.length*aA.sz (El t),none⟩))=bs++[.pointer (some ⟨g,done.length*aA.sz (El t),none⟩)]:=by
    rw[<-hs.len,acH _ _ (aaG _)];simp
   rw[yG] at jp;have hH2:(st.heap++[ah.dead])[o]?=some (.zc e t tn gO done rest):=by rw[aay (aad.1 hH).1];exact hH
   have j6:(bs++[.pointer (some ⟨g,done.length*aA.sz (El t),none⟩)])[o]?=some bs[o]:=by rw[aay Bw];exact hv
   have hd:∀k,(rest.drop 1).getD k (BA tn)=rest.getD (k+1) (BA tn):=λk=>by
    rw[aal,aal,acA,adT]
   refine⟨_,S,jp.alt (y:=.zip st.heap.length e t tn gO done (jS tn (rest.getD 0 (BA tn))) (rest.drop 1)) hH2 j6 ⟨bE,ho,⟨hz.1,λj r hr=>?_⟩,hlt,.pointer (some ⟨g,done.length*aA.sz (El t),none⟩),by rw[<-hs.len,aar (aaG _)];simp,rfl,λg' n' c' e=>by rw[hvs] at e;injection e with e;injection e with e;injection e with e;rw[e]⟩,he.keep (λ_ h=>h) (aw.refl _ _) (nl _ _)⟩;obtain⟨z1,z2⟩:=hz.2 j r hr;refine⟨z1,λe=>?_,λlI=>?_⟩
   ·have:=z2 (by omega);rw[show j-done.length=0 by omega] at this;exact ka this
   ·rw[hd,show j-done.length-1+1=j-done.length by omega];exact z2 (by omega)
  ·exact h.elim
 ·exact h.elim
def Za (cs:List AV):List Nat:=cs.filterMap λ
 | .own o=>some o
 | _=>none
def G3 (q k:Nat) (st:dA):T dA:=match rowAt st.heap q k with
 | some o=>match st.heap[o]? with
  | some (.zip _ e t tn gO done cur rest)=>(T.op (un t cur)).bind λy=>.lf ⟨st.env,st.heap.set o (.zc e t tn gO (done++[y]) rest)⟩
  | _=>.bad
 | none=>.bad
def SL (q k:Nat) (st:dA):dA:=match rowAt st.heap q k with
 | some o=>match st.heap[o]? with
  | some (.zip _ _ _ _ _ _ cur _)=>(Za cur).foldl (λst i=>Vy i st) st
  | _=>st
 | none=>st
def ES (q k:Nat) (st:dA):T dA:=G3 q k (SL q k st)
theorem JO {q k:Nat} {cV:dA} (h:(ES q k st).hit cV) (bT:fc m cx st a w):fc m cx cV a w:=by
 have hf:fc m cx (SL q k st) a w:=by
  unfold SL;split
  ·split
   ·rename_i cur _ _;have:∀(l:List Nat) (st:dA),fc m cx st a w->fc m cx (l.foldl (λst i=>Vy i st) st) a w:=by
     intro l;induction l with
     | nil=>intro st h;exact h
     | cons i l ih=>intro st h;exact ih _ (wy h)
    exact this _ _ bT
   ·exact bT
  ·exact bT
 unfold ES at h;generalize SL q k st=st1 at h hf;unfold G3 at h;split at h
 ·rename_i o _;split at h
  ·rename_i o2 e t tn gO done cur rest hH;obtain⟨y,h1,h2⟩:=T.hit_bind h;obtain rfl:=h2;have hy:=T.hit_op h1;obtain⟨bs,S,hs,he⟩:=hf;have Bw:o<bs.length:=by rw[hs.len];exact(aad.1 hH).1
   have hv:=aac Bw;obtain⟨bE,ho,hz,_⟩:=hs.o o _ _ hH hv;refine⟨bs,S,hs.alt hH hv ⟨bE,ho,hz.1,λj r hr=>?_⟩,he⟩;obtain⟨z1,z2,z3⟩:=hz.2 j r hr;refine⟨λx hx=>?_,λhl=>?_⟩
   ·by_cases hj:j<done.length
    ·rw[aay hj] at hx;exact z1 x hx
    ·have tR:j=done.length:=by have:=(aad.1 hx).1;simp at this;omega
     subst tR;rw[aar (aaG _)] at hx;simp at hx;subst hx;exact jJ hy (z2 rfl)
   ·rw[aaM,abA] at hl ⊢;rw[show j-(done.length+1)=j-done.length-1 by omega];exact z3 (by omega)
  ·exact h.elim
 ·exact h.elim
def Yf (q k:Nat) (st:dA):T dA:=match rowAt st.heap q k with
 | some o=>match st.heap[o]? with
  | some (.zc e t _ gO done _)=>.nd (gO=done.length) (.lf ⟨st.env,st.heap.set o (.row t e done.reverse)⟩)
  | _=>.bad
 | none=>.bad
theorem SN {q k:Nat} {cV:dA} (h:(Yf q k st).hit cV) (bT:fc m cx st a w):fc m cx cV a w:=by
 unfold Yf at h;split at h
 ·rename_i o _;split at h
  ·rename_i e t tn gO done rest hH;obtain⟨hlt,h⟩:=h;obtain rfl:=h;obtain⟨bs,S,hs,he⟩:=bT;have Bw:o<bs.length:=by rw[hs.len];exact(aad.1 hH).1
   have hv:=aac Bw;obtain⟨bE,ho,hz⟩:=hs.o o _ _ hH hv;refine⟨bs,S,hs.alt hH hv ?_,he⟩;show Own (α:=El t) w S 0 e _ done.reverse.reverse;rw[aat];exact TJ ho (hz.1.trans hlt) λj r x hr hx=>(hz.2 j r hr).1 x hx
  ·exact h.elim
 ·exact h.elim
end
def agf (q k:Nat) (e:TypeId):xK:=⟨MG q k e,λ_ _ _ _ _ _=>MF⟩
def Qk (q k:Nat) (t tn:Ty):xK:=⟨ET q k t tn,λ_ _ _ _ _ _=>JP⟩
def XC (q k:Nat):xK:=⟨MI q k,λ_ _ _ _ _ _=>MH⟩
def m5 (q k:Nat):xK:=⟨ES q k,λ_ _ _ _ _ _=>JO⟩
def agi (q k:Nat):xK:=⟨Yf q k,λ_ _ _ _ _ _=>SN⟩
def hkT (l:List (Nat×xK)) (id:Nat) (st:dA):T dA:=match l.lookup id with
 | some h=>h.f st
 | none=>.lf st
theorem PR {m:Nat} {cx:Cx} {l:List (Nat×xK)} {id:Nat} {st cV:dA} {a:Act} {w:World} (h:(hkT l id st).hit cV) (bT:fc m cx st a w):fc m cx cV a w:=by
 unfold hkT at h;split at h
 ·exact xK.ok _ m cx st cV a w h bT
 ·obtain rfl:=h;exact bT
def o8 {P:Program} {m:Nat} (R:Rg P m) (pre post:List (Nat×xK)):Rg P m:={ R with
 reg:=λid ops dr st=>(hkT pre id st).bind λst=>(R.reg id ops dr st).bind λst=>hkT post id st
 ok:=λid ops dr cx st cV a w Q h hs hQ=>by
  obtain⟨s1,h1,h2⟩:=T.hit_bind h;obtain⟨s2,h3,h4⟩:=T.hit_bind h2;exact R.ok id ops dr cx s1 s2 a w Q h3 (PR h1 hs) λa' w' h'=>hQ a' w' (PR h4 h') }
end Go.Proofs.YtdbpbfglhbiadaaGreatDoor
