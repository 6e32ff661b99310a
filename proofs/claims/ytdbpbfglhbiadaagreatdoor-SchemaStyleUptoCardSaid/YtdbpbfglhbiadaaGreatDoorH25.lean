/- MOp5 MOp6 MOp7 MOp8 MGop -/
import Derived.Test.YtdbpbfglhbiadaaGreatDoorH00
import Derived.Test.YtdbpbfglhbiadaaGreatDoorH24
import Derived.Laws.StructEq
import Derived.ChangeKeysEq
import Derived.Test.YtdbpbfglhbiadaaGreatDoorH11
set_option maxHeartbeats 4000000
set_option maxRecDepth 100000
namespace Go.Proofs.YtdbpbfglhbiadaaGreatDoor
open Go Go.RowKit
def zB:Option XV->Option (ByteArray×Bool)
 | some (.one (.val (.string s)))=>some (s,true)
 | some (.one (.sym (.string s)))=>some (s,false)
 | _=>none
def chX (x i:Option XV):T XV:=match zB x,mY i with
 | some (s,_),some (_,n,_)=>.nd (0<=n/\n<(s.size:Int)) (.lf (.one (.sym (.int .u8 ((s.data.toList.getD n.toNat 0).toNat:Int)))))
 | _,_=>.bad
def abF (x y:Option XV):T XV:=match zB x,zB y with
 | some (s,c),some (u,d)=>if c&&d then .bad else .nd ((s.size+u.size:Nat)<=9223372036854775807) (.lf (.one (.sym (.string (s++u)))))
 | _,_=>.bad
def Rk (d:Int) (x:Option (Option XV)):Option Int:=match x with
 | none=>some d
 | some i=>(mY i).map (·.2.1)
def slX (P:Program) (t:TypeId) (x:Option XV) (lo hi:Option (Option XV)):T XV:=match zB x,x with
 | some (s,_),_=>if((P.underlying t).map λd=>match d with|.string=>true|_=>false)==some true then match Rk 0 lo,Rk s.size hi with
  | some l,some h=>.nd (0<=l/\l<=h/\h<=(s.size:Int)) (.lf (.one (.sym (.string (s.extract l.toNat h.toNat)))))
  | _,_=>.bad
  else .bad
 | none,some (.one (.list ty xs _))=>if(Ts P t).map (·.2)==some (aA.sz (El ty)) then match Rk 0 lo,Rk xs.length hi with
  | some l,some h=>.nd (0<=l/\l<=h/\h<=(xs.length:Int)) (.lf (.one (.list ty ((xs.take h.toNat).drop l.toNat) false)))
  | _,_=>.bad
  else .bad
 | _,_=>.bad
section
variable {P:Program} {o:Oper} {cx:Cx} {bs:List Value} {w:World} {S:Nat->Prop} {H:List ah} {m:Nat} {env:Env} {a:Act} {cm:Nat}
theorem pH (he:ER m bs w S env a) {x:Operand} {s:ByteArray} {c:Bool} (h:zB (ev env x)=some (s,c)):a.eval x=.string s:=by
 unfold zB at h;split at h
 ·rename_i u e;injection h with h;injection h with h1 h2
  subst h1;exact(bW he e).1
 ·rename_i u e;injection h with h;injection h with h1 h2
  subst h1;exact(bW he e).1
 ·cases h
theorem abE (he:ER m bs w S env a) {t:TypeId} {x i:Operand} (hop:o.op=.index t x i) (hu:P.underlying t=some .string) {y:XV} (h:(chX (ev env x) (ev env i)).hit y):iN P o bs w S a cm (y,none):=by
 unfold chX at h;split at h
 ·rename_i s c k n c2 hx hi;obtain⟨⟨h0,h1⟩,h⟩:=h;have h:XV.one _=y:=h;subst h;have hx':=pH he hx;have I3:=iw he hi;have hlt:n.toNat<s.size:=by omega
  have gn:s[n.toNat]?=some (s.data.toList.getD n.toNat 0):=by
   rw[getElem?_pos s n.toNat hlt,aal];have:n.toNat<s.data.toList.length:=by simpa using hlt
   rw[aac this];rfl
  refine hJ (v:=.int .u8 ((s.data.toList.getD n.toNat 0).toNat:Int)) ?_ ⟨rfl,rfl⟩;unfold execOp;simp only[hop,hx',I3,Instr.index,asIntOf,Sem.run_bind,Sem.run_pure,Result.andThen_ok,run_underlying hu w,h0,if_true,gn]
 ·exact h.elim
theorem V5 (he:ER m bs w S env a) {t u:TypeId} {x y:Operand} (hop:o.op=.binOp .add t x y u) {z:XV} (h:(abF (ev env x) (ev env y)).hit z):iN P o bs w S a cm (z,none):=by
 unfold abF at h;split at h
 ·rename_i s c v d hx hy;split at h
  ·exact h.elim
  ·obtain⟨h1,h⟩:=h;have h:XV.one _=z:=h;subst h;refine hJ (v:=.string (s++v)) ?_ ⟨rfl,rfl⟩;have hx':=pH he hx;have Mr:=pH he hy;have hm:¬((s.size+v.size:Nat):Int)>IntKind.i64.max:=by
    have:IntKind.i64.max=9223372036854775807:=by decide
    omega
   unfold execOp;simp only[hop,hx',Mr,eqGuard,binOp,Op.stringOp,hm,Sem.run_bind,Sem.run_pure,if_false];rfl
 ·exact h.elim
theorem uu (he:ER m bs w S env a) {d l:Int} {x:Option Operand} (h:Rk d (x.map (ev env))=some l):(x=none/\l=d)\/∃y k,x=some y/\a.eval y=.int k l:=by
 cases x with
 | none=>injection h with h;exact .inl ⟨rfl,h.symm⟩
 | some y=>
  right
  have h:(mY (ev env y)).map (·.2.1)=some l:=h;cases e:mY (ev env y) with
  | none=>rw[e] at h;cases h
  | some p=>
   obtain⟨k,n,c⟩:=p;rw[e] at h;injection h with h
   subst h;exact⟨y,k,rfl,iw he e⟩
theorem Yx (he:ER m bs w S env a) {t:TypeId} {x:Operand} {lo hi:Option Operand} (hop:o.op=.slice t x lo hi none) {y:XV} (h:(slX P t (ev env x) (lo.map (ev env)) (hi.map (ev env))).hit y):iN P o bs w S a cm (y,none):=by
 unfold slX at h;split at h
 ·rename_i s c hx;split at h
  ·rename_i hu;split at h
   ·rename_i l q hl hq;obtain⟨⟨h0,h1,h2⟩,h⟩:=h;have h:XV.one _=y:=h;subst h;have hx':=pH he hx;have uk:P.underlying t=some .string:=by
     cases hd:P.underlying t with
     | none=>rw[hd] at hu;cases hu
     | some d=>rw[hd] at hu;cases d<;>first|rfl|cases hu
    refine hJ (v:=.string (s.extract l.toNat q.toNat)) ?_ ⟨rfl,rfl⟩;have e1:(q.toNat:Int)=q:=Int.toNat_of_nonneg (by omega);unfold execOp;rcases uu he hl with⟨rfl,rfl⟩|⟨y1,k1,rfl,g1⟩<;>rcases uu he hq with⟨rfl,rfl⟩|⟨y2,k2,rfl,g2⟩
    ·simp[hop,hx',Instr.sliceAt,Instr.slice,run_underlying uk,Instr.sliceBounds]
    ·simp[hop,hx',g2,Instr.sliceAt,Instr.slice,run_underlying uk,Instr.sliceBounds,run_sliceBound,h2,(by omega:0<=q)]
    ·simp[hop,hx',g1,Instr.sliceAt,Instr.slice,run_underlying uk,Instr.sliceBounds,run_sliceBound,h0,h1]
    ·simp[hop,hx',g1,g2,Instr.sliceAt,Instr.slice,run_underlying uk,Instr.sliceBounds,run_sliceBound,h0,h1,h2,e1,(by omega:0<=q)]
   ·exact h.elim
  ·exact h.elim
 ·rename_i ty xs _ _ hx;split at h
  ·rename_i fm;split at h
   ·rename_i l q hl hq;obtain⟨⟨h0,h1,h2⟩,h⟩:=h;have h:XV.one _=y:=h;subst h;obtain⟨e,j,hu,hj,jb⟩:=zK fm;obtain⟨A,n,c,hv,hr,_⟩:=bW he hx;have bJ:=hr.len;have kw:=hr.cap.1;have hR:=(hr.take (k:=q.toNat) (by omega)).drop (k:=l.toNat) (by omega);refine hJ (v:=.slice (if c=l.toNat then A else A.map (·.add (l.toNat*j.size))) (q.toNat-l.toNat) (c-l.toNat)) ?_ ⟨_,_,_,rfl,by rw[jb];exact hR,λe=>by cases e⟩;have e1:(q.toNat:Int)=q:=Int.toNat_of_nonneg (by omega);have e3:q<=(c:Int):=by omega
    unfold execOp;rcases uu he hl with⟨rfl,rfl⟩|⟨y1,k1,rfl,g1⟩<;>rcases uu he hq with⟨rfl,rfl⟩|⟨y2,k2,rfl,g2⟩
    ·simp[hop,hv,Instr.sliceAt,Instr.slice,run_underlying hu,Instr.sliceBounds,sizeOf,typeInfo,hj,bJ]
    ·simp[hop,hv,g2,Instr.sliceAt,Instr.slice,run_underlying hu,Instr.sliceBounds,run_sliceBound,sizeOf,typeInfo,hj,e3,(by omega:0<=q)]
    ·simp[hop,hv,g1,Instr.sliceAt,Instr.slice,run_underlying hu,Instr.sliceBounds,run_sliceBound,sizeOf,typeInfo,hj,h0,(by omega:l<=(n:Int)),bJ]
    ·simp[hop,hv,g1,g2,Instr.sliceAt,Instr.slice,run_underlying hu,Instr.sliceBounds,run_sliceBound,sizeOf,typeInfo,hj,h0,h1,e1,e3,(by omega:0<=q)]
   ·exact h.elim
  ·exact h.elim
 ·exact h.elim
end
theorem F2.mapL {α β γ:Type} {R:α->β->Prop} {R':γ->β->Prop} {f:α->γ} {l:List α} {m:List β} (h:F2 R l m) (hr:∀x∈l,∀y,R x y->R' (f x) y):F2 R' (l.map f) m:=by
 induction h with
 | nil=>exact .nil
 | cons h _ ih=>exact .cons (hr _ aaz _ h) (ih λx hx=>hr x (aa0 _ hx))
def AV.free:AV->Bool
 | .val _|.sym _|.list _ _ _|.ref _ _ _|.map _ _ _|.cl _ _ _=>true
 | _=>false
def XV.free:XV->Bool
 | .one a=>a.free
 | .agg cs=>cs.all AV.free
 | .tup l=>l.all λp=>p.2.all AV.free
def AV.plain:AV->Bool
 | .val _|.sym _=>true
 | _=>false
def uD (H:List ah) (o:Nat):ah->Option AV
 | .mq q=>match H[q]? with
  | some (.mr p kt t _ _ f)=>if p=o then some (.map kt (.list t) λk=>(f k).map List.reverse) else none
  | _=>none
 | y=>jH y
def mH (H:List ah):AV->AV
 | .own o=>((H[o]?).bind (uD H o)).getD (.own o)
 | .mp o=>((H[o]?).bind (uD H o)).getD (.mp o)
 | .mrow q kt k=>match H[q]? with
  | some (.mr _ j5 t _ _ f)=>match Kt.eq? j5 kt with
   | some h=>.list t (((h.down▸f:kt.K->Option (List (El t))) k).getD []).reverse false
   | none=>.mrow q kt k
  | _=>.mrow q kt k
 | a=>a
def WM (H:List ah):XV->XV
 | .one a=>.one (mH H a)
 | .agg cs=>.agg (cs.map (mH H))
 | x=>x
def mF (ty:TypeId->Option Ty) (H:List ah):XV->XV
 | .one (.ptr o off)=>match H[o]? with
  | some (.cells tid cs)=>match ty tid with
   | some (.st k)=>match un (.st k) (cs.map (mH H)) with
    | some x=>.one (.ref (.st k) x off)
    | none=>.one (.ptr o off)
   | _=>.one (.ptr o off)
  | _=>.one (.ptr o off)
 | .one (.clo k o)=>match H[o]? with
  | some (.cells tid [c])=>match ty tid with
   | some t=>match un t [mH H c] with
    | some x=>.one (.cl k t x)
    | none=>.one (.clo k o)
   | none=>.one (.clo k o)
  | _=>.one (.clo k o)
 | x=>WM H x
def ao (P:Program) (f:FuncId) (al:Bool) (F:List XV->T XV):Prop:=
 ∀(w:World) (S:Nat->Prop) (xs:List XV) (vs:List Value) (r:XV),Wd w->(∀b,S b->b<w.heap.size)->F2 (XR [] w S) xs vs->(F xs).hit r->
  Calls P f vs.toArray w λe w'=>∃v S',e=.returned v/\Below w.heap.size w w'/\(∀b,S' b->(al=true/\S b)\/(w.heap.size<=b/\b<w'.heap.size))/\XR [] w' S' r v
structure Sm (P:Program) where
 f:FuncId
 al:Bool
 F:List XV->T XV
 ok:ao P f al F
def Qt (P:Program) (f:FuncId):Bool:=match P.funcs[f]? with
 | some fn=>!(fn.name== "runtime.NumGoroutine")&&fn.body.isSome
 | none=>false
def jt (env:Env):List Operand->Option (List XV)
 | []=>some []
 | x::l=>match ev env x,jt env l with
  | some y,some r=>some (y::r)
  | _,_=>none
def AV.mine:AV->Bool
 | .own _|.mp _|.mrow _ _ _|.ptr _ _|.clo _ _=>true
 | _=>false
def TZ:XV->Bool
 | .one a=>a.mine
 | .agg cs=>cs.any AV.mine
 | _=>false
def WX {P:Program} (ty:TypeId->Option Ty) (D:List (Sm P)) (H:List ah) (f:FuncId) (xs:Option (List XV)):T XV:=match xs,D.find? (λs=>s.f==f) with
 | some xs,some s=>if Qt P f&&(xs.map (mF ty H)).all XV.free&&!(s.al&&xs.any TZ) then(s.F (xs.map (mF ty H))).bind λx=>if x.free then .lf x else .bad else .bad
 | _,_=>.bad
section
variable {P:Program} {o:Oper} {cx:Cx} {bs aZ:List Value} {w:World} {S:Nat->Prop} {H:List ah} {m:Nat} {env:Env} {a:Act} {cm:Nat}
theorem VR.free {x:AV} {v:Value} (hf:x.free=true) (h:VR bs w S x v):VR aZ w S x v:=by
 cases x with
 | val u=>exact h
 | sym u=>exact h
 | list t xs q=>exact h
 | ref t x off=>exact h
 | map kt t f=>exact h
 | cl k t x=>exact h
 | _=>cases hf
theorem CR.free {ag:Bool} {cs:List AV} {v:Value} (hf:cs.all AV.free=true) (h:CR bs w S ag cs v):CR aZ w S ag cs v:=by
 have hc:=abc.1 hf;have key:∀{cs:List AV} {vs:List Value},(∀x∈cs,x.free=true)->F2 (VR bs w S) cs vs->F2 (VR aZ w S) cs vs:=by
  intro cs vs hc hf;induction hf with
  | nil=>exact .nil
  | cons h _ ih=>exact .cons (VR.free (hc _ aaz) h) (ih λx hx=>hc x (aa0 _ hx))
 unfold CR at h ⊢;cases ag with
 | true=>obtain⟨vs,e,h⟩:=h;exact⟨vs,e,key hc h⟩
 | false=>obtain⟨x,rfl,h⟩:=h;exact⟨x,rfl,VR.free (hc x aaz) h⟩
theorem XR.free {x:XV} {v:Value} (hf:x.free=true) (h:XR bs w S x v):XR aZ w S x v:=by
 cases x with
 | one b=>exact VR.free hf h
 | agg cs=>exact CR.free hf h
 | tup l=>
  obtain⟨vs,e,h⟩:=h;refine⟨vs,e,?_⟩;have hc:=abc.1 hf;clear e;induction h with
  | nil=>exact .nil
  | @cons p _ _ _ h _ ih=>exact .cons (CR.free (hc p aaz) h) (ih (abc.2 λx hx=>hc x (aa0 _ hx)) λx hx=>hc x (aa0 _ hx))
def GU (bs:List Value) (H:List ah) (S:Nat->Prop) (b:Nat):Prop:=S b\/∃(i:Nat) (x:ah) (v:Value),H[i]?=some x/\bs[i]?=some v/\Bk x v b
theorem MW (hs:HS cx bs w S H) {o:Nat} {y:ah} {x:AV} {v:Value} (hH:H[o]?=some y) (hx:uD H o y=some x) (hv:bs[o]?=some v):VR bs w (GU bs H S) x v:=by
 have hB:∀c,Bk y v c->GU bs H S c:=λc hc=>.inr ⟨o,y,v,hH,hv,hc⟩;cases y with
 | mq q=>
  unfold uD at hx;dsimp only at hx;split at hx
  ·rename_i p kt t e n f hq;split at hx
   ·rename_i hp;injection hx with hx
    subst hp hx;have Lh:q<bs.length:=by rw[hs.len];exact(aad.1 hq).1
    have kD:=hs.o q _ _ hq (aac Lh);have hBq:∀c,xh kt (λ_=>False) bs[q] c->GU bs H S c:=λc hc=>.inr ⟨q,_,_,hq,aac Lh,hc⟩;obtain⟨b,l,g,e1,h1,h2,h3,h4,_⟩:=kD;rw[hv] at h1;injection h1 with h1
    subst h1;rw[e1] at hBq;refine .inr ⟨b,n,g,rfl,hBq b ⟨b,l,rfl,.inl rfl⟩,h2,λk=>?_⟩;have:=h4 k id;cases hf:f k with
    | none=>rw[hf] at this;show xe w _ ((f k).map List.reverse) _;rw[hf];exact this
    | some xs=>
     rw[hf] at this;obtain⟨u,hu,ho⟩:=this;obtain⟨A,m,c,rfl,hr⟩:=vh ho (λb h=>(.inl h:GU bs H S b)) λc hc=>hBq c ⟨b,l,rfl,.inr ⟨k,u,id,(h3 k u).1 hu,hc⟩⟩;show xe w _ ((f k).map List.reverse) _;rw[hf];exact⟨_,hu,A,m,c,rfl,hr⟩
   ·cases hx
  ·cases hx
 | _=>exact uE (hs.o o _ v hH hv) hx (λ_ h=>.inl h) hB
theorem mG (hs:HS cx bs w S H) {x:AV} {v:Value} (h:VR bs w S x v):VR bs w (GU bs H S) (mH H x) v:=by
 have up:VR bs w (GU bs H S) x v:=h.keep (λ_ h=>.inl h) (aw.refl _ _) (iV.refl _);have one:∀o,lZ x=some o->mH H x=((H[o]?).bind (uD H o)).getD x->VR bs w (GU bs H S) (mH H x) v:=by
  intro o ho e;rw[e];cases hH:H[o]? with
  | none=>exact up
  | some y=>
   show VR bs w _ ((uD H o y).getD x) v;cases hx:uD H o y with
   | none=>exact up
   | some z=>exact MW hs hH hx (vk h ho)
 cases x with
 | own i=>exact one i rfl rfl
 | mp i=>exact one i rfl rfl
 | mrow q kt k=>
  show VR bs w _ (match H[q]? with|some (.mr _ j5 t _ _ f)=>(match Kt.eq? j5 kt with|some h=>AV.list t (((h.down▸f:kt.K->Option (List (El t))) k).getD []).reverse false|none=>.mrow q kt k)|_=>.mrow q kt k) v;split
  ·rename_i p j5 t e n f hq;split
   ·rename_i hk _;obtain⟨rfl⟩:=hk;obtain⟨b,l,hb,hv,fm⟩:=h;have hB:∀c,xh j5 (λ_=>False) (sx b l) c->GU bs H S c:=λc hc=>.inr ⟨q,_,_,hq,hb,hc⟩;obtain⟨b',l',g,e1,h1,h2,h3,h4,_⟩:=hs.o q _ _ hq hb;obtain⟨rfl,rfl⟩:=lh e1;have:=h4 k id;show VR bs w _ (.list t ((f k).getD []).reverse false) v;cases hf:f k with
    | none=>
     rw[hf] at this;rcases hv with hv|⟨rfl,_⟩
     ·rw[<-h3] at hv;rw[hv] at this;cases this
     ·exact⟨none,0,0,rfl,RS.nil _ _,λe=>by cases e⟩
    | some xs=>
     rw[hf] at this;obtain⟨u,hu,ho⟩:=this;have hm:=(h3 k u).1 hu;rcases hv with hv|⟨_,hv⟩
     ·rw[<-h3,hu] at hv;injection hv with hv
      subst hv;obtain⟨A,m,c,rfl,hr⟩:=vh ho (λb h=>(.inl h:GU bs H S b)) λc hc=>hB c ⟨b,l,rfl,.inr ⟨k,_,id,hm,hc⟩⟩;exact⟨A,m,c,rfl,hr,λe=>by cases e⟩
     ·exact absurd hm (hv u)
   ·exact up
  ·exact up
 | _=>exact up
theorem MS (hs:HS cx bs w S H) {x:XV} {v:Value} (h:XR bs w S x v):XR bs w (GU bs H S) (WM H x) v:=by
 cases x with
 | one b=>exact mG hs h
 | agg cs=>
  obtain⟨vs,e,h⟩:=h;exact⟨vs,e,h.mapL λ_ _ _ h=>mG hs h⟩
 | tup l=>exact h.keep (λ_ h=>.inl h) (aw.refl _ _) (iV.refl _)
theorem BF (hs:HS cx bs w S H) {ty:TypeId->Option Ty} {x:XV} {v:Value} (h:XR bs w S x v):XR bs w (GU bs H S) (mF ty H x) v:=by
 have up:XR bs w (GU bs H S) x v:=h.keep (λ_ h=>.inl h) (aw.refl _ _) (iV.refl _);unfold mF;split
 ·rename_i o off;split
  ·rename_i tid cs hH;split
   ·rename_i k _;split
    ·rename_i x hx;obtain⟨g,hb,rfl⟩:=h;obtain⟨g',vs,e,hk,hf⟩:=hs.o o _ _ hH hb;injection e with e
     injection e with e
     injection e with e
     subst e;exact⟨g,0,vs,.inr ⟨o,_,_,hH,hb,rfl⟩,by rw[acg],jJ hx (hf.mapL λ_ _ _ h=>mG hs h),λj u hj=>by rw[addr_add,acg,hk.cell];simpa using hj⟩
    ·exact up
   ·exact up
  ·exact up
 ·rename_i k o;split
  ·rename_i tid c hH;split
   ·rename_i t _;split
    ·rename_i x hx;obtain⟨g,hb,rfl⟩:=h;obtain⟨g',vs,e,hk,hf⟩:=hs.o o _ _ hH hb;injection e with e
     injection e with e
     injection e with e
     subst e;cases hf with
     | @cons _ u _ _ h1 h2=>
      cases h2
      exact⟨g,[u],.inr ⟨o,_,_,hH,hb,rfl⟩,rfl,jJ hx (.cons (mG hs h1) .nil),λj u hj=>by rw[addr_add,acg,hk.cell];simpa using hj⟩
    ·exact up
   ·exact up
  ·exact up
 ·exact MS hs h
theorem E0 {a:AV} (h:a.mine=false):mH H a=a:=by
 cases a<;>first|rfl|cases h
theorem EZ {ty:TypeId->Option Ty} {x:XV} (h:TZ x=false):mF ty H x=x:=by
 cases x with
 | one b=>cases b<;>first|rfl|cases h
 | agg cs=>
  replace h:cs.any AV.mine=false:=h;have:cs.map (mH H)=cs:=by
   revert h
   induction cs with
   | nil=>intro _;rfl
   | cons c l ih=>
    intro h;rw[ac1,Bool.or_eq_false_iff] at h;rw[aco,ih h.2,E0 h.1]
  show XV.agg (cs.map (mH H))=_;rw[this]
 | tup l=>rfl
theorem je (he:ER m bs w S env a):∀{l:List Operand} {r:List XV},jt env l=some r->F2 (XR bs w S) r (l.map a.eval)
 | [],r,h=>by injection h with h;subst h;exact .nil
 | x::l,r,h=>by
  unfold jt at h;split at h
  ·rename_i y r' h1 h2;injection h with h
   subst h;exact .cons (bW he h1) (je he h2)
  ·cases h
theorem lB {f:FuncId} {args:Array Value} (h:Qt P f=true):(callFunc f args).run P w=.ok (.enter f args) w:=by
 unfold Qt at h;cases hf:P.funcs[f]? with
 | none=>rw[hf] at h;cases h
 | some fn=>
  rw[hf] at h;simp only[aav,acs] at h;have hb:fn.body.isNone=false:=by cases hb:fn.body<;>simp_all
  unfold callFunc;have:(program:Sem Program).run P w=.ok P w:=rfl;simp only[Sem.run_bind,this,Result.andThen_ok,hf,h.1,acC,if_false,hb,Sem.run_pure]
theorem T.hit_free {t:T XV} {r:XV} (h:(t.bind λx=>if x.free then .lf x else .bad).hit r):t.hit r/\r.free=true:=by
 obtain⟨q,h1,h2⟩:=T.hit_bind h;split at h2
 ·rename_i hf;have h2:q=r:=h2;subst h2;exact⟨h1,hf⟩
 ·exact h2.elim
theorem vf (hs:HS cx bs w S H) {ty:TypeId->Option Ty} {D:List (Sm P)} {f:FuncId} {args:Array Operand} {ts:Array TypeId} {ql:Option (List XV)} {cap:Array Value} (hq:∀xs,ql=some xs->F2 (XR bs w S) xs (args.toList.map a.eval++cap.toList)) {x:Operand} (hev:a.eval x=.func (.func f) #[] cap) (hop:o.op=.call { callee:=.value x,args:=args,argTypes:=ts }) {y:XV} (h:(WX ty D H f ql).hit y):iN P o bs w S a cm (y,none):=by
 unfold WX at h;split at h
 ·rename_i xs s hd;split at h
  ·rename_i hc;simp only[aav,acs,Bool.and_eq_false_iff] at hc;obtain⟨⟨hf,wl⟩,hal⟩:=hc;obtain⟨h,hyf⟩:=T.hit_free h;have hsf:s.f=f:=by have:=List.find?_some hd;simpa using this
   have ha:=hq xs rfl;have hS1:∀b,GU bs H S b->b<w.heap.size:=λb hb=>by
    rcases hb with hb|⟨i,x,v,h1,h2,h3⟩
    ·exact(hs.s b hb).1
    ·exact(hs.o i x v h1 h2).lt h3
   have key:∃S1:Nat->Prop,(∀b,S1 b->b<w.heap.size)/\(s.al=true->∀b,S1 b->S b)/\F2 (XR [] w S1) (xs.map (mF ty H)) (args.toList.map a.eval++cap.toList):=by
    have mf:∀x∈xs,(mF ty H x).free=true:=λx hx=>abc.1 wl _ (List.mem_map_of_mem hx);rcases hal with hal|hal
    ·refine⟨GU bs H S,hS1,(λe=>by rw[hal] at e;cases e),?_⟩;exact ha.mapL λx hx v h1=>XR.free (mf x hx) (BF hs h1)
    ·refine⟨S,λb hb=>(hs.s b hb).1,λ_ b hb=>hb,?_⟩;have PL:∀x∈xs,TZ x=false:=λx hx=>by
      have:=List.any_eq_false.1 hal x hx;simpa using this
     exact ha.mapL λx hx v h1=>by
      have h3:=mf x hx;rw[EZ (PL x hx)] at h3 ⊢;exact XR.free h3 h1
   obtain⟨S1,k1,k2,k3⟩:=key;have bG:=s.ok w S1 _ _ y hs.wd k1 k3 h;rw[hsf] at bG;intro K Q hk;unfold Oper.wp execOp;have qo:(args.toList.map a.eval++cap.toList).toArray=args.map a.eval++cap:=by
    rw[<-adg,<-Array.toList_append]
   simp only[hop,resolve,hev,Deferred.ofValue,Sem.run_bind,Sem.run_pure,Result.andThen_ok,invoke,Array.empty_append,lB hf,Oper.upon_enter];rw[<-qo];refine bG.mono λe w' yK=>?_;obtain⟨v,S',rfl,hb,pe,hr⟩:=yK;refine hk v w' (λb=>S b\/S' b) undef hb (λ_ h=>.inl h) (λb h=>?_) (λaZ _ _=>⟨?_,λ_ e=>by cases e⟩) λ_ e=>by cases e
   ·rcases h with h|h
    ·exact .inl h
    ·rcases pe b h with⟨h1,h2⟩|h2
     ·exact .inl (k2 h1 b h2)
     ·exact .inr h2
   ·exact(XR.free hyf hr).keep (λ_ h=>.inr h) (aw.refl _ _) (iV.refl _)
  ·exact h.elim
 ·exact h.elim
theorem Y5 (hs:HS cx bs w S H) (he:ER m bs w S env a) {ty:TypeId->Option Ty} {D:List (Sm P)} {f:FuncId} {args:Array Operand} {ts:Array TypeId} (hop:o.op=.call { callee:=.value (.func f),args:=args,argTypes:=ts }) {y:XV} (h:(WX ty D H f (jt env args.toList)).hit y):iN P o bs w S a cm (y,none):=vf (cap:=#[]) hs (λ_ hx=>by rw[Array.toList_empty,acx];exact je he hx) rfl hop h
end
class IsP (P:Program):Prop where
 eq:P=Tryz.prog
instance:IsP Tryz.prog:=⟨rfl⟩
def ZO (k:TypeId):Option Kt:=if k=Kt.id .s then some .s else if k=Kt.id .i then some .i else none
theorem UL {k:TypeId} {kt:Kt} (h:ZO k=some kt):k=kt.id:=by
 unfold ZO at h;split at h
 ·rename_i e;injection h with h;rw[<-h];exact e
 ·split at h
  ·rename_i e;injection h with h;rw[<-h];exact e
  ·cases h
structure ab5 where
 kt:Kt
 y:Ty
 zv:Value
 z0:El y
def OO (P:Program) (ty:TypeId->Option Ty) (t:TypeId):Option ab5:=match P.underlying t with
 | some (.map k e)=>match ZO k,ty e,(P.info? e).bind (·.zero) with
  | some kt,some y,some zv=>if zv.oneCell'&&y.one then(M8 y (.val zv)).map λz0=>⟨kt,y,zv,z0⟩ else none
  | _,_,_=>none
 | _=>none
def ZP:(kt:Kt)->Option XV->Option kt.K
 | .s,x=>(zB x).map (·.1)
 | .i,x=>match mY x with
  | some (.i64,n,_)=>some n
  | _=>none
def Kt.to {a b:Kt} (h:a=b) (k:a.K):b.K:=h▸k
def Uw (c:Bool) (y:Ty) (z0:El y) (v:Option (El y)):XV:=if c then .tup [(false,[one y (v.getD z0)]),(false,[.sym (.bool v.isSome)])] else .one (one y (v.getD z0))
def AF:Value->Bool
 | .slice none 0 0=>true
 | _=>false
theorem FV {v:Value} (h:AF v=true):v=.slice none 0 0:=by
 unfold AF at h;split at h
 ·rfl
 ·cases h
def lkM (m:ab5) (H:List ah) (k:m.kt.K) (c:Bool):AV->T XV
 | .mp o=>match H[o]? with
  | some (.mp j5 y' _ f)=>match Ty.eq? (.mp j5 y') (.mp m.kt m.y) with
   | some h=>.nd (m.kt.ok k) (.lf (Uw c m.y m.z0 ((h.down▸(f:El (.mp j5 y')):El (.mp m.kt m.y)) k)))
   | none=>.bad
  | some (.mq q)=>match H[q]? with
   | some (.mr p j5 _ _ _ _)=>match Kt.eq? j5 m.kt with
    | some _=>if p=o/\c=false/\AF m.zv=true then .nd (m.kt.ok k) (.lf (.one (.mrow q m.kt k))) else .bad
    | none=>.bad
   | _=>.bad
  | _=>.bad
 | .map j5 y' f=>match Ty.eq? (.mp j5 y') (.mp m.kt m.y) with
  | some h=>.nd (m.kt.ok k) (.lf (Uw c m.y m.z0 ((h.down▸(f:El (.mp j5 y')):El (.mp m.kt m.y)) k)))
  | none=>.bad
 | .val (.map none)=>.nd (m.kt.ok k) (.lf (Uw c m.y m.z0 none))
 | _=>.bad
def lkX (P:Program) (ty:TypeId->Option Ty) (H:List ah) (t:TypeId) (m x:Option XV) (c:Bool):T XV:=match OO P ty t,m with
 | some mt,some (.one a)=>match ZP mt.kt x with
  | some k=>lkM mt H k c a
  | none=>.bad
 | _,_=>.bad
def aeG (P:Program) (ty:TypeId->Option Ty) (cm:Nat) (t:TypeId):Option (XV×Option ah):=(OO P ty t).map λm=>(.one (.mp cm),some (.mp m.kt m.y 0 λ_=>none))
def Zq (P:Program) (ty:TypeId->Option Ty) (cm:Nat) (H:List ah) (t:TypeId) (m x v:Option XV):T (List (Nat×ah)×Option ah):=match OO P ty t,m,v with
 | some mt,some (.one (.mp o)),some (.one a)=>match ZP mt.kt x,H[o]? with
  | some k,some (.mp j5 y' n f)=>match Ty.eq? (.mp j5 y') (.mp mt.kt mt.y),M8 mt.y a with
   | some h,some z=>.nd (mt.kt.ok k/\n<1000000000000) (.lf ([(o,.mp mt.kt mt.y (n+1) (lC mt.kt (h.down▸(f:El (.mp j5 y')):El (.mp mt.kt mt.y)) k z))],none))
   | _,_=>.bad
  | some k,some (.mq q)=>match a,H[q]? with
   | .own r,some (.mx p j5 t' e' n f k')=>match H[r]? with
    | some (.row t2 e2 rs)=>match Kt.eq? mt.kt j5,Ty.eq? t2 t' with
     | some h,some h2=>if p=o/\e2=e' then .nd (mt.kt.ok k/\Kt.to h.down k=k'/\n<1000000000000) (.lf ([(q,.dead),(r,.dead),(o,.mq cm)],some (.mr o j5 t' e' (n+1) (lC j5 f k' (h2.down▸rs:List (El t')))))) else .bad
     | _,_=>.bad
    | _=>.bad
   | _,_=>.bad
  | _,_=>.bad
 | _,_,_=>.bad
def O5 (H:List ah):Option XV->Option XV
 | some (.one a)=>match mH H a with
  | .list _ xs _=>some (.one (.sym (.int .i64 (xs.length:Int))))
  | _=>none
 | _=>none
theorem Kt.val_inj:{kt:Kt}->{x y:kt.K}->kt.val x=kt.val y->x=y
 | .s,_,_,h=>by injection h
 | .i,_,_,h=>by injection h
section
variable {P:Program} {o:Oper} {cx:Cx} {bs aZ:List Value} {w w':World} {S:Nat->Prop} {H:List ah} {m:Nat} {env:Env} {a:Act} {cm:Nat} {ty:TypeId->Option Ty}
theorem ID {t:TypeId} {mt:ab5} (h:OO P ty t=some mt):∃e,P.underlying t=some (.map mt.kt.id e)/\(∀w,(zeroValue e).run P w=.ok mt.zv w)/\mt.y.one=true/\mt.zv.oneCell'=true/\∀w S,aA.rep (α:=El mt.y) w S [mt.zv] mt.z0:=by
 unfold OO at h;split at h
 ·rename_i k e hu;split at h
  ·rename_i kt y zv hk _ hz;split at h
   ·rename_i hc;rw[aav] at hc;obtain⟨i,hi,hz⟩:=Option.bind_eq_some_iff.1 hz;obtain⟨z0,h0,h⟩:=adj.1 h;subst h;obtain rfl:=UL hk;exact⟨e,hu,λw=>by simp[zeroValue,typeInfo,hi,hz],hc.2,hc.1,λw S=>nH (bs:=[]) h0 ⟨rfl,hc.1⟩⟩
   ·cases h
  ·cases h
 ·cases h
theorem AC (he:ER m bs w S env a) {x:Operand}:{kt:Kt}->{k:kt.K}->ZP kt (ev env x)=some k->a.eval x=kt.val k
 | .s,k,h=>by
  obtain⟨p,h1,h2⟩:=adj.1 h;subst h2;exact pH he h1
 | .i,k,h=>by
  have h:(match mY (ev env x) with|some (.i64,n,_)=>some n|_=>none)=some k:=h;split at h
  ·rename_i n _ h1;injection h with h
   subst h;exact iw he h1
  ·cases h
theorem OT {c:Bool} {y:Ty} {z0:El y} {zv:Value} {f:Option (El y)} {g:Option Value} (hy:y.one=true) (hz:aA.rep (α:=El y) w S [zv] z0) (h:xe w S f g):XR bs w S (Uw c y z0 f) (if c then .tuple #[g.getD zv,.bool g.isSome] else g.getD zv):=by
 have key:aA.rep (α:=El y) w S [g.getD zv] (f.getD z0)/\g.isSome=f.isSome:=by
  cases f with
  | none=>obtain rfl:g=none:=h;exact⟨hz,rfl⟩
  | some x=>obtain⟨u,rfl,hu⟩:=h;exact⟨hu,rfl⟩
 cases c with
 | false=>exact uf hy key.1
 | true=>
  rw[key.2];exact⟨[_,_],rfl,.cons ⟨_,rfl,uf hy key.1⟩ (.cons ⟨_,rfl,rfl,rfl⟩ .nil)⟩
theorem Zx (hs:HS cx bs w S H) (he:ER m bs w S env a) (hP:IsP P) {t:TypeId} {mo x:Operand} {c:Bool} (hop:o.op=.lookup t mo x c) {y:XV} (h:(lkX P ty H t (ev env mo) (ev env x) c).hit y):iN P o bs w S a cm (y,none):=by
 obtain rfl:=hP.eq;unfold lkX at h;split at h
 ·rename_i mt b hm hb;split at h
  ·rename_i k hk;obtain⟨e,hu,hz,Xj,gC,hzr⟩:=ID hm;have hkv:=AC he hk;have hv:=bW he hb;have fin:∀{v:Value} {y:XV},(Instr.lookup t (a.eval mo) (mt.kt.val k) c).run Tryz.prog w=.ok v w->XR bs w S y v->iN Tryz.prog o bs w S a cm (y,none):=λhr hx=>hJ (by unfold execOp;simp[hop,hkv,hr]) hx;have data:∀{bl n:Nat} {g:mt.kt.K->Option Value} {f:mt.kt.K->Option (El mt.y)},a.eval mo=.map (some bl)->jU w mt.kt bl n g->xe w S (f k) (g k)->mt.kt.ok k->iN Tryz.prog o bs w S a cm (Uw c mt.y mt.z0 (f k),none):=by
    intro bl n g f ha hg hf tQ;refine fin (v:=if c then .tuple #[(g k).getD mt.zv,.bool (g k).isSome] else(g k).getD mt.zv) ?_ (OT Xj (hzr w S) hf);rw[ha];cases c with
    | false=>exact hg.look hu (hz w) tQ
    | true=>exact hg.look2 hu (hz w) tQ
   have nil:a.eval mo=.map none->mt.kt.ok k->iN Tryz.prog o bs w S a cm (Uw c mt.y mt.z0 none,none):=by
    intro ha tQ;refine fin (v:=if c then .tuple #[mt.zv,.bool false] else mt.zv) ?_ (OT (g:=none) Xj (hzr w S) rfl);rw[ha];have:=look_nil (kt:=mt.kt) hu (hz w) tQ;cases c with
    | false=>exact this.1
    | true=>exact this.2
   unfold lkM at h;split at h
   ·rename_i ob;split at h
    ·rename_i j5 y' n f hH;split at h
     ·rename_i q _;obtain⟨q⟩:=q;injection q with q1 q2
      subst q1 q2;obtain⟨tQ,h⟩:=h;have h:Uw c _ _ (f k)=y:=h;subst h;obtain⟨ci,_⟩:=hv;obtain⟨bl,g,e1,hg,hf⟩:=hs.o ob _ _ hH ci;exact data e1 hg (hf k) tQ
     ·exact h.elim
    ·rename_i q hH;split at h
     ·rename_i p j5 t' e' n f hQ;split at h
      ·rename_i De _;obtain⟨De⟩:=De;subst De;split at h
       ·rename_i hc;obtain⟨rfl,rfl,hzv⟩:=hc;have hzv:=FV hzv;obtain⟨tQ,h⟩:=h;have h:XV.one (.mrow q mt.kt k)=y:=h;subst h;obtain⟨ci,bl0,e0⟩:=hv;have Lh:q<bs.length:=by rw[hs.len];exact(aad.1 hQ).1
        have Lu:=aac Lh;obtain⟨bl,l,g,e1,h1,h2,h3,h4,_⟩:=hs.o q _ _ hQ Lu;rw[ci] at h1;injection h1 with h1
        refine fin (v:=(g k).getD mt.zv) (by rw[h1];exact h2.look hu (hz w) tQ) ⟨bl,l,by rw[Lu,e1],?_,?_⟩
        ·cases hg:g k with
         | none=>exact .inr ⟨hzv,λu hu=>by rw[<-h3,hg] at hu;cases hu⟩
         | some u=>exact .inl ((h3 k u).1 hg)
        ·have:=h4 k id;cases hf:f k with
         | none=>rw[hf] at this;rw[this];exact⟨none,0,0,hzv⟩
         | some xs=>
          rw[hf] at this;obtain⟨u,hu,ho⟩:=this;obtain⟨A,n',c',rfl,_⟩:=ho.slice;rw[hu];exact⟨A,n',c',rfl⟩
       ·exact h.elim
      ·exact h.elim
     ·exact h.elim
    ·exact h.elim
   ·rename_i j5 y' f;split at h
    ·rename_i q _;obtain⟨q⟩:=q;injection q with q1 q2
     subst q1 q2;obtain⟨tQ,h⟩:=h;have h:Uw c _ _ (f k)=y:=h;subst h;rcases hv with⟨e1,hf⟩|⟨bl,n,g,e1,_,hg,hf⟩
     ·injection e1 with e1
      rw[hf k];exact nil e1 tQ
     ·injection e1 with e1
      exact data e1 hg (hf k) tQ
    ·exact h.elim
   ·obtain⟨tQ,h⟩:=h;have h:Uw c _ _ none=y:=h;subst h;exact nil hv.1 tQ
   ·exact h.elim
  ·exact h.elim
 ·exact h.elim
theorem Uh (hs:HS cx bs w S H) {t:TypeId} (hop:o.op=.makeMap t none) {r:XV×Option ah} (h:aeG P ty cm t=some r):iN P o bs w S a cm r:=by
 obtain⟨mt,_,h⟩:=adj.1 h;subst h;intro K Q hk;have hr:(execOp a.eval o).run P w=.ok (.value (.map (some w.heap.size))) (w.alloc (.map #[] 0)):=by unfold execOp;simp[hop,Instr.makeMap]
 unfold Oper.wp;rw[hr,Oper.upon_value];refine hk _ _ S (.map (some w.heap.size)) (nj _ _) (λ_ h=>h) (λ_ h=>.inl h) (λaZ ha hn=>⟨⟨hn rfl,_,rfl⟩,λx hx=>?_⟩) λx hx b qu=>?_
 ·injection hx with hx
  subst hx;exact⟨w.heap.size,λ_=>none,rfl,jU.made w,λ_=>rfl⟩
 ·injection hx with hx
  subst hx;injection qu with qu
  subst qu;exact⟨aaG _,λq=>acL _ (hs.s _ q).1⟩
theorem UG (hs:HS cx bs w S H) (he:ER m bs w S env a) {x:Operand} {t:TypeId} {ts:Array TypeId} (hop:o.op=.call { callee:=.builtin .len,args:=#[x],argTypes:=ts }) (ht:ts[0]?=some t) (hu:((P.underlying t).map λd=>match d with|.slice _=>true|_=>false)=some true) {y:XV} (h:O5 H (ev env x)=some y):iN P o bs w S a cm (y,none):=by
 unfold O5 at h;split at h
 ·rename_i b hx;split at h
  ·rename_i ty xs q hv;injection h with h
   subst h;have:=mG hs (bW he hx);rw[hv] at this;obtain⟨A,n,c,hv,hr,_⟩:=this;exact hJ (IK hop ht hu hv) ⟨by rw[hr.len],rfl⟩
  ·cases h
 ·cases h
end
def aa7 (P:Program) (t:TypeId) (x y:Value):Option Bool:=match P.underlying t,x,y with
 | some (.int _),.int k m,.int k' n=>if k=k' then some (m==n) else none
 | some .bool,.bool m,.bool n=>some (m==n)
 | some .string,.string m,.string n=>some (m.toList==n.toList)
 | _,_,_=>none
def QE (P:Program) (xs ys:Array Value):List Field->Option Bool
 | []=>some true
 | f::fs=>if f.name≠ "_" /\P.plainKey f.type=true then match xs[f.offset]?,ys[f.offset]? with
  | some u,some v=>match aa7 P f.type u v,QE P xs ys fs with
   | some p,some q=>some (p&&q)
   | _,_=>none
  | _,_=>none else none
def Pn (P:Program) (t:TypeId):Bool:=match P.underlying t with
 | some (.struct _)=>true
 | _=>false
def ngB:BinOp->Option Bool
 | .eql=>some false
 | .neq=>some true
 | _=>none
def Ho (P:Program) (k:BinOp) (t:TypeId) (x y:Option XV):Option XV:=match x.bind cvX,y.bind cvX,ngB k with
 | some (.agg xs,c),some (.agg ys,d),some g=>if P.stoodInHeld t||P.eqGuardType P.depth t then none else(QE P xs ys (P.fieldsOf t).toList).map λb=>.one (mkA (c&&d) (.bool (g ^^ b)))
 | _,_,_=>none
section
variable {P:Program} {o:Oper} {cx:Cx} {bs:List Value} {w:World} {S:Nat->Prop} {H:List ah} {m:Nat} {env:Env} {a:Act} {cm:Nat}
theorem QG {d:Nat} {t:TypeId} {x y:Value} {b:Bool} (h:aa7 P t x y=some b):(Op.equalIn (d+1) t x y).run P w=.ok b w:=by
 unfold aa7 at h;split at h
 ·rename_i k' k m k2 n hu;split at h
  ·rename_i e;injection h with h
   subst e h;exact run_equalIn_int w d t _ _ _ _ hu
  ·cases h
 ·rename_i hu;injection h with h
  subst h;exact run_equalIn_bool w d t _ _ hu
 ·rename_i hu;injection h with h
  subst h;exact run_equalIn_string w d t _ _ hu
 ·cases h
theorem Du {d:Nat} {xs ys:Array Value}:∀{fs:List Field} {b:Bool},QE P xs ys fs=some b->(Op.eqFields (d+1) xs ys fs).run P w=.ok b w
 | [],b,h=>by injection h with h;subst h;simp[Op.eqFields]
 | f::fs,b,h=>by
  unfold QE at h;split at h
  ·rename_i hn;split at h
   ·rename_i u v hu hv;split at h
    ·rename_i p q hp hq;injection h with h
     subst h;have ih:=Du (d:=d) hq;simp only[Op.eqFields,hn.1,ne_eq,not_false_eq_true,if_true,Sem.run_bind,run_part_plain w hn.2 hu,run_part_plain w hn.2 hv,QG hp,Result.andThen_ok];cases p with
     | true=>simpa using ih
     | false=>simp
    ·cases h
   ·cases h
  ·cases h
theorem Nu (he:ER m bs w S env a) {k:BinOp} {t u:TypeId} {x y:Operand} (hop:o.op=.binOp k t x y u) (hs:Pn P t=true) {z:XV} (h:Ho P k t (ev env x) (ev env y)=some z):iN P o bs w S a cm (z,none):=by
 unfold Ho at h;split at h
 ·rename_i xs c ys d g hx hy hg;split at h
  ·cases h
  ·rename_i sa;simp only[acK,not_or,Bool.not_eq_true] at sa;have tk:∀{x:Operand} {q:Value} {c:Bool},(ev env x).bind cvX=some (q,c)->a.eval x=q:=λ{x q c} h=>by
    cases e:ev env x with
    | none=>rw[e] at h;cases h
    | some y=>rw[e] at h;exact QO (p:=(q,c)) h (bW he e)
   have hx':=tk hx;have Mr:=tk hy;cases e:QE P xs ys (P.fieldsOf t).toList with
   | none=>rw[e] at h;cases h
   | some b=>
    rw[e] at h;injection h with h
    subst h;have ht:P.underlying t=some (.struct (P.fieldsOf t)):=by
     unfold Pn at hs;unfold Program.fieldsOf;split at hs
     ·rename_i fs hu;rw[hu]
     ·cases hs
    have hr:(Op.equalIn 10000 t (.agg xs) (.agg ys)).run P w=.ok b w:=(run_equalIn_struct w 9999 t xs ys ht sa.1).trans (Du (d:=9998) e);have hq:=run_eqGuard_agg (P:=P) w k t x y xs ys sa.2;refine hJ (v:=.bool (g ^^ b)) ?_ (FM rfl);unfold execOp;unfold ngB at hg;split at hg
    ·injection hg with hg
     subst hg;simp only[hop,hx',Mr,Sem.run_bind,hq,Result.andThen_ok,run_eql_struct,hr];cases b<;>rfl
    ·injection hg with hg
     subst hg;simp only[hop,hx',Mr,Sem.run_bind,hq,Result.andThen_ok,run_neq_struct,hr];cases b<;>rfl
    ·cases hg
 ·cases h
end
def u8s (xs:List Int):List UInt8:=xs.map λv=>UInt8.ofNat v.toNat
theorem RS.u8s {w:World} {S:Nat->Prop} {A:Option Addr} {n c:Nat} {xs:List Int} (h:@RS Int (u7 .u8) w S A n c xs) (hb:∀v∈xs,0<=v/\v<=255):RS w S A n c (u8s xs):=by
 obtain⟨h1,h2,h3,h4⟩:=h;refine⟨by unfold Go.Proofs.YtdbpbfglhbiadaaGreatDoor.u8s;rw[acf];exact h1,h2,h3,λhn=>?_⟩;obtain⟨b,o,e,hs,he⟩:=h4 hn;refine⟨b,o,e,hs,λk x hx=>?_⟩;unfold Go.Proofs.YtdbpbfglhbiadaaGreatDoor.u8s at hx;rw[acG] at hx;obtain⟨v,hv,rfl⟩:=adj.1 hx;have hvb:=hb v (acq hv);obtain⟨cs,hr,hc⟩:=he k v hv;refine⟨cs,?_,hc⟩;have hr:cs=[.int .u8 v]:=hr;show cs=[.int .u8 ((UInt8.ofNat v.toNat).toNat:Int)];rw[hr,UInt8.toNat_ofNat'];congr 2
 omega
def IV (P:Program) (s t:TypeId):Bool:=match P.underlying s,P.underlying t with
 | some (.slice e),some .string=>match P.underlying e with
  | some (.int .u8)=>true
  | _=>false
 | _,_=>false
theorem Po {P:Program} {s t:TypeId} (h:IV P s t=true):∃e,P.underlying s=some (.slice e)/\P.underlying e=some (.int .u8)/\P.underlying t=some .string:=by
 unfold IV at h;split at h
 ·rename_i e h1 h2;split at h
  ·rename_i h3;exact⟨e,h1,h3,h2⟩
  ·cases h
 ·cases h
def cvL (xs:List Int):T XV:=.nd (∀v∈xs,0<=v/\v<=255) (.lf (.one (.sym (.string ⟨(u8s xs).toArray⟩))))
def abj (H:List ah) (x:Option XV):T XV:=match x with
 | some (.one (.list (.int .u8) xs _))=>cvL xs
 | some (.one (.own o))=>match H[o]? with
  | some (.row (.int .u8) _ rs)=>cvL (List.reverse (α:=Int) rs)
  | _=>.bad
 | _=>.bad
section
variable {P:Program} {o:Oper} {cx:Cx} {bs aZ:List Value} {w w':World} {S:Nat->Prop} {H:List ah} {m:Nat} {env:Env} {a:Act} {cm:Nat}
theorem aet (hs:HS cx bs w S H) (he:ER m bs w S env a) {x:Operand} {ob:Nat} {ty:Ty} {e:TypeId} {rs:List (El ty)} (hx:ev env x=some (.one (.own ob))) (hH:H[ob]?=some (.row ty e rs)):∃A n c,a.eval x=.slice A n c/\RS w (λ_=>True) A n c rs.reverse:=by
 obtain⟨hb,A,n,c,hv⟩:=bW he hx;have ho:Own (α:=El ty) w S 0 e (a.eval x) rs.reverse:=hs.o ob _ _ hH hb;rw[hv] at ho;exact⟨A,n,c,hv,ho.rs (λ_ _=>trivial) λ_ _ _=>trivial⟩
theorem VP (hs:HS cx bs w S H) (he:ER m bs w S env a) {s t:TypeId} {x:Operand} (hop:o.op=.convert s t x) (hu:IV P s t=true) {y:XV} (h:(abj H (ev env x)).hit y):iN P o bs w S a cm (y,none):=by
 obtain⟨e,h1,h2,h3⟩:=Po hu;have key:∀{S':Nat->Prop} {A:Option Addr} {n c:Nat} {xs:List Int},a.eval x=.slice A n c->@RS Int (u7 .u8) w S' A n c xs->(cvL xs).hit y->iN P o bs w S a cm (y,none):=by
  intro S' A n c xs hv hr hy;obtain⟨hb,hy⟩:=hy;obtain rfl:XV.one _=y:=hy;refine hJ (v:=.string ⟨(u8s xs).toArray⟩) ?_ ⟨rfl,rfl⟩;unfold execOp;simp only[hop,hv,Sem.run_bind,DL h1 h2 h3 (hr.u8s hb),Result.andThen_ok,Sem.run_pure]
 unfold abj at h;split at h
 ·rename_i xs _ hx;obtain⟨A,n,c,hv,hr,_⟩:=bW he hx;exact key hv hr h
 ·rename_i ob hx;split at h
  ·rename_i e rs hH;obtain⟨A,n,c,hv,hr⟩:=aet hs he hx hH;exact key hv hr h
  ·cases h
 ·cases h
end
def xj (x:Option XV):T (XV×Option ah):=T.op (x.map λy=>(y,none))
def O4 (t:T XV):T (XV×Option ah):=t.bind λx=>.lf (x,none)
def pkX (c x y:Option XV):T (XV×Option ah):=match c with
 | some (.one (.val (.bool b)))=>xj (bif b then x else y)
 | some (.one (.sym (.bool b)))=>.br b (xj x) (xj y)
 | _=>.bad
def akL:BinOp->Bool
 | .add|.sub|.mul=>true
 | _=>false
def arB (k:BinOp) (x y:Option XV):Bool:=akL k&&match mY x,mY y with
 | some (.i64,_,c),some (.i64,_,d)=>!(c&&d)
 | _,_=>false
def agH (k:BinOp) (x y:Option XV):Bool:=(match k with|.add=>true|_=>false)&&match zB x,zB y with
 | some (_,c),some (_,d)=>!(c&&d)
 | _,_=>false
def FU (P:Program) (t:TypeId):Bool:=match P.underlying t with
 | some .string=>true
 | _=>false
def IU (P:Program) (t:TypeId):Bool:=match P.underlying t with
 | some (.slice _)=>true
 | _=>false
def Zu (P:Program) (ty:TypeId->Option Ty) (cm:Nat) (t:TypeId) (l c:Option XV):T (XV×Option ah):=match P.underlying t,mY l,mY c with
 | some (.slice e),some (_,n,_),some (_,q,_)=>match P.info? e,ty e,uy P e with
  | some i,some y,some z=>match un y z with
   | some z0=>if i.size=aA.sz (El y)/\i.size=z.length/\0<i.size then .nd (0<=n/\q=n/\n*((i.bytes:Int)+1)<=281474976710656) (.lf (.one (.own cm),some (.row y e (List.replicate n.toNat z0)))) else .bad
   | none=>.bad
  | _,_,_=>.bad
 | _,_,_=>.bad
def XD {P:Program} (ty:TypeId->Option Ty) (D:List (Sm P)) (cm:Nat) (env:Env) (H:List ah) (o:Oper):T (XV×Option ah):=match o.op with
 | .move x|.assign x=>xj (ev env x)
 | .nilCheck x=>xj (ncX (ev env x))
 | .load t x=>xj (ZE P H t (ev env x))
 | .fieldAddr s x i=>xj (aaX P s i (ev env x))
 | .field s x i=>xj (aaV P s i (ev env x))
 | .indexAddr t x i=>O4 (ixX P H t (ev env x) (ev env i))
 | .extract x i=>xj (xtX (ev env x) i)
 | .box t x=>T.op (LY t cm (ev env x))
 | .alloc t=>T.op (LY t cm (ME P t))
 | .build t ps=>xj (abQ P t (kq env ps.toList))
 | .buildSlice t n ps=>T.op (Kj P ty cm t n (kq env ps.toList))
 | .makeSlice t l c=>Zu P ty cm t (ev env l) (ev env c)
 | .slice t x lo hi none=>O4 (slX P t (ev env x) (lo.map (ev env)) (hi.map (ev env)))
 | .index t x i=>if FU P t then O4 (chX (ev env x) (ev env i)) else xj (lY P env o)
 | .convert s t x=>if IV P s t then O4 (abj H (ev env x)) else xj (lY P env o)
 | .pick c x y=>pkX (ev env c) (ev env x) (ev env y)
 | .binOp k t x y _=>if IU P t then xj ((Ud k (ev env x) (ev env y)).orElse λ_=>lY P env o) else if arB k (ev env x) (ev env y) then O4 (arX k (ev env x) (ev env y)) else if agH k (ev env x) (ev env y) then O4 (abF (ev env x) (ev env y)) else if Pn P t then xj ((Ho P k t (ev env x) (ev env y)).orElse λ_=>lY P env o) else xj (lY P env o)
 | .call { callee:=.builtin .len,args:=args,argTypes:=ts }=>match args.toList,ts[0]? with
  | [x],some t=>if IU P t then xj ((UE H (ev env x)).orElse λ_=>(O5 H (ev env x)).orElse λ_=>lY P env o) else xj (lY P env o)
  | _,_=>.bad
 | .call { callee:=.value (.func f),args:=args, .. }=>O4 (WX ty D H f (jt env args.toList))
 | .call { callee:=.value (.tmp t),args:=args, .. }=>match env.lookup t with
  | some (.one (.val (.func (.func f) b c)))=>if b.size=0/\c.size=0 then O4 (WX ty D H f (jt env args.toList)) else .bad
  | some (.one (.clo k o))=>O4 (WX ty D H k ((jt env args.toList).map (·++[.one (.ptr o 0)])))
  | some (.one (.cl k t x))=>O4 (WX ty D H k ((jt env args.toList).map (·++[.one (.ref t x 0)])))
  | _=>.bad
 | .makeMap t none=>T.op (aeG P ty cm t)
 | .makeFunc (.func k) b c=>match b.toList,c.toList with
  | [],[x]=>match ev env x with
   | some (.one (.ptr o 0))=>xj (some (.one (.clo k o)))
   | _=>.bad
  | _,_=>.bad
 | .lookup t x y c=>O4 (lkX P ty H t (ev env x) (ev env y) c)
 | _=>xj (lY P env o)
section
variable {P:Program} {o:Oper} {cx:Cx} {bs aZ:List Value} {w w':World} {S:Nat->Prop} {H:List ah} {m:Nat} {env:Env} {a:Act} {cm:Nat}
theorem Vf {x:Option XV} {r:XV×Option ah} (h:(xj x).hit r):∃y,x=some y/\r=(y,none):=by
 have h:=T.hit_op h;cases x with
 | none=>cases h
 | some y=>injection h with h;exact⟨y,rfl,h.symm⟩
theorem eS {x:Option XV} {r:XV×Option ah} (h:(xj x).hit r) (hk:∀y,x=some y->iN P o bs w S a cm (y,none)):iN P o bs w S a cm r:=by
 obtain⟨y,h1,rfl⟩:=Vf h;exact hk y h1
theorem K6 {t:TypeId} (h:FU P t=true):P.underlying t=some .string:=by
 unfold FU at h;split at h
 ·assumption
 ·cases h
theorem vX {t:TypeId} (h:IU P t=true):((P.underlying t).map λd=>match d with|.slice _=>true|_=>false)=some true:=by
 unfold IU at h;split at h
 ·rename_i e hu;rw[hu];rfl
 ·cases h
theorem Flat.replicate {α:Type} [aA α] {x:α} {cs:List Value} (h:aA.rep w S cs x):∀n,Flat w S (List.replicate n cs).flatten (List.replicate n x)
 | 0=>.nil
 | n+1=>by
  rw[adw,adw,List.flatten_append,List.flatten_singleton];exact .snoc (Flat.replicate h n) h
theorem Uk (hs:HS cx bs w S H) (he:ER m bs w S env a) {ty:TypeId->Option Ty} {t:TypeId} {l c:Operand} (hop:o.op=.makeSlice t l c) {r:XV×Option ah} (h:(Zu P ty cm t (ev env l) (ev env c)).hit r):iN P o bs w S a cm r:=by
 unfold Zu at h;split at h
 ·rename_i e kl n cl kc q cc hu hl hc;split at h
  ·rename_i i y z hi hy hz;split at h
   ·rename_i z0 l9;split at h
    ·rename_i jb;obtain⟨s1,s2,s3⟩:=jb;obtain⟨⟨n0,rfl,n1⟩,h⟩:=h;have h:(XV.one (.own cm),some (ah.row y e (List.replicate q.toNat z0)))=r:=h;subst h;obtain⟨k,rfl⟩:∃k:Nat,q=k:=⟨q.toNat,by omega⟩;obtain⟨i',zv,I3,gD,hf⟩:=nE (bs:=bs) (w:=w) (S:=S) hz;rw[hi] at I3;obtain rfl:=aaj I3;have hn1:k*(i.bytes+1)<=281474976710656:=by
      have:((k*(i.bytes+1):Nat):Int)<=281474976710656:=by rw[Int.natCast_mul];exact n1
      omega
     have nR:i.bytes*k<=281474976710656:=by rw[Nat.mul_add,Nat.mul_one,adm] at hn1;omega
     have gM:k<=281474976710656:=by rw[Nat.mul_add,Nat.mul_one] at hn1;omega
     obtain⟨w',ku,r1,r2⟩:=run_make_full (P:=P) w w.heap.size t e i zv (aA.sz (El y)) hu hi gD s1 kl kc k nR (by unfold maxLen;omega) (aaG _);have xE:=iw he hl;have Qe:=iw he hc;intro K Q hk;unfold Oper.wp execOp;simp only[hop,xE,Qe,Sem.run_bind,ku,Result.andThen_ok,Sem.run_pure,Oper.upon_value];have hb:Below w.heap.size w w':=⟨r2.os,r2.tape,r2.output,r2.size,λb hb=>r2.block b hb (by simp)⟩;have bM:aw S w w':=(aw.of_below hb).sub λb q=>(hs.s b q).1;have aab:aA.rep w S zv.cells.toList z0:=jJ l9 hf;have yE:z.length=zv.cells.size:=hf.length.trans abK;have aaK:(madeCells zv.cells (k*aA.sz (El y))).toList=(List.replicate k zv.cells.toList).flatten:=by
      have:=tz zv.cells.toList (by rw[abK];omega) k;rw[abK,show zv.cells.toList.toArray=zv.cells from acn] at this;rw[<-this,<-s1,s2,yE];rfl
     rw[aaK] at r1;refine hk _ w' S (.slice (some ⟨w.heap.size,0,none⟩) k k) hb (λ_ h=>h) (λ_ h=>.inl h) (λaZ ha hn=>⟨⟨hn rfl,_,_,_,rfl⟩,λx hx=>?_⟩) λx hx b qu=>?_
     ·injection hx with hx
      subst hx;show Own (α:=El y) _ S 0 e _ (List.replicate k z0).reverse;rw[List.reverse_replicate];refine⟨_,?_,Flat.replicate (aA.keep aab (λ_ h=>h) bM) k,λb mz=>⟨abx (hs.s b mz).1 hb.size,λe=>?_⟩⟩
      ·rw[ado];obtain⟨q1,q2⟩:=r1;refine⟨q1,q2.imp id λ⟨g,cap,cur,p1,p2,p3⟩=>⟨g,cap,cur,p1,abz _,p3⟩⟩
      ·have e':b=w.heap.size:=aaj e;have:=(hs.s b mz).1;omega
     ·injection hx with hx
      subst hx;injection qu with qu
      subst qu;exact⟨aaG _,λq=>acL _ (hs.s _ q).1⟩
    ·exact h.elim
   ·exact h.elim
  ·exact h.elim
 ·exact h.elim
theorem AR (hP:IsP P) (hs:HS cx bs w S H) (he:ER m bs w S env a) {ty:TypeId->Option Ty} {D:List (Sm P)} {r:XV×Option ah} (h:(XD ty D cm env H o).hit r):iN P o bs w S a cm r:=by
 have pu:(xj (lY P env o)).hit r->iN P o bs w S a cm r:=λh=>eS h λy hy=>pR he hy;unfold XD at h;split at h
 ·rename_i x hop;exact eS h λy hy=>OE he (.inl hop) hy
 ·rename_i x hop;exact eS h λy hy=>OE he (.inr hop) hy
 ·rename_i x hop;exact eS h λy hy=>Zo he hop hy
 ·rename_i t x hop;exact eS h λy hy=>ZD hs he hop hy
 ·rename_i s x i hop;exact eS h λy hy=>VE he hop hy
 ·rename_i s x i hop;exact eS h λy hy=>VB he hop hy
 ·rename_i t x i hop;exact iN.of_hit h λy hy=>ZU hs he hop hy
 ·rename_i x i hop;exact eS h λy hy=>Yg he hop hy
 ·rename_i t x hop;exact Wa hs he hop (T.hit_op h)
 ·rename_i t hop;exact Wo hs hop (T.hit_op h)
 ·rename_i t ps hop;exact eS h λy hy=>Wg he hop hy
 ·rename_i t n ps hop;exact Tz hs he hop (T.hit_op h)
 ·rename_i t l c hop;exact Uk hs he hop h
 ·rename_i t x lo hi hop;exact iN.of_hit h λy hy=>Yx he hop hy
 ·rename_i t x i hop;split at h
  ·rename_i ht;exact iN.of_hit h λy hy=>abE he hop (K6 ht) hy
  ·exact pu h
 ·rename_i s t x hop;split at h
  ·rename_i ht;exact iN.of_hit h λy hy=>VP hs he hop ht hy
  ·exact pu h
 ·rename_i c x y hop;have fin:∀{b:Bool} {z:XV},a.eval c=.bool b->(bif b then ev env x else ev env y)=some z->iN P o bs w S a cm (z,none):=by
   intro b z hc hz;refine hJ (v:=bif b then a.eval x else a.eval y) ?_ ?_
   ·unfold execOp;cases b<;>simp[hop,hc,asBool]
   ·cases b with
    | true=>exact bW he hz
    | false=>exact bW he hz
  unfold pkX at h;split at h
  ·rename_i b hb;exact eS h λz hz=>fin (bW he hb).1 hz
  ·rename_i b hb;have hc:=(bW he hb).1;cases b with
   | true=>exact eS (h.1 rfl) λz hz=>fin hc hz
   | false=>exact eS (h.2 rfl) λz hz=>fin hc hz
  ·exact h.elim
 ·rename_i k t x y u hop;split at h
  ·rename_i fm;refine eS h λz hz=>?_;cases e:Ud k (ev env x) (ev env y) with
   | none=>rw[e] at hz;exact pR he hz
   | some q=>
    rw[e] at hz;injection hz with hz
    subst hz;exact Uc he hop (vX fm) e
  split at h
  ·exact iN.of_hit h λz hz=>abY he hop hz
  ·split at h
   ·rename_i hc;have hk:k=.add:=by
     unfold agH at hc;cases k<;>first|rfl|cases hc
    subst hk;exact iN.of_hit h λz hz=>V5 he hop hz
   ·split at h
    ·rename_i eu;refine eS h λz hz=>?_;cases e:Ho P k t (ev env x) (ev env y) with
     | none=>rw[e] at hz;exact pR he hz
     | some q=>
      rw[e] at hz;injection hz with hz
      subst hz;exact Nu he hop eu e
    ·exact pu h
 ·rename_i args ts hop;split at h
  ·rename_i x t hx ht;split at h
   ·rename_i fm;refine eS h λy hy=>?_;cases e:UE H (ev env x) with
    | none=>
     rw[e] at hy;have hy:((O5 H (ev env x)).orElse λ_=>lY P env o)=some y:=hy;cases e2:O5 H (ev env x) with
     | none=>rw[e2] at hy;exact pR he hy
     | some z=>
      rw[e2] at hy;injection hy with hy
      subst hy;have Dj:args=#[x]:=by rw[<-acn (xs:=args),hx]
      rw[Dj] at hop;exact UG hs he hop ht (vX fm) e2
    | some z=>
     rw[e] at hy;injection hy with hy
     subst hy;have Dj:args=#[x]:=by rw[<-acn (xs:=args),hx]
     rw[Dj] at hop;exact UD hs he hop ht (vX fm) e
   ·exact pu h
  ·exact h.elim
 ·rename_i f args ts hop;exact iN.of_hit h λy hy=>Y5 hs he hop hy
 ·rename_i t args ts hop;split at h
  ·rename_i f b c hf;split at h
   ·rename_i hbc;obtain rfl:=acp hbc.1;obtain rfl:=acp hbc.2;have hv:=(sg he hf).1;exact iN.of_hit h λy hy=>vf (cap:=#[]) hs (λxs hx=>by rw[Array.toList_empty,acx];exact je he hx) hv hop hy
   ·exact h.elim
  ·rename_i k ob hf;obtain⟨g,hg,hv⟩:=sg he hf;refine iN.of_hit h λy hy=>vf (cap:=#[.pointer (some ⟨g,0,none⟩)]) hs (λxs hx=>?_) hv hop hy;cases e:jt env args.toList with
   | none=>rw[e] at hx;cases hx
   | some l=>
    rw[e] at hx;injection hx with hx
    subst hx;exact F2.append (je he e) (.cons ⟨g,hg,rfl⟩ .nil)
  ·rename_i k tx x hf;obtain⟨b,cs,hb,hv,hr,hc⟩:=sg he hf;refine iN.of_hit h λy hy=>vf (cap:=#[.pointer (some ⟨b,0,none⟩)]) hs (λxs hx=>?_) hv hop hy;cases e:jt env args.toList with
   | none=>rw[e] at hx;cases hx
   | some l=>
    rw[e] at hx;injection hx with hx
    subst hx;exact F2.append (je he e) (.cons ⟨b,0,cs,hb,rfl,hr,hc⟩ .nil)
  ·exact h.elim
 ·rename_i t hop;exact Uh hs hop (T.hit_op h)
 ·rename_i k b c hop;split at h
  ·rename_i x hb hc;split at h
   ·rename_i o hx;refine eS h λy hy=>?_;injection hy with hy
    subst hy;obtain⟨g,hg,hv⟩:=bW he hx;have hb:b=#[]:=by rw[<-acn (xs:=b),hb]
    have hc:c=#[x]:=by rw[<-acn (xs:=c),hc]
    subst hb hc;refine hJ (v:=.func (.func k) #[] #[a.eval x]) ?_ ⟨g,hg,by rw[hv]⟩;unfold execOp;simp[hop,Instr.makeFunc]
   ·exact h.elim
  ·exact h.elim
 ·rename_i t x y c hop;exact iN.of_hit h λy hy=>Zx hs he hP hop hy
 ·exact pu h
end
end Go.Proofs.YtdbpbfglhbiadaaGreatDoor
