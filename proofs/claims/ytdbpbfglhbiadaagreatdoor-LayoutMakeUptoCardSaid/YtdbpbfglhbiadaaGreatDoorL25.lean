/- MOp5 MOp6 MOp7 MGop -/
import Derived.Test.YtdbpbfglhbiadaaGreatDoorL00
import Derived.Test.YtdbpbfglhbiadaaGreatDoorL24
import Derived.Laws.StructEq
import Derived.ChangeKeysEq
set_option maxHeartbeats 8000000
set_option maxRecDepth 100000
namespace Go.Proofs.YtdbpbfglhbiadaaGreatDoor
open Go Go.RowKit
def AY:Option XV→Option (ByteArray×Bool)
 | some (.one (.val (.string s)))=>some (s,true)
 | some (.one (.sym (.string s)))=>some (s,false)
 | _=>none
def chX (x i:Option XV):T XV:=match AY x,oC i with
 | some (s,_),some (_,n,_)=>.nd (0≤n∧n<(s.size:Int)) (.lf (.one (.sym (.int .u8 ((s.data.toList.getD n.toNat 0).toNat:Int)))))
 | _,_=>.bad
def abr (x y:Option XV):T XV:=match AY x,AY y with
 | some (s,c),some (u,d)=>if c&&d then .bad else .nd ((s.size+u.size:Nat)≤9223372036854775807) (.lf (.one (.sym (.string (s++u)))))
 | _,_=>.bad
def Rf (d:Int) (x:Option (Option XV)):Option Int:=match x with
 | none=>some d
 | some i=>(oC i).map (·.2.1)
def slX (P:Program) (t:TypeId) (x:Option XV) (lo hi:Option (Option XV)):T XV:=match AY x,x with
 | some (s,_),_=>if((P.underlying t).map fun d=>match d with|.string=>true|_=>false)==some true then match Rf 0 lo,Rf s.size hi with
  | some l,some h=>.nd (0≤l∧l≤h∧h≤(s.size:Int)) (.lf (.one (.sym (.string (s.extract l.toNat h.toNat)))))
  | _,_=>.bad
  else .bad
 | none,some (.one (.list ty xs _))=>if(Tg P t).map (·.2)==some (aF.sz (El ty)) then match Rf 0 lo,Rf xs.length hi with
  | some l,some h=>.nd (0≤l∧l≤h∧h≤(xs.length:Int)) (.lf (.one (.list ty ((xs.take h.toNat).drop l.toNat) false)))
  | _,_=>.bad
  else .bad
 | _,_=>.bad
section
variable {P:Program} {o:Oper} {cx:Cx} {bs:List Value} {w:World} {S:Nat→Prop} {H:List ai} {m:Nat} {env:Env} {a:Act} {cZ:Nat}
theorem rp (he:ER m bs w S env a) {x:Operand} {s:ByteArray} {c:Bool} (h:AY (ev env x)=some (s,c)):a.eval x=.string s:=by
 unfold AY at h;split at h
 ·rename_i u e;injection h with h;injection h with h1 h2
  subst h1;exact(cN he e).1
 ·rename_i u e;injection h with h;injection h with h1 h2
  subst h1;exact(cN he e).1
 ·cases h
theorem abq (he:ER m bs w S env a) {t:TypeId} {x i:Operand} (hop:o.op=.index t x i) (hu:P.underlying t=some .string) {y:XV} (h:(chX (ev env x) (ev env i)).hit y):jR P o bs w S a cZ (y,none):=by
 unfold chX at h;split at h
 ·rename_i s c k n c2 hx hi;obtain⟨⟨h0,h1⟩,h⟩:=h;have h:XV.one _=y:=h;subst h;have hx':=rp he hx;have Jo:=jb he hi;have hlt:n.toNat<s.size:=by omega
  have gS:s[n.toNat]?=some (s.data.toList.getD n.toNat 0):=by
   rw[getElem?_pos s n.toNat hlt,aai];have:n.toNat<s.data.toList.length:=by simpa using hlt
   rw[aae this];rfl
  refine jd (v:=.int .u8 ((s.data.toList.getD n.toNat 0).toNat:Int)) ?_ ⟨rfl,rfl⟩;unfold execOp;simp only[hop,hx',Jo,Instr.index,asIntOf,Sem.run_bind,Sem.run_pure,Result.andThen_ok,run_underlying hu w,h0,if_true,gS]
 ·exact h.elim
theorem VC (he:ER m bs w S env a) {t u:TypeId} {x y:Operand} (hop:o.op=.binOp .add t x y u) {z:XV} (h:(abr (ev env x) (ev env y)).hit z):jR P o bs w S a cZ (z,none):=by
 unfold abr at h;split at h
 ·rename_i s c v d hx hy;split at h
  ·exact h.elim
  ·obtain⟨h1,h⟩:=h;have h:XV.one _=z:=h;subst h;refine jd (v:=.string (s++v)) ?_ ⟨rfl,rfl⟩;have hx':=rp he hx;have MA:=rp he hy;have hm:¬((s.size+v.size:Nat):Int)>IntKind.i64.max:=by
    have:IntKind.i64.max=9223372036854775807:=by decide
    omega
   unfold execOp;simp only[hop,hx',MA,eqGuard,binOp,Op.stringOp,hm,Sem.run_bind,Sem.run_pure,if_false];rfl
 ·exact h.elim
theorem vU (he:ER m bs w S env a) {d l:Int} {x:Option Operand} (h:Rf d (x.map (ev env))=some l):(x=none∧l=d)∨∃y k,x=some y∧a.eval y=.int k l:=by
 cases x with
 | none=>injection h with h;exact .inl ⟨rfl,h.symm⟩
 | some y=>
  right
  have h:(oC (ev env y)).map (·.2.1)=some l:=h;cases e:oC (ev env y) with
  | none=>rw[e] at h;cases h
  | some p=>
   obtain⟨k,n,c⟩:=p;rw[e] at h;injection h with h
   subst h;exact⟨y,k,rfl,jb he e⟩
theorem XU (he:ER m bs w S env a) {t:TypeId} {x:Operand} {lo hi:Option Operand} (hop:o.op=.slice t x lo hi none) {y:XV} (h:(slX P t (ev env x) (lo.map (ev env)) (hi.map (ev env))).hit y):jR P o bs w S a cZ (y,none):=by
 unfold slX at h;split at h
 ·rename_i s c hx;split at h
  ·rename_i hu;split at h
   ·rename_i l q hl hq;obtain⟨⟨h0,h1,h2⟩,h⟩:=h;have h:XV.one _=y:=h;subst h;have hx':=rp he hx;have vO:P.underlying t=some .string:=by
     cases hd:P.underlying t with
     | none=>rw[hd] at hu;cases hu
     | some d=>rw[hd] at hu;cases d<;>first|rfl|cases hu
    refine jd (v:=.string (s.extract l.toNat q.toNat)) ?_ ⟨rfl,rfl⟩;have e1:(q.toNat:Int)=q:=Int.toNat_of_nonneg (by omega);unfold execOp;rcases vU he hl with⟨rfl,rfl⟩|⟨y1,k1,rfl,g1⟩<;>rcases vU he hq with⟨rfl,rfl⟩|⟨y2,k2,rfl,g2⟩
    ·simp[hop,hx',Instr.sliceAt,Instr.slice,run_underlying vO,Instr.sliceBounds]
    ·simp[hop,hx',g2,Instr.sliceAt,Instr.slice,run_underlying vO,Instr.sliceBounds,run_sliceBound,h2,(by omega:0≤q)]
    ·simp[hop,hx',g1,Instr.sliceAt,Instr.slice,run_underlying vO,Instr.sliceBounds,run_sliceBound,h0,h1]
    ·simp[hop,hx',g1,g2,Instr.sliceAt,Instr.slice,run_underlying vO,Instr.sliceBounds,run_sliceBound,h0,h1,h2,e1,(by omega:0≤q)]
   ·exact h.elim
  ·exact h.elim
 ·rename_i ty xs _ _ hx;split at h
  ·rename_i fU;split at h
   ·rename_i l q hl hq;obtain⟨⟨h0,h1,h2⟩,h⟩:=h;have h:XV.one _=y:=h;subst h;obtain⟨e,j,hu,hj,jM⟩:=Bb fU;obtain⟨A,n,c,hv,hr,_⟩:=cN he hx;have bG:=hr.len;have lP:=hr.cap.1;have hR:=(hr.take (k:=q.toNat) (by omega)).drop (k:=l.toNat) (by omega);refine jd (v:=.slice (if c=l.toNat then A else A.map (·.add (l.toNat*j.size))) (q.toNat-l.toNat) (c-l.toNat)) ?_ ⟨_,_,_,rfl,by rw[jM];exact hR,fun e=>by cases e⟩;have e1:(q.toNat:Int)=q:=Int.toNat_of_nonneg (by omega);have e3:q≤(c:Int):=by omega
    unfold execOp;rcases vU he hl with⟨rfl,rfl⟩|⟨y1,k1,rfl,g1⟩<;>rcases vU he hq with⟨rfl,rfl⟩|⟨y2,k2,rfl,g2⟩
    ·simp[hop,hv,Instr.sliceAt,Instr.slice,run_underlying hu,Instr.sliceBounds,sizeOf,typeInfo,hj,bG]
    ·simp[hop,hv,g2,Instr.sliceAt,Instr.slice,run_underlying hu,Instr.sliceBounds,run_sliceBound,sizeOf,typeInfo,hj,e3,(by omega:0≤q)]
    ·simp[hop,hv,g1,Instr.sliceAt,Instr.slice,run_underlying hu,Instr.sliceBounds,run_sliceBound,sizeOf,typeInfo,hj,h0,(by omega:l≤(n:Int)),bG]
    ·simp[hop,hv,g1,g2,Instr.sliceAt,Instr.slice,run_underlying hu,Instr.sliceBounds,run_sliceBound,sizeOf,typeInfo,hj,h0,h1,e1,e3,(by omega:0≤q)]
   ·exact h.elim
  ·exact h.elim
 ·exact h.elim
end
theorem F2.mapL {α β γ:Type} {R:α→β→Prop} {R':γ→β→Prop} {f:α→γ} {l:List α} {m:List β} (h:F2 R l m) (hr:∀x∈l,∀y,R x y→R' (f x) y):F2 R' (l.map f) m:=by
 induction h with
 | nil=>exact .nil
 | cons h _ ih=>exact .cons (hr _ aaw _ h) (ih fun x hx=>hr x (aaN _ hx))
def AV.free:AV→Bool
 | .val _|.sym _|.list _ _ _|.ref _ _ _|.map _ _ _|.cl _ _ _=>true
 | _=>false
def XV.free:XV→Bool
 | .one a=>a.free
 | .agg cs=>cs.all AV.free
 | .tup l=>l.all fun p=>p.2.all AV.free
def AV.plain:AV→Bool
 | .val _|.sym _=>true
 | _=>false
def v7 (H:List ai) (o:Nat):ai→Option AV
 | .mq q=>match H[q]? with
  | some (.mr p kt t _ _ f)=>if p=o then some (.map kt (.list t) fun k=>(f k).map List.reverse) else none
  | _=>none
 | y=>kx y
def nY (H:List ai):AV→AV
 | .own o=>((H[o]?).bind (v7 H o)).getD (.own o)
 | .mp o=>((H[o]?).bind (v7 H o)).getD (.mp o)
 | .mrow q kt k=>match H[q]? with
  | some (.mr _ lu t _ _ f)=>match Kt.eq? lu kt with
   | some h=>.list t (((h.down▸f:kt.K→Option (List (El t))) k).getD []).reverse false
   | none=>.mrow q kt k
  | _=>.mrow q kt k
 | a=>a
def Wn (H:List ai):XV→XV
 | .one a=>.one (nY H a)
 | .agg cs=>.agg (cs.map (nY H))
 | x=>x
def nW (ty:TypeId→Option Ty) (H:List ai):XV→XV
 | .one (.ptr o off)=>match H[o]? with
  | some (.cells tid cs)=>match ty tid with
   | some (.st k)=>match un (.st k) (cs.map (nY H)) with
    | some x=>.one (.ref (.st k) x off)
    | none=>.one (.ptr o off)
   | _=>.one (.ptr o off)
  | _=>.one (.ptr o off)
 | .one (.clo k o)=>match H[o]? with
  | some (.cells tid [c])=>match ty tid with
   | some t=>match un t [nY H c] with
    | some x=>.one (.cl k t x)
    | none=>.one (.clo k o)
   | none=>.one (.clo k o)
  | _=>.one (.clo k o)
 | x=>Wn H x
def av (P:Program) (f:FuncId) (al:Bool) (F:List XV→T XV):Prop:=
 ∀(w:World) (S:Nat→Prop) (xs:List XV) (vs:List Value) (r:XV),Wd w→(∀b,S b→b<w.heap.size)→F2 (XR [] w S) xs vs→(F xs).hit r→
  Calls P f vs.toArray w fun e w'=>∃v S',e=.returned v∧Below w.heap.size w w'∧(∀b,S' b→(al=true∧S b)∨(w.heap.size≤b∧b<w'.heap.size))∧XR [] w' S' r v
structure Sm (P:Program) where
 f:FuncId
 al:Bool
 F:List XV→T XV
 ok:av P f al F
def Qz (P:Program) (f:FuncId):Bool:=match P.funcs[f]? with
 | some fn=>!(fn.name== "runtime.NumGoroutine")&&fn.body.isSome
 | none=>false
def ka (env:Env):List Operand→Option (List XV)
 | []=>some []
 | x::l=>match ev env x,ka env l with
  | some y,some r=>some (y::r)
  | _,_=>none
def AV.mine:AV→Bool
 | .own _|.mp _|.mrow _ _ _|.ptr _ _|.clo _ _=>true
 | _=>false
def TB:XV→Bool
 | .one a=>a.mine
 | .agg cs=>cs.any AV.mine
 | _=>false
def Wx {P:Program} (ty:TypeId→Option Ty) (D:List (Sm P)) (H:List ai) (f:FuncId) (xs:Option (List XV)):T XV:=match xs,D.find? (fun s=>s.f==f) with
 | some xs,some s=>if Qz P f&&(xs.map (nW ty H)).all XV.free&&!(s.al&&xs.any TB) then(s.F (xs.map (nW ty H))).bind fun x=>if x.free then .lf x else .bad else .bad
 | _,_=>.bad
section
variable {P:Program} {o:Oper} {cx:Cx} {bs bn:List Value} {w:World} {S:Nat→Prop} {H:List ai} {m:Nat} {env:Env} {a:Act} {cZ:Nat}
theorem VR.free {x:AV} {v:Value} (hf:x.free=true) (h:VR bs w S x v):VR bn w S x v:=by
 cases x with
 | val u=>exact h
 | sym u=>exact h
 | list t xs q=>exact h
 | ref t x off=>exact h
 | map kt t f=>exact h
 | cl k t x=>exact h
 | _=>cases hf
theorem CR.free {ag:Bool} {cs:List AV} {v:Value} (hf:cs.all AV.free=true) (h:CR bs w S ag cs v):CR bn w S ag cs v:=by
 have hc:=aaR.1 hf;have key:∀{cs:List AV} {vs:List Value},(∀x∈cs,x.free=true)→F2 (VR bs w S) cs vs→F2 (VR bn w S) cs vs:=by
  intro cs vs hc hf;induction hf with
  | nil=>exact .nil
  | cons h _ ih=>exact .cons (VR.free (hc _ aaw) h) (ih fun x hx=>hc x (aaN _ hx))
 unfold CR at h ⊢;cases ag with
 | true=>obtain⟨vs,e,h⟩:=h;exact⟨vs,e,key hc h⟩
 | false=>obtain⟨x,rfl,h⟩:=h;exact⟨x,rfl,VR.free (hc x aaw) h⟩
theorem XR.free {x:XV} {v:Value} (hf:x.free=true) (h:XR bs w S x v):XR bn w S x v:=by
 cases x with
 | one b=>exact VR.free hf h
 | agg cs=>exact CR.free hf h
 | tup l=>
  obtain⟨vs,e,h⟩:=h;refine⟨vs,e,?_⟩;have hc:=aaR.1 hf;clear e;induction h with
  | nil=>exact .nil
  | @cons p _ _ _ h _ ih=>exact .cons (CR.free (hc p aaw) h) (ih (aaR.2 fun x hx=>hc x (aaN _ hx)) fun x hx=>hc x (aaN _ hx))
def Hy (bs:List Value) (H:List ai) (S:Nat→Prop) (b:Nat):Prop:=S b∨∃(i:Nat) (x:ai) (v:Value),H[i]?=some x∧bs[i]?=some v∧Bk x v b
theorem M7 (hs:HS cx bs w S H) {o:Nat} {y:ai} {x:AV} {v:Value} (hH:H[o]?=some y) (hx:v7 H o y=some x) (hv:bs[o]?=some v):VR bs w (Hy bs H S) x v:=by
 have hB:∀c,Bk y v c→Hy bs H S c:=fun c hc=>.inr ⟨o,y,v,hH,hv,hc⟩;cases y with
 | mq q=>
  unfold v7 at hx;dsimp only at hx;split at hx
  ·rename_i p kt t e n f hq;split at hx
   ·rename_i hp;injection hx with hx
    subst hp hx;have Jk:q<bs.length:=by rw[hs.len];exact(aag.1 hq).1
    have lT:=hs.o q _ _ hq (aae Jk);have hBq:∀c,yA kt (fun _=>False) bs[q] c→Hy bs H S c:=fun c hc=>.inr ⟨q,_,_,hq,aae Jk,hc⟩;obtain⟨b,l,g,e1,h1,h2,h3,h4,_⟩:=lT;rw[hv] at h1;injection h1 with h1
    subst h1;rw[e1] at hBq;refine .inr ⟨b,n,g,rfl,hBq b ⟨b,l,rfl,.inl rfl⟩,h2,fun k=>?_⟩;have:=h4 k id;cases hf:f k with
    | none=>rw[hf] at this;show yw w _ ((f k).map List.reverse) _;rw[hf];exact this
    | some xs=>
     rw[hf] at this;obtain⟨u,hu,ho⟩:=this;obtain⟨A,m,c,rfl,hr⟩:=wS ho (fun b h=>(.inl h:Hy bs H S b)) fun c hc=>hBq c ⟨b,l,rfl,.inr ⟨k,u,id,(h3 k u).1 hu,hc⟩⟩;show yw w _ ((f k).map List.reverse) _;rw[hf];exact⟨_,hu,A,m,c,rfl,hr⟩
   ·cases hx
  ·cases hx
 | _=>exact wi (hs.o o _ v hH hv) hx (fun _ h=>.inl h) hB
theorem nX (hs:HS cx bs w S H) {x:AV} {v:Value} (h:VR bs w S x v):VR bs w (Hy bs H S) (nY H x) v:=by
 have up:VR bs w (Hy bs H S) x v:=h.keep (fun _ h=>.inl h) (aA.refl _ _) (jB.refl _);have one:∀o,nl x=some o→nY H x=((H[o]?).bind (v7 H o)).getD x→VR bs w (Hy bs H S) (nY H x) v:=by
  intro o ho e;rw[e];cases hH:H[o]? with
  | none=>exact up
  | some y=>
   show VR bs w _ ((v7 H o y).getD x) v;cases hx:v7 H o y with
   | none=>exact up
   | some z=>exact M7 hs hH hx (wV h ho)
 cases x with
 | own i=>exact one i rfl rfl
 | mp i=>exact one i rfl rfl
 | mrow q kt k=>
  show VR bs w _ (match H[q]? with|some (.mr _ lu t _ _ f)=>(match Kt.eq? lu kt with|some h=>AV.list t (((h.down▸f:kt.K→Option (List (El t))) k).getD []).reverse false|none=>.mrow q kt k)|_=>.mrow q kt k) v;split
  ·rename_i p lu t e n f hq;split
   ·rename_i hk _;obtain⟨rfl⟩:=hk;obtain⟨b,l,hb,hv,fU⟩:=h;have hB:∀c,yA lu (fun _=>False) (uk b l) c→Hy bs H S c:=fun c hc=>.inr ⟨q,_,_,hq,hb,hc⟩;obtain⟨b',l',g,e1,h1,h2,h3,h4,_⟩:=hs.o q _ _ hq hb;obtain⟨rfl,rfl⟩:=mJ e1;have:=h4 k id;show VR bs w _ (.list t ((f k).getD []).reverse false) v;cases hf:f k with
    | none=>
     rw[hf] at this;rcases hv with hv|⟨rfl,_⟩
     ·rw[←h3] at hv;rw[hv] at this;cases this
     ·exact⟨none,0,0,rfl,RS.nil _ _,fun e=>by cases e⟩
    | some xs=>
     rw[hf] at this;obtain⟨u,hu,ho⟩:=this;have hm:=(h3 k u).1 hu;rcases hv with hv|⟨_,hv⟩
     ·rw[←h3,hu] at hv;injection hv with hv
      subst hv;obtain⟨A,m,c,rfl,hr⟩:=wS ho (fun b h=>(.inl h:Hy bs H S b)) fun c hc=>hB c ⟨b,l,rfl,.inr ⟨k,_,id,hm,hc⟩⟩;exact⟨A,m,c,rfl,hr,fun e=>by cases e⟩
     ·exact absurd hm (hv u)
   ·exact up
  ·exact up
 | _=>exact up
theorem M0 (hs:HS cx bs w S H) {x:XV} {v:Value} (h:XR bs w S x v):XR bs w (Hy bs H S) (Wn H x) v:=by
 cases x with
 | one b=>exact nX hs h
 | agg cs=>
  obtain⟨vs,e,h⟩:=h;exact⟨vs,e,h.mapL fun _ _ _ h=>nX hs h⟩
 | tup l=>exact h.keep (fun _ h=>.inl h) (aA.refl _ _) (jB.refl _)
theorem CJ (hs:HS cx bs w S H) {ty:TypeId→Option Ty} {x:XV} {v:Value} (h:XR bs w S x v):XR bs w (Hy bs H S) (nW ty H x) v:=by
 have up:XR bs w (Hy bs H S) x v:=h.keep (fun _ h=>.inl h) (aA.refl _ _) (jB.refl _);unfold nW;split
 ·rename_i o off;split
  ·rename_i tid cs hH;split
   ·rename_i k _;split
    ·rename_i x hx;obtain⟨g,hb,rfl⟩:=h;obtain⟨g',vs,e,hk,hf⟩:=hs.o o _ _ hH hb;injection e with e
     injection e with e
     injection e with e
     subst e;exact⟨g,0,vs,.inr ⟨o,_,_,hH,hb,rfl⟩,by rw[ab7],kz hx (hf.mapL fun _ _ _ h=>nX hs h),fun j u hj=>by rw[addr_add,ab7,hk.cell];simpa using hj⟩
    ·exact up
   ·exact up
  ·exact up
 ·rename_i k o;split
  ·rename_i tid c hH;split
   ·rename_i t _;split
    ·rename_i x hx;obtain⟨g,hb,rfl⟩:=h;obtain⟨g',vs,e,hk,hf⟩:=hs.o o _ _ hH hb;injection e with e
     injection e with e
     injection e with e
     subst e;cases hf with
     | @cons _ u _ _ h1 h2=>
      cases h2
      exact⟨g,[u],.inr ⟨o,_,_,hH,hb,rfl⟩,rfl,kz hx (.cons (nX hs h1) .nil),fun j u hj=>by rw[addr_add,ab7,hk.cell];simpa using hj⟩
    ·exact up
   ·exact up
  ·exact up
 ·exact M0 hs h
theorem FM {a:AV} (h:a.mine=false):nY H a=a:=by
 cases a<;>first|rfl|cases h
theorem FL {ty:TypeId→Option Ty} {x:XV} (h:TB x=false):nW ty H x=x:=by
 cases x with
 | one b=>cases b<;>first|rfl|cases h
 | agg cs=>
  replace h:cs.any AV.mine=false:=h;have:cs.map (nY H)=cs:=by
   revert h
   induction cs with
   | nil=>intro _;rfl
   | cons c l ih=>
    intro h;rw[acL,Bool.or_eq_false_iff] at h;rw[acg,ih h.2,FM h.1]
  show XV.agg (cs.map (nY H))=_;rw[this]
 | tup l=>rfl
theorem jP (he:ER m bs w S env a):∀{l:List Operand} {r:List XV},ka env l=some r→F2 (XR bs w S) r (l.map a.eval)
 | [],r,h=>by injection h with h;subst h;exact .nil
 | x::l,r,h=>by
  unfold ka at h;split at h
  ·rename_i y r' h1 h2;injection h with h
   subst h;exact .cons (cN he h1) (jP he h2)
  ·cases h
theorem mV {f:FuncId} {args:Array Value} (h:Qz P f=true):(callFunc f args).run P w=.ok (.enter f args) w:=by
 unfold Qz at h;cases hf:P.funcs[f]? with
 | none=>rw[hf] at h;cases h
 | some fn=>
  rw[hf] at h;simp only[aaI,aco] at h;have hb:fn.body.isNone=false:=by cases hb:fn.body<;>simp_all
  unfold callFunc;have:(program:Sem Program).run P w=.ok P w:=rfl;simp only[Sem.run_bind,this,Result.andThen_ok,hf,h.1,abs,if_false,hb,Sem.run_pure]
theorem T.hit_free {t:T XV} {r:XV} (h:(t.bind fun x=>if x.free then .lf x else .bad).hit r):t.hit r∧r.free=true:=by
 obtain⟨q,h1,h2⟩:=T.hit_bind h;split at h2
 ·rename_i hf;have h2:q=r:=h2;subst h2;exact⟨h1,hf⟩
 ·exact h2.elim
theorem wQ (hs:HS cx bs w S H) {ty:TypeId→Option Ty} {D:List (Sm P)} {f:FuncId} {args:Array Operand} {ts:Array TypeId} {ql:Option (List XV)} {cap:Array Value} (hq:∀xs,ql=some xs→F2 (XR bs w S) xs (args.toList.map a.eval++cap.toList)) {x:Operand} (hev:a.eval x=.func (.func f) #[] cap) (hop:o.op=.call { callee:=.value x,args:=args,argTypes:=ts }) {y:XV} (h:(Wx ty D H f ql).hit y):jR P o bs w S a cZ (y,none):=by
 unfold Wx at h;split at h
 ·rename_i xs s hd;split at h
  ·rename_i hc;simp only[aaI,aco,Bool.and_eq_false_iff] at hc;obtain⟨⟨hf,xI⟩,hal⟩:=hc;obtain⟨h,hyf⟩:=T.hit_free h;have hsf:s.f=f:=by have:=List.find?_some hd;simpa using this
   have ha:=hq xs rfl;have hS1:∀b,Hy bs H S b→b<w.heap.size:=fun b hb=>by
    rcases hb with hb|⟨i,x,v,h1,h2,h3⟩
    ·exact(hs.s b hb).1
    ·exact(hs.o i x v h1 h2).lt h3
   have key:∃S1:Nat→Prop,(∀b,S1 b→b<w.heap.size)∧(s.al=true→∀b,S1 b→S b)∧F2 (XR [] w S1) (xs.map (nW ty H)) (args.toList.map a.eval++cap.toList):=by
    have nC:∀x∈xs,(nW ty H x).free=true:=fun x hx=>aaR.1 xI _ (List.mem_map_of_mem hx);rcases hal with hal|hal
    ·refine⟨Hy bs H S,hS1,(fun e=>by rw[hal] at e;cases e),?_⟩;exact ha.mapL fun x hx v h1=>XR.free (nC x hx) (CJ hs h1)
    ·refine⟨S,fun b hb=>(hs.s b hb).1,fun _ b hb=>hb,?_⟩;have Lw:∀x∈xs,TB x=false:=fun x hx=>by
      have:=List.any_eq_false.1 hal x hx;simpa using this
     exact ha.mapL fun x hx v h1=>by
      have h3:=nC x hx;rw[FL (Lw x hx)] at h3 ⊢;exact XR.free h3 h1
   obtain⟨S1,k1,k2,k3⟩:=key;have bT:=s.ok w S1 _ _ y hs.wd k1 k3 h;rw[hsf] at bT;intro K Q hk;unfold Oper.wp execOp;have si:(args.toList.map a.eval++cap.toList).toArray=args.map a.eval++cap:=by
    rw[←acZ,←Array.toList_append]
   simp only[hop,resolve,hev,Deferred.ofValue,Sem.run_bind,Sem.run_pure,Result.andThen_ok,invoke,Array.empty_append,mV hf,Oper.upon_enter];rw[←si];refine bT.mono fun e w' Ai=>?_;obtain⟨v,S',rfl,hb,qN,hr⟩:=Ai;refine hk v w' (fun b=>S b∨S' b) undef hb (fun _ h=>.inl h) (fun b h=>?_) (fun bn _ _=>⟨?_,fun _ e=>by cases e⟩) fun _ e=>by cases e
   ·rcases h with h|h
    ·exact .inl h
    ·rcases qN b h with⟨h1,h2⟩|h2
     ·exact .inl (k2 h1 b h2)
     ·exact .inr h2
   ·exact(XR.free hyf hr).keep (fun _ h=>.inr h) (aA.refl _ _) (jB.refl _)
  ·exact h.elim
 ·exact h.elim
theorem YM (hs:HS cx bs w S H) (he:ER m bs w S env a) {ty:TypeId→Option Ty} {D:List (Sm P)} {f:FuncId} {args:Array Operand} {ts:Array TypeId} (hop:o.op=.call { callee:=.value (.func f),args:=args,argTypes:=ts }) {y:XV} (h:(Wx ty D H f (ka env args.toList)).hit y):jR P o bs w S a cZ (y,none):=wQ (cap:=#[]) hs (fun _ hx=>by rw[Array.toList_empty,acn];exact jP he hx) rfl hop h
end
class IsP (P:Program):Prop where
 eq:P=Tryz.prog
instance:IsP Tryz.prog:=⟨rfl⟩
def Zz (k:TypeId):Option Kt:=if k=Kt.id .s then some .s else if k=Kt.id .i then some .i else none
theorem Uu {k:TypeId} {kt:Kt} (h:Zz k=some kt):k=kt.id:=by
 unfold Zz at h;split at h
 ·rename_i e;injection h with h;rw[←h];exact e
 ·split at h
  ·rename_i e;injection h with h;rw[←h];exact e
  ·cases h
structure abU where
 kt:Kt
 y:Ty
 zv:Value
 z0:El y
def OU (P:Program) (ty:TypeId→Option Ty) (t:TypeId):Option abU:=match P.underlying t with
 | some (.map k e)=>match Zz k,ty e,(P.info? e).bind (·.zero) with
  | some kt,some y,some zv=>if zv.oneCell'&&y.one then(Ng y (.val zv)).map fun z0=>⟨kt,y,zv,z0⟩ else none
  | _,_,_=>none
 | _=>none
def ZA:(kt:Kt)→Option XV→Option kt.K
 | .s,x=>(AY x).map (·.1)
 | .i,x=>match oC x with
  | some (.i64,n,_)=>some n
  | _=>none
def Kt.to {a b:Kt} (h:a=b) (k:a.K):b.K:=h▸k
def Ue (c:Bool) (y:Ty) (z0:El y) (v:Option (El y)):XV:=if c then .tup [(false,[one y (v.getD z0)]),(false,[.sym (.bool v.isSome)])] else .one (one y (v.getD z0))
def BL:Value→Bool
 | .slice none 0 0=>true
 | _=>false
theorem Gy {v:Value} (h:BL v=true):v=.slice none 0 0:=by
 unfold BL at h;split at h
 ·rfl
 ·cases h
def lkM (m:abU) (H:List ai) (k:m.kt.K) (c:Bool):AV→T XV
 | .mp o=>match H[o]? with
  | some (.mp lu y' _ f)=>match Ty.eq? (.mp lu y') (.mp m.kt m.y) with
   | some h=>.nd (m.kt.ok k) (.lf (Ue c m.y m.z0 ((h.down▸(f:El (.mp lu y')):El (.mp m.kt m.y)) k)))
   | none=>.bad
  | some (.mq q)=>match H[q]? with
   | some (.mr p lu _ _ _ _)=>match Kt.eq? lu m.kt with
    | some _=>if p=o∧c=false∧BL m.zv=true then .nd (m.kt.ok k) (.lf (.one (.mrow q m.kt k))) else .bad
    | none=>.bad
   | _=>.bad
  | _=>.bad
 | .map lu y' f=>match Ty.eq? (.mp lu y') (.mp m.kt m.y) with
  | some h=>.nd (m.kt.ok k) (.lf (Ue c m.y m.z0 ((h.down▸(f:El (.mp lu y')):El (.mp m.kt m.y)) k)))
  | none=>.bad
 | .val (.map none)=>.nd (m.kt.ok k) (.lf (Ue c m.y m.z0 none))
 | _=>.bad
def lkX (P:Program) (ty:TypeId→Option Ty) (H:List ai) (t:TypeId) (m x:Option XV) (c:Bool):T XV:=match OU P ty t,m with
 | some mt,some (.one a)=>match ZA mt.kt x with
  | some k=>lkM mt H k c a
  | none=>.bad
 | _,_=>.bad
def aef (P:Program) (ty:TypeId→Option Ty) (cZ:Nat) (t:TypeId):Option (XV×Option ai):=(OU P ty t).map fun m=>(.one (.mp cZ),some (.mp m.kt m.y 0 fun _=>none))
def Y4 (P:Program) (ty:TypeId→Option Ty) (cZ:Nat) (H:List ai) (t:TypeId) (m x v:Option XV):T (List (Nat×ai)×Option ai):=match OU P ty t,m,v with
 | some mt,some (.one (.mp o)),some (.one a)=>match ZA mt.kt x,H[o]? with
  | some k,some (.mp lu y' n f)=>match Ty.eq? (.mp lu y') (.mp mt.kt mt.y),Ng mt.y a with
   | some h,some z=>.nd (mt.kt.ok k∧n<1000000000000) (.lf ([(o,.mp mt.kt mt.y (n+1) (mW mt.kt (h.down▸(f:El (.mp lu y')):El (.mp mt.kt mt.y)) k z))],none))
   | _,_=>.bad
  | some k,some (.mq q)=>match a,H[q]? with
   | .own r,some (.mx p lu t' e' n f k')=>match H[r]? with
    | some (.row t2 e2 rs)=>match Kt.eq? mt.kt lu,Ty.eq? t2 t' with
     | some h,some h2=>if p=o∧e2=e' then .nd (mt.kt.ok k∧Kt.to h.down k=k'∧n<1000000000000) (.lf ([(q,.dead),(r,.dead),(o,.mq cZ)],some (.mr o lu t' e' (n+1) (mW lu f k' (h2.down▸rs:List (El t')))))) else .bad
     | _,_=>.bad
    | _=>.bad
   | _,_=>.bad
  | _,_=>.bad
 | _,_,_=>.bad
def O8 (H:List ai):Option XV→Option XV
 | some (.one a)=>match nY H a with
  | .list _ xs _=>some (.one (.sym (.int .i64 (xs.length:Int))))
  | _=>none
 | _=>none
theorem Kt.val_inj:{kt:Kt}→{x y:kt.K}→kt.val x=kt.val y→x=y
 | .s,_,_,h=>by injection h
 | .i,_,_,h=>by injection h
section
variable {P:Program} {o:Oper} {cx:Cx} {bs bn:List Value} {w w':World} {S:Nat→Prop} {H:List ai} {m:Nat} {env:Env} {a:Act} {cZ:Nat} {ty:TypeId→Option Ty}
theorem IY {t:TypeId} {mt:abU} (h:OU P ty t=some mt):∃e,P.underlying t=some (.map mt.kt.id e)∧(∀w,(zeroValue e).run P w=.ok mt.zv w)∧mt.y.one=true∧mt.zv.oneCell'=true∧∀w S,aF.rep (α:=El mt.y) w S [mt.zv] mt.z0:=by
 unfold OU at h;split at h
 ·rename_i k e hu;split at h
  ·rename_i kt y zv hk _ hz;split at h
   ·rename_i hc;rw[aaI] at hc;obtain⟨i,hi,hz⟩:=Option.bind_eq_some_iff.1 hz;obtain⟨z0,h0,h⟩:=Option.map_eq_some_iff.1 h;subst h;obtain rfl:=Uu hk;exact⟨e,hu,fun w=>by simp[zeroValue,typeInfo,hi,hz],hc.2,hc.1,fun w S=>oY (bs:=[]) h0 ⟨rfl,hc.1⟩⟩
   ·cases h
  ·cases h
 ·cases h
theorem BJ (he:ER m bs w S env a) {x:Operand}:{kt:Kt}→{k:kt.K}→ZA kt (ev env x)=some k→a.eval x=kt.val k
 | .s,k,h=>by
  obtain⟨p,h1,h2⟩:=Option.map_eq_some_iff.1 h;subst h2;exact rp he h1
 | .i,k,h=>by
  have h:(match oC (ev env x) with|some (.i64,n,_)=>some n|_=>none)=some k:=h;split at h
  ·rename_i n _ h1;injection h with h
   subst h;exact jb he h1
  ·cases h
theorem OW {c:Bool} {y:Ty} {z0:El y} {zv:Value} {f:Option (El y)} {g:Option Value} (hy:y.one=true) (hz:aF.rep (α:=El y) w S [zv] z0) (h:yw w S f g):XR bs w S (Ue c y z0 f) (if c then .tuple #[g.getD zv,.bool g.isSome] else g.getD zv):=by
 have key:aF.rep (α:=El y) w S [g.getD zv] (f.getD z0)∧g.isSome=f.isSome:=by
  cases f with
  | none=>obtain rfl:g=none:=h;exact⟨hz,rfl⟩
  | some x=>obtain⟨u,rfl,hu⟩:=h;exact⟨hu,rfl⟩
 cases c with
 | false=>exact vJ hy key.1
 | true=>
  rw[key.2];exact⟨[_,_],rfl,.cons ⟨_,rfl,vJ hy key.1⟩ (.cons ⟨_,rfl,rfl,rfl⟩ .nil)⟩
theorem Za (hs:HS cx bs w S H) (he:ER m bs w S env a) (hP:IsP P) {t:TypeId} {mo x:Operand} {c:Bool} (hop:o.op=.lookup t mo x c) {y:XV} (h:(lkX P ty H t (ev env mo) (ev env x) c).hit y):jR P o bs w S a cZ (y,none):=by
 obtain rfl:=hP.eq;unfold lkX at h;split at h
 ·rename_i mt b hm hb;split at h
  ·rename_i k hk;obtain⟨e,hu,hz,WU,fF,hzr⟩:=IY hm;have hkv:=BJ he hk;have hv:=cN he hb;have fin:∀{v:Value} {y:XV},(Instr.lookup t (a.eval mo) (mt.kt.val k) c).run Tryz.prog w=.ok v w→XR bs w S y v→jR Tryz.prog o bs w S a cZ (y,none):=fun hr hx=>jd (by unfold execOp;simp[hop,hkv,hr]) hx;have data:∀{bl n:Nat} {g:mt.kt.K→Option Value} {f:mt.kt.K→Option (El mt.y)},a.eval mo=.map (some bl)→kT w mt.kt bl n g→yw w S (f k) (g k)→mt.kt.ok k→jR Tryz.prog o bs w S a cZ (Ue c mt.y mt.z0 (f k),none):=by
    intro bl n g f ha hg hf vk;refine fin (v:=if c then .tuple #[(g k).getD mt.zv,.bool (g k).isSome] else(g k).getD mt.zv) ?_ (OW WU (hzr w S) hf);rw[ha];cases c with
    | false=>exact hg.look hu (hz w) vk
    | true=>exact hg.look2 hu (hz w) vk
   have nil:a.eval mo=.map none→mt.kt.ok k→jR Tryz.prog o bs w S a cZ (Ue c mt.y mt.z0 none,none):=by
    intro ha vk;refine fin (v:=if c then .tuple #[mt.zv,.bool false] else mt.zv) ?_ (OW (g:=none) WU (hzr w S) rfl);rw[ha];have:=look_nil (kt:=mt.kt) hu (hz w) vk;cases c with
    | false=>exact this.1
    | true=>exact this.2
   unfold lkM at h;split at h
   ·rename_i ob;split at h
    ·rename_i lu y' n f hH;split at h
     ·rename_i q _;obtain⟨q⟩:=q;injection q with q1 q2
      subst q1 q2;obtain⟨vk,h⟩:=h;have h:Ue c _ _ (f k)=y:=h;subst h;obtain⟨cK,_⟩:=hv;obtain⟨bl,g,e1,hg,hf⟩:=hs.o ob _ _ hH cK;exact data e1 hg (hf k) vk
     ·exact h.elim
    ·rename_i q hH;split at h
     ·rename_i p lu t' e' n f hQ;split at h
      ·rename_i Ef _;obtain⟨Ef⟩:=Ef;subst Ef;split at h
       ·rename_i hc;obtain⟨rfl,rfl,hzv⟩:=hc;have hzv:=Gy hzv;obtain⟨vk,h⟩:=h;have h:XV.one (.mrow q mt.kt k)=y:=h;subst h;obtain⟨cK,bl0,e0⟩:=hv;have Jk:q<bs.length:=by rw[hs.len];exact(aag.1 hQ).1
        have LD:=aae Jk;obtain⟨bl,l,g,e1,h1,h2,h3,h4,_⟩:=hs.o q _ _ hQ LD;rw[cK] at h1;injection h1 with h1
        refine fin (v:=(g k).getD mt.zv) (by rw[h1];exact h2.look hu (hz w) vk) ⟨bl,l,by rw[LD,e1],?_,?_⟩
        ·cases hg:g k with
         | none=>exact .inr ⟨hzv,fun u hu=>by rw[←h3,hg] at hu;cases hu⟩
         | some u=>exact .inl ((h3 k u).1 hg)
        ·have:=h4 k id;cases hf:f k with
         | none=>rw[hf] at this;rw[this];exact⟨none,0,0,hzv⟩
         | some xs=>
          rw[hf] at this;obtain⟨u,hu,ho⟩:=this;obtain⟨A,n',c',rfl,_⟩:=ho.slice;rw[hu];exact⟨A,n',c',rfl⟩
       ·exact h.elim
      ·exact h.elim
     ·exact h.elim
    ·exact h.elim
   ·rename_i lu y' f;split at h
    ·rename_i q _;obtain⟨q⟩:=q;injection q with q1 q2
     subst q1 q2;obtain⟨vk,h⟩:=h;have h:Ue c _ _ (f k)=y:=h;subst h;rcases hv with⟨e1,hf⟩|⟨bl,n,g,e1,_,hg,hf⟩
     ·injection e1 with e1
      rw[hf k];exact nil e1 vk
     ·injection e1 with e1
      exact data e1 hg (hf k) vk
    ·exact h.elim
   ·obtain⟨vk,h⟩:=h;have h:Ue c _ _ none=y:=h;subst h;exact nil hv.1 vk
   ·exact h.elim
  ·exact h.elim
 ·exact h.elim
theorem TQ (hs:HS cx bs w S H) {t:TypeId} (hop:o.op=.makeMap t none) {r:XV×Option ai} (h:aef P ty cZ t=some r):jR P o bs w S a cZ r:=by
 obtain⟨mt,_,h⟩:=Option.map_eq_some_iff.1 h;subst h;intro K Q hk;have hr:(execOp a.eval o).run P w=.ok (.value (.map (some w.heap.size))) (w.alloc (.map #[] 0)):=by unfold execOp;simp[hop,Instr.makeMap]
 unfold Oper.wp;rw[hr,Oper.upon_value];refine hk _ _ S (.map (some w.heap.size)) (oO _ _) (fun _ h=>h) (fun _ h=>.inl h) (fun bn ha hn=>⟨⟨hn rfl,_,rfl⟩,fun x hx=>?_⟩) fun x hx b sk=>?_
 ·injection hx with hx
  subst hx;exact⟨w.heap.size,fun _=>none,rfl,kT.made w,fun _=>rfl⟩
 ·injection hx with hx
  subst hx;injection sk with sk
  subst sk;exact⟨aaJ _,fun q=>act _ (hs.s _ q).1⟩
theorem Uo (hs:HS cx bs w S H) (he:ER m bs w S env a) {x:Operand} {t:TypeId} {ts:Array TypeId} (hop:o.op=.call { callee:=.builtin .len,args:=#[x],argTypes:=ts }) (ht:ts[0]?=some t) (hu:((P.underlying t).map fun d=>match d with|.slice _=>true|_=>false)=some true) {y:XV} (h:O8 H (ev env x)=some y):jR P o bs w S a cZ (y,none):=by
 unfold O8 at h;split at h
 ·rename_i b hx;split at h
  ·rename_i ty xs q hv;injection h with h
   subst h;have:=nX hs (cN he hx);rw[hv] at this;obtain⟨A,n,c,hv,hr,_⟩:=this;exact jd (I6 hop ht hu hv) ⟨by rw[hr.len],rfl⟩
  ·cases h
 ·cases h
end
def aa6 (P:Program) (t:TypeId) (x y:Value):Option Bool:=match P.underlying t,x,y with
 | some (.int _),.int k m,.int k' n=>if k=k' then some (m==n) else none
 | some .bool,.bool m,.bool n=>some (m==n)
 | some .string,.string m,.string n=>some (m.toList==n.toList)
 | _,_,_=>none
def QH (P:Program) (xs ys:Array Value):List Field→Option Bool
 | []=>some true
 | f::fs=>if f.name≠ "_" ∧P.plainKey f.type=true then match xs[f.offset]?,ys[f.offset]? with
  | some u,some v=>match aa6 P f.type u v,QH P xs ys fs with
   | some p,some q=>some (p&&q)
   | _,_=>none
  | _,_=>none else none
def Ps (P:Program) (t:TypeId):Bool:=match P.underlying t with
 | some (.struct _)=>true
 | _=>false
def ngB:BinOp→Option Bool
 | .eql=>some false
 | .neq=>some true
 | _=>none
def Is (P:Program) (k:BinOp) (t:TypeId) (x y:Option XV):Option XV:=match x.bind cvX,y.bind cvX,ngB k with
 | some (.agg xs,c),some (.agg ys,d),some g=>if P.stoodInHeld t||P.eqGuardType P.depth t then none else(QH P xs ys (P.fieldsOf t).toList).map fun b=>.one (mkA (c&&d) (.bool (g ^^ b)))
 | _,_,_=>none
section
variable {P:Program} {o:Oper} {cx:Cx} {bs:List Value} {w:World} {S:Nat→Prop} {H:List ai} {m:Nat} {env:Env} {a:Act} {cZ:Nat}
theorem QJ {d:Nat} {t:TypeId} {x y:Value} {b:Bool} (h:aa6 P t x y=some b):(Op.equalIn (d+1) t x y).run P w=.ok b w:=by
 unfold aa6 at h;split at h
 ·rename_i k' k m k2 n hu;split at h
  ·rename_i e;injection h with h
   subst e h;exact run_equalIn_int w d t _ _ _ _ hu
  ·cases h
 ·rename_i hu;injection h with h
  subst h;exact run_equalIn_bool w d t _ _ hu
 ·rename_i hu;injection h with h
  subst h;exact run_equalIn_string w d t _ _ hu
 ·cases h
theorem Ey {d:Nat} {xs ys:Array Value}:∀{fs:List Field} {b:Bool},QH P xs ys fs=some b→(Op.eqFields (d+1) xs ys fs).run P w=.ok b w
 | [],b,h=>by injection h with h;subst h;simp[Op.eqFields]
 | f::fs,b,h=>by
  unfold QH at h;split at h
  ·rename_i hn;split at h
   ·rename_i u v hu hv;split at h
    ·rename_i p q hp hq;injection h with h
     subst h;have ih:=Ey (d:=d) hq;simp only[Op.eqFields,hn.1,ne_eq,not_false_eq_true,if_true,Sem.run_bind,run_part_plain w hn.2 hu,run_part_plain w hn.2 hv,QJ hp,Result.andThen_ok];cases p with
     | true=>simpa using ih
     | false=>simp
    ·cases h
   ·cases h
  ·cases h
theorem Nz (he:ER m bs w S env a) {k:BinOp} {t u:TypeId} {x y:Operand} (hop:o.op=.binOp k t x y u) (hs:Ps P t=true) {z:XV} (h:Is P k t (ev env x) (ev env y)=some z):jR P o bs w S a cZ (z,none):=by
 unfold Is at h;split at h
 ·rename_i xs c ys d g hx hy hg;split at h
  ·cases h
  ·rename_i ua;simp only[acs,not_or,Bool.not_eq_true] at ua;have tk:∀{x:Operand} {q:Value} {c:Bool},(ev env x).bind cvX=some (q,c)→a.eval x=q:=fun {x q c} h=>by
    cases e:ev env x with
    | none=>rw[e] at h;cases h
    | some y=>rw[e] at h;exact QQ (p:=(q,c)) h (cN he e)
   have hx':=tk hx;have MA:=tk hy;cases e:QH P xs ys (P.fieldsOf t).toList with
   | none=>rw[e] at h;cases h
   | some b=>
    rw[e] at h;injection h with h
    subst h;have ht:P.underlying t=some (.struct (P.fieldsOf t)):=by
     unfold Ps at hs;unfold Program.fieldsOf;split at hs
     ·rename_i fs hu;rw[hu]
     ·cases hs
    have hr:(Op.equalIn 10000 t (.agg xs) (.agg ys)).run P w=.ok b w:=(run_equalIn_struct w 9999 t xs ys ht ua.1).trans (Ey (d:=9998) e);have hq:=run_eqGuard_agg (P:=P) w k t x y xs ys ua.2;refine jd (v:=.bool (g ^^ b)) ?_ (Gp rfl);unfold execOp;unfold ngB at hg;split at hg
    ·injection hg with hg
     subst hg;simp only[hop,hx',MA,Sem.run_bind,hq,Result.andThen_ok,run_eql_struct,hr];cases b<;>rfl
    ·injection hg with hg
     subst hg;simp only[hop,hx',MA,Sem.run_bind,hq,Result.andThen_ok,run_neq_struct,hr];cases b<;>rfl
    ·cases hg
 ·cases h
end
def yQ (x:Option XV):T (XV×Option ai):=T.op (x.map fun y=>(y,none))
def Sc (t:T XV):T (XV×Option ai):=t.bind fun x=>.lf (x,none)
def pkX (c x y:Option XV):T (XV×Option ai):=match c with
 | some (.one (.val (.bool b)))=>yQ (bif b then x else y)
 | some (.one (.sym (.bool b)))=>.br b (yQ x) (yQ y)
 | _=>.bad
def ajH:BinOp→Bool
 | .add|.sub|.mul=>true
 | _=>false
def arB (k:BinOp) (x y:Option XV):Bool:=ajH k&&match oC x,oC y with
 | some (.i64,_,c),some (.i64,_,d)=>!(c&&d)
 | _,_=>false
def age (k:BinOp) (x y:Option XV):Bool:=(match k with|.add=>true|_=>false)&&match AY x,AY y with
 | some (_,c),some (_,d)=>!(c&&d)
 | _,_=>false
def Gx (P:Program) (t:TypeId):Bool:=match P.underlying t with
 | some .string=>true
 | _=>false
def Jf (P:Program) (t:TypeId):Bool:=match P.underlying t with
 | some (.slice _)=>true
 | _=>false
def Y8 (P:Program) (ty:TypeId→Option Ty) (cZ:Nat) (t:TypeId) (l c:Option XV):T (XV×Option ai):=match P.underlying t,oC l,oC c with
 | some (.slice e),some (_,n,_),some (_,q,_)=>match P.info? e,ty e,vY P e with
  | some i,some y,some z=>match un y z with
   | some z0=>if i.size=aF.sz (El y)∧i.size=z.length∧0<i.size then .nd (0≤n∧q=n∧n*((i.bytes:Int)+1)≤281474976710656) (.lf (.one (.own cZ),some (.row y e (List.replicate n.toNat z0)))) else .bad
   | none=>.bad
  | _,_,_=>.bad
 | _,_,_=>.bad
def Xi {P:Program} (ty:TypeId→Option Ty) (D:List (Sm P)) (cZ:Nat) (env:Env) (H:List ai) (o:Oper):T (XV×Option ai):=match o.op with
 | .move x|.assign x=>yQ (ev env x)
 | .nilCheck x=>yQ (ncX (ev env x))
 | .load t x=>yQ (Zn P H t (ev env x))
 | .fieldAddr s x i=>yQ (aaW P s i (ev env x))
 | .field s x i=>yQ (aaV P s i (ev env x))
 | .indexAddr t x i=>Sc (ixX P H t (ev env x) (ev env i))
 | .extract x i=>yQ (xtX (ev env x) i)
 | .box t x=>T.op (Md t cZ (ev env x))
 | .alloc t=>T.op (Md t cZ (MN P t))
 | .build t ps=>yQ (abB P t (lL env ps.toList))
 | .buildSlice t n ps=>T.op (KC P ty cZ t n (lL env ps.toList))
 | .makeSlice t l c=>Y8 P ty cZ t (ev env l) (ev env c)
 | .slice t x lo hi none=>Sc (slX P t (ev env x) (lo.map (ev env)) (hi.map (ev env)))
 | .index t x i=>if Gx P t then Sc (chX (ev env x) (ev env i)) else yQ (oj P env o)
 | .pick c x y=>pkX (ev env c) (ev env x) (ev env y)
 | .binOp k t x y _=>if Jf P t then yQ ((TM k (ev env x) (ev env y)).orElse fun _=>oj P env o) else if arB k (ev env x) (ev env y) then Sc (arX k (ev env x) (ev env y)) else if age k (ev env x) (ev env y) then Sc (abr (ev env x) (ev env y)) else if Ps P t then yQ ((Is P k t (ev env x) (ev env y)).orElse fun _=>oj P env o) else yQ (oj P env o)
 | .call { callee:=.builtin .len,args:=args,argTypes:=ts }=>match args.toList,ts[0]? with
  | [x],some t=>if Jf P t then yQ ((Um H (ev env x)).orElse fun _=>(O8 H (ev env x)).orElse fun _=>oj P env o) else yQ (oj P env o)
  | _,_=>.bad
 | .call { callee:=.value (.func f),args:=args, .. }=>Sc (Wx ty D H f (ka env args.toList))
 | .call { callee:=.value (.tmp t),args:=args, .. }=>match env.lookup t with
  | some (.one (.val (.func (.func f) b c)))=>if b.size=0∧c.size=0 then Sc (Wx ty D H f (ka env args.toList)) else .bad
  | some (.one (.clo k o))=>Sc (Wx ty D H k ((ka env args.toList).map (·++[.one (.ptr o 0)])))
  | some (.one (.cl k t x))=>Sc (Wx ty D H k ((ka env args.toList).map (·++[.one (.ref t x 0)])))
  | _=>.bad
 | .makeMap t none=>T.op (aef P ty cZ t)
 | .makeFunc (.func k) b c=>match b.toList,c.toList with
  | [],[x]=>match ev env x with
   | some (.one (.ptr o 0))=>yQ (some (.one (.clo k o)))
   | _=>.bad
  | _,_=>.bad
 | .lookup t x y c=>Sc (lkX P ty H t (ev env x) (ev env y) c)
 | _=>yQ (oj P env o)
section
variable {P:Program} {o:Oper} {cx:Cx} {bs bn:List Value} {w w':World} {S:Nat→Prop} {H:List ai} {m:Nat} {env:Env} {a:Act} {cZ:Nat}
theorem UR {x:Option XV} {r:XV×Option ai} (h:(yQ x).hit r):∃y,x=some y∧r=(y,none):=by
 have h:=T.hit_op h;cases x with
 | none=>cases h
 | some y=>injection h with h;exact⟨y,rfl,h.symm⟩
theorem fv {x:Option XV} {r:XV×Option ai} (h:(yQ x).hit r) (hk:∀y,x=some y→jR P o bs w S a cZ (y,none)):jR P o bs w S a cZ r:=by
 obtain⟨y,h1,rfl⟩:=UR h;exact hk y h1
theorem Lm {t:TypeId} (h:Gx P t=true):P.underlying t=some .string:=by
 unfold Gx at h;split at h
 ·assumption
 ·cases h
theorem xA {t:TypeId} (h:Jf P t=true):((P.underlying t).map fun d=>match d with|.slice _=>true|_=>false)=some true:=by
 unfold Jf at h;split at h
 ·rename_i e hu;rw[hu];rfl
 ·cases h
theorem Flat.replicate {α:Type} [aF α] {x:α} {cs:List Value} (h:aF.rep w S cs x):∀n,Flat w S (List.replicate n cs).flatten (List.replicate n x)
 | 0=>.nil
 | n+1=>by
  rw[ade,ade,List.flatten_append,List.flatten_singleton];exact .snoc (Flat.replicate h n) h
theorem TS (hs:HS cx bs w S H) (he:ER m bs w S env a) {ty:TypeId→Option Ty} {t:TypeId} {l c:Operand} (hop:o.op=.makeSlice t l c) {r:XV×Option ai} (h:(Y8 P ty cZ t (ev env l) (ev env c)).hit r):jR P o bs w S a cZ r:=by
 unfold Y8 at h;split at h
 ·rename_i e kl n cl kc q cc hu hl hc;split at h
  ·rename_i i y z hi hy hz;split at h
   ·rename_i z0 kI;split at h
    ·rename_i jM;obtain⟨s1,s2,s3⟩:=jM;obtain⟨⟨n0,rfl,n1⟩,h⟩:=h;have h:(XV.one (.own cZ),some (ai.row y e (List.replicate q.toNat z0)))=r:=h;subst h;obtain⟨k,rfl⟩:∃k:Nat,q=k:=⟨q.toNat,by omega⟩;obtain⟨i',zv,Jo,fL,hf⟩:=oW (bs:=bs) (w:=w) (S:=S) hz;rw[hi] at Jo;obtain rfl:=aal Jo;have hn1:k*(i.bytes+1)≤281474976710656:=by
      have:((k*(i.bytes+1):Nat):Int)≤281474976710656:=by rw[Int.natCast_mul];exact n1
      omega
     have oF:i.bytes*k≤281474976710656:=by rw[Nat.mul_add,Nat.mul_one,ac5] at hn1;omega
     have hZ:k≤281474976710656:=by rw[Nat.mul_add,Nat.mul_one] at hn1;omega
     obtain⟨w',lO,r1,r2⟩:=run_make_full (P:=P) w w.heap.size t e i zv (aF.sz (El y)) hu hi fL s1 kl kc k oF (by unfold maxLen;omega) (aaJ _);have yW:=jb he hl;have Qm:=jb he hc;intro K Q hk;unfold Oper.wp execOp;simp only[hop,yW,Qm,Sem.run_bind,lO,Result.andThen_ok,Sem.run_pure,Oper.upon_value];have hb:Below w.heap.size w w':=⟨r2.os,r2.tape,r2.output,r2.size,fun b hb=>r2.block b hb (by simp)⟩;have bX:aA S w w':=(aA.of_below hb).sub fun b q=>(hs.s b q).1;have ZY:aF.rep w S zv.cells.toList z0:=kz kI hf;have z9:z.length=zv.cells.size:=hf.length.trans abM;have aaA:(madeCells zv.cells (k*aF.sz (El y))).toList=(List.replicate k zv.cells.toList).flatten:=by
      have:=uK zv.cells.toList (by rw[abM];omega) k;rw[abM,show zv.cells.toList.toArray=zv.cells from acd] at this;rw[←this,←s1,s2,z9];rfl
     rw[aaA] at r1;refine hk _ w' S (.slice (some ⟨w.heap.size,0,none⟩) k k) hb (fun _ h=>h) (fun _ h=>.inl h) (fun bn ha hn=>⟨⟨hn rfl,_,_,_,rfl⟩,fun x hx=>?_⟩) fun x hx b sk=>?_
     ·injection hx with hx
      subst hx;show Own (α:=El y) _ S 0 e _ (List.replicate k z0).reverse;rw[List.reverse_replicate];refine⟨_,?_,Flat.replicate (aF.keep ZY (fun _ h=>h) bX) k,fun b nQ=>⟨abc (hs.s b nQ).1 hb.size,fun e=>?_⟩⟩
      ·rw[ac6];obtain⟨q1,q2⟩:=r1;refine⟨q1,q2.imp id fun⟨g,cap,cur,p1,p2,p3⟩=>⟨g,cap,cur,p1,ab0 _,p3⟩⟩
      ·have e':b=w.heap.size:=aal e;have:=(hs.s b nQ).1;omega
     ·injection hx with hx
      subst hx;injection sk with sk
      subst sk;exact⟨aaJ _,fun q=>act _ (hs.s _ q).1⟩
    ·exact h.elim
   ·exact h.elim
  ·exact h.elim
 ·exact h.elim
theorem B6 (hP:IsP P) (hs:HS cx bs w S H) (he:ER m bs w S env a) {ty:TypeId→Option Ty} {D:List (Sm P)} {r:XV×Option ai} (h:(Xi ty D cZ env H o).hit r):jR P o bs w S a cZ r:=by
 have pu:(yQ (oj P env o)).hit r→jR P o bs w S a cZ r:=fun h=>fv h fun y hy=>rG he hy;unfold Xi at h;split at h
 ·rename_i x hop;exact fv h fun y hy=>OJ he (.inl hop) hy
 ·rename_i x hop;exact fv h fun y hy=>OJ he (.inr hop) hy
 ·rename_i x hop;exact fv h fun y hy=>Y2 he hop hy
 ·rename_i t x hop;exact fv h fun y hy=>Zm hs he hop hy
 ·rename_i s x i hop;exact fv h fun y hy=>Vf he hop hy
 ·rename_i s x i hop;exact fv h fun y hy=>Vd he hop hy
 ·rename_i t x i hop;exact jR.of_hit h fun y hy=>ZE hs he hop hy
 ·rename_i x i hop;exact fv h fun y hy=>XK he hop hy
 ·rename_i t x hop;exact VG hs he hop (T.hit_op h)
 ·rename_i t hop;exact VQ hs hop (T.hit_op h)
 ·rename_i t ps hop;exact fv h fun y hy=>VJ he hop hy
 ·rename_i t n ps hop;exact Tl hs he hop (T.hit_op h)
 ·rename_i t l c hop;exact TS hs he hop h
 ·rename_i t x lo hi hop;exact jR.of_hit h fun y hy=>XU he hop hy
 ·rename_i t x i hop;split at h
  ·rename_i ht;exact jR.of_hit h fun y hy=>abq he hop (Lm ht) hy
  ·exact pu h
 ·rename_i c x y hop;have fin:∀{b:Bool} {z:XV},a.eval c=.bool b→(bif b then ev env x else ev env y)=some z→jR P o bs w S a cZ (z,none):=by
   intro b z hc hz;refine jd (v:=bif b then a.eval x else a.eval y) ?_ ?_
   ·unfold execOp;cases b<;>simp[hop,hc,asBool]
   ·cases b with
    | true=>exact cN he hz
    | false=>exact cN he hz
  unfold pkX at h;split at h
  ·rename_i b hb;exact fv h fun z hz=>fin (cN he hb).1 hz
  ·rename_i b hb;have hc:=(cN he hb).1;cases b with
   | true=>exact fv (h.1 rfl) fun z hz=>fin hc hz
   | false=>exact fv (h.2 rfl) fun z hz=>fin hc hz
  ·exact h.elim
 ·rename_i k t x y u hop;split at h
  ·rename_i fU;refine fv h fun z hz=>?_;cases e:TM k (ev env x) (ev env y) with
   | none=>rw[e] at hz;exact rG he hz
   | some q=>
    rw[e] at hz;injection hz with hz
    subst hz;exact TL he hop (xA fU) e
  split at h
  ·exact jR.of_hit h fun z hz=>abI he hop hz
  ·split at h
   ·rename_i hc;have hk:k=.add:=by
     unfold age at hc;cases k<;>first|rfl|cases hc
    subst hk;exact jR.of_hit h fun z hz=>VC he hop hz
   ·split at h
    ·rename_i fb;refine fv h fun z hz=>?_;cases e:Is P k t (ev env x) (ev env y) with
     | none=>rw[e] at hz;exact rG he hz
     | some q=>
      rw[e] at hz;injection hz with hz
      subst hz;exact Nz he hop fb e
    ·exact pu h
 ·rename_i args ts hop;split at h
  ·rename_i x t hx ht;split at h
   ·rename_i fU;refine fv h fun y hy=>?_;cases e:Um H (ev env x) with
    | none=>
     rw[e] at hy;have hy:((O8 H (ev env x)).orElse fun _=>oj P env o)=some y:=hy;cases e2:O8 H (ev env x) with
     | none=>rw[e2] at hy;exact rG he hy
     | some z=>
      rw[e2] at hy;injection hy with hy
      subst hy;have En:args=#[x]:=by rw[←acd (xs:=args),hx]
      rw[En] at hop;exact Uo hs he hop ht (xA fU) e2
    | some z=>
     rw[e] at hy;injection hy with hy
     subst hy;have En:args=#[x]:=by rw[←acd (xs:=args),hx]
     rw[En] at hop;exact Ul hs he hop ht (xA fU) e
   ·exact pu h
  ·exact h.elim
 ·rename_i f args ts hop;exact jR.of_hit h fun y hy=>YM hs he hop hy
 ·rename_i t args ts hop;split at h
  ·rename_i f b c hf;split at h
   ·rename_i hbc;obtain rfl:=acf hbc.1;obtain rfl:=acf hbc.2;have hv:=(ud he hf).1;exact jR.of_hit h fun y hy=>wQ (cap:=#[]) hs (fun xs hx=>by rw[Array.toList_empty,acn];exact jP he hx) hv hop hy
   ·exact h.elim
  ·rename_i k ob hf;obtain⟨g,hg,hv⟩:=ud he hf;refine jR.of_hit h fun y hy=>wQ (cap:=#[.pointer (some ⟨g,0,none⟩)]) hs (fun xs hx=>?_) hv hop hy;cases e:ka env args.toList with
   | none=>rw[e] at hx;cases hx
   | some l=>
    rw[e] at hx;injection hx with hx
    subst hx;exact F2.append (jP he e) (.cons ⟨g,hg,rfl⟩ .nil)
  ·rename_i k tx x hf;obtain⟨b,cs,hb,hv,hr,hc⟩:=ud he hf;refine jR.of_hit h fun y hy=>wQ (cap:=#[.pointer (some ⟨b,0,none⟩)]) hs (fun xs hx=>?_) hv hop hy;cases e:ka env args.toList with
   | none=>rw[e] at hx;cases hx
   | some l=>
    rw[e] at hx;injection hx with hx
    subst hx;exact F2.append (jP he e) (.cons ⟨b,0,cs,hb,rfl,hr,hc⟩ .nil)
  ·exact h.elim
 ·rename_i t hop;exact TQ hs hop (T.hit_op h)
 ·rename_i k b c hop;split at h
  ·rename_i x hb hc;split at h
   ·rename_i o hx;refine fv h fun y hy=>?_;injection hy with hy
    subst hy;obtain⟨g,hg,hv⟩:=cN he hx;have hb:b=#[]:=by rw[←acd (xs:=b),hb]
    have hc:c=#[x]:=by rw[←acd (xs:=c),hc]
    subst hb hc;refine jd (v:=.func (.func k) #[] #[a.eval x]) ?_ ⟨g,hg,by rw[hv]⟩;unfold execOp;simp[hop,Instr.makeFunc]
   ·exact h.elim
  ·exact h.elim
 ·rename_i t x y c hop;exact jR.of_hit h fun y hy=>Za hs he hP hop hy
 ·exact pu h
end
end Go.Proofs.YtdbpbfglhbiadaaGreatDoor
