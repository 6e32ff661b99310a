/- MOp5 MOp6 MOp7 MGop -/
import Derived.Test.YtjlhbfbdcfajfaaGreatDoorW00
import Derived.Test.YtjlhbfbdcfajfaaGreatDoorW24
import Derived.Laws.StructEq
import Derived.ChangeKeysEq
set_option maxHeartbeats 8000000
set_option maxRecDepth 100000
namespace Go.Proofs.YtjlhbfbdcfajfaaGreatDoor
open Go Go.RowKit
def AN:Option XV→Option (ByteArray×Bool)
 | some (.one (.val (.string s)))=>some (s,true)
 | some (.one (.sym (.string s)))=>some (s,false)
 | _=>none
def chX (x i:Option XV):T XV:=match AN x,ow i with
 | some (s,_),some (_,n,_)=>.nd (0≤n∧n<(s.size:Int)) (.lf (.one (.sym (.int .u8 ((s.data.toList.getD n.toNat 0).toNat:Int)))))
 | _,_=>.bad
def aaN (x y:Option XV):T XV:=match AN x,AN y with
 | some (s,c),some (u,d)=>if c&&d then .bad else .nd ((s.size+u.size:Nat)≤9223372036854775807) (.lf (.one (.sym (.string (s++u)))))
 | _,_=>.bad
def Q8 (d:Int) (x:Option (Option XV)):Option Int:=match x with
 | none=>some d
 | some i=>(ow i).map (·.2.1)
def slX (P:Program) (t:TypeId) (x:Option XV) (lo hi:Option (Option XV)):T XV:=match AN x,x with
 | some (s,_),_=>if((P.underlying t).map fun d=>match d with|.string=>true|_=>false)==some true then match Q8 0 lo,Q8 s.size hi with
  | some l,some h=>.nd (0≤l∧l≤h∧h≤(s.size:Int)) (.lf (.one (.sym (.string (s.extract l.toNat h.toNat)))))
  | _,_=>.bad
  else .bad
 | none,some (.one (.list ty xs _))=>if(S8 P t).map (·.2)==some (aG.sz (El ty)) then match Q8 0 lo,Q8 xs.length hi with
  | some l,some h=>.nd (0≤l∧l≤h∧h≤(xs.length:Int)) (.lf (.one (.list ty ((xs.take h.toNat).drop l.toNat) false)))
  | _,_=>.bad
  else .bad
 | _,_=>.bad
section
variable {P:Program} {o:Oper} {cx:Cx} {bs:List Value} {w:World} {S:Nat→Prop} {H:List aj} {m:Nat} {env:Env} {a:Act} {cX:Nat}
theorem qR (he:ER m bs w S env a) {x:Operand} {s:ByteArray} {c:Bool} (h:AN (ev env x)=some (s,c)):a.eval x=.string s:=by
 unfold AN at h;split at h
 ·rename_i u e;injection h with h;injection h with h1 h2
  subst h1;exact(cR he e).1
 ·rename_i u e;injection h with h;injection h with h1 h2
  subst h1;exact(cR he e).1
 ·cases h
theorem aaM (he:ER m bs w S env a) {t:TypeId} {x i:Operand} (hop:o.op=.index t x i) (hu:P.underlying t=some .string) {y:XV} (h:(chX (ev env x) (ev env i)).hit y):jS P o bs w S a cX (y,none):=by
 unfold chX at h;split at h
 ·rename_i s c k n c2 hx hi;obtain⟨⟨h0,h1⟩,h⟩:=h;have h:XV.one _=y:=h;subst h;have hx':=qR he hx;have Jf:=jd he hi;have hlt:n.toNat<s.size:=by omega
  have gR:s[n.toNat]?=some (s.data.toList.getD n.toNat 0):=by
   rw[getElem?_pos s n.toNat hlt,aaQ];have:n.toNat<s.data.toList.length:=by simpa using hlt
   rw[aac this];rfl
  refine jf (v:=.int .u8 ((s.data.toList.getD n.toNat 0).toNat:Int)) ?_ ⟨rfl,rfl⟩;unfold execOp;simp only[hop,hx',Jf,Instr.index,asIntOf,Sem.run_bind,Sem.run_pure,Result.andThen_ok,run_underlying hu w,h0,if_true,gR]
 ·exact h.elim
theorem VA (he:ER m bs w S env a) {t u:TypeId} {x y:Operand} (hop:o.op=.binOp .add t x y u) {z:XV} (h:(aaN (ev env x) (ev env y)).hit z):jS P o bs w S a cX (z,none):=by
 unfold aaN at h;split at h
 ·rename_i s c v d hx hy;split at h
  ·exact h.elim
  ·obtain⟨h1,h⟩:=h;have h:XV.one _=z:=h;subst h;refine jf (v:=.string (s++v)) ?_ ⟨rfl,rfl⟩;have hx':=qR he hx;have Ml:=qR he hy;have hm:¬((s.size+v.size:Nat):Int)>IntKind.i64.max:=by
    have:IntKind.i64.max=9223372036854775807:=by decide
    omega
   unfold execOp;simp only[hop,hx',Ml,eqGuard,binOp,Op.stringOp,hm,Sem.run_bind,Sem.run_pure,if_false];rfl
 ·exact h.elim
theorem vA (he:ER m bs w S env a) {d l:Int} {x:Option Operand} (h:Q8 d (x.map (ev env))=some l):(x=none∧l=d)∨∃y k,x=some y∧a.eval y=.int k l:=by
 cases x with
 | none=>injection h with h;exact .inl ⟨rfl,h.symm⟩
 | some y=>
  right
  have h:(ow (ev env y)).map (·.2.1)=some l:=h;cases e:ow (ev env y) with
  | none=>rw[e] at h;cases h
  | some p=>
   obtain⟨k,n,c⟩:=p;rw[e] at h;injection h with h
   subst h;exact⟨y,k,rfl,jd he e⟩
theorem XO (he:ER m bs w S env a) {t:TypeId} {x:Operand} {lo hi:Option Operand} (hop:o.op=.slice t x lo hi none) {y:XV} (h:(slX P t (ev env x) (lo.map (ev env)) (hi.map (ev env))).hit y):jS P o bs w S a cX (y,none):=by
 unfold slX at h;split at h
 ·rename_i s c hx;split at h
  ·rename_i hu;split at h
   ·rename_i l q hl hq;obtain⟨⟨h0,h1,h2⟩,h⟩:=h;have h:XV.one _=y:=h;subst h;have hx':=qR he hx;have D1:P.underlying t=some .string:=by
     cases hd:P.underlying t with
     | none=>rw[hd] at hu;cases hu
     | some d=>rw[hd] at hu;cases d<;>first|rfl|cases hu
    refine jf (v:=.string (s.extract l.toNat q.toNat)) ?_ ⟨rfl,rfl⟩;have e1:(q.toNat:Int)=q:=Int.toNat_of_nonneg (by omega);unfold execOp;rcases vA he hl with⟨rfl,rfl⟩|⟨y1,k1,rfl,g1⟩<;>rcases vA he hq with⟨rfl,rfl⟩|⟨y2,k2,rfl,g2⟩
    ·simp[hop,hx',Instr.sliceAt,Instr.slice,run_underlying D1,Instr.sliceBounds]
    ·simp[hop,hx',g2,Instr.sliceAt,Instr.slice,run_underlying D1,Instr.sliceBounds,run_sliceBound,h2,(by omega:0≤q)]
    ·simp[hop,hx',g1,Instr.sliceAt,Instr.slice,run_underlying D1,Instr.sliceBounds,run_sliceBound,h0,h1]
    ·simp[hop,hx',g1,g2,Instr.sliceAt,Instr.slice,run_underlying D1,Instr.sliceBounds,run_sliceBound,h0,h1,h2,e1,(by omega:0≤q)]
   ·exact h.elim
  ·exact h.elim
 ·rename_i ty xs _ _ hx;split at h
  ·rename_i fU;split at h
   ·rename_i l q hl hq;obtain⟨⟨h0,h1,h2⟩,h⟩:=h;have h:XV.one _=y:=h;subst h;obtain⟨e,j,hu,hj,jN⟩:=AQ fU;obtain⟨A,n,c,hv,hr,_⟩:=cR he hx;have bO:=hr.len;have oC:=hr.cap.1;have hR:=(hr.take (k:=q.toNat) (by omega)).drop (k:=l.toNat) (by omega);refine jf (v:=.slice (if c=l.toNat then A else A.map (·.add (l.toNat*j.size))) (q.toNat-l.toNat) (c-l.toNat)) ?_ ⟨_,_,_,rfl,by rw[jN];exact hR,fun e=>by cases e⟩;have e1:(q.toNat:Int)=q:=Int.toNat_of_nonneg (by omega);have e3:q≤(c:Int):=by omega
    unfold execOp;rcases vA he hl with⟨rfl,rfl⟩|⟨y1,k1,rfl,g1⟩<;>rcases vA he hq with⟨rfl,rfl⟩|⟨y2,k2,rfl,g2⟩
    ·simp[hop,hv,Instr.sliceAt,Instr.slice,run_underlying hu,Instr.sliceBounds,sizeOf,typeInfo,hj,bO]
    ·simp[hop,hv,g2,Instr.sliceAt,Instr.slice,run_underlying hu,Instr.sliceBounds,run_sliceBound,sizeOf,typeInfo,hj,e3,(by omega:0≤q)]
    ·simp[hop,hv,g1,Instr.sliceAt,Instr.slice,run_underlying hu,Instr.sliceBounds,run_sliceBound,sizeOf,typeInfo,hj,h0,(by omega:l≤(n:Int)),bO]
    ·simp[hop,hv,g1,g2,Instr.sliceAt,Instr.slice,run_underlying hu,Instr.sliceBounds,run_sliceBound,sizeOf,typeInfo,hj,h0,h1,e1,e3,(by omega:0≤q)]
   ·exact h.elim
  ·exact h.elim
 ·exact h.elim
end
theorem F2.mapL {α β γ:Type} {R:α→β→Prop} {R':γ→β→Prop} {f:α→γ} {l:List α} {m:List β} (h:F2 R l m) (hr:∀x∈l,∀y,R x y→R' (f x) y):F2 R' (l.map f) m:=by
 induction h with
 | nil=>exact .nil
 | cons h _ ih=>exact .cons (hr _ abh _ h) (ih fun x hx=>hr x (abr _ hx))
def AV.free:AV→Bool
 | .val _|.sym _|.list _ _ _|.ref _ _ _|.map _ _ _|.cl _ _ _=>true
 | _=>false
def XV.free:XV→Bool
 | .one a=>a.free
 | .agg cs=>cs.all AV.free
 | .tup l=>l.all fun p=>p.2.all AV.free
def AV.plain:AV→Bool
 | .val _|.sym _=>true
 | _=>false
def vJ (H:List aj) (o:Nat):aj→Option AV
 | .mq q=>match H[q]? with
  | some (.mr p kt t _ _ f)=>if p=o then some (.map kt (.list t) fun k=>(f k).map List.reverse) else none
  | _=>none
 | y=>ku y
def nV (H:List aj):AV→AV
 | .own o=>((H[o]?).bind (vJ H o)).getD (.own o)
 | .mp o=>((H[o]?).bind (vJ H o)).getD (.mp o)
 | .mrow q kt k=>match H[q]? with
  | some (.mr _ ll t _ _ f)=>match Kt.eq? ll kt with
   | some h=>.list t (((h.down▸f:kt.K→Option (List (El t))) k).getD []).reverse false
   | none=>.mrow q kt k
  | _=>.mrow q kt k
 | a=>a
def yN (H:List aj):XV→XV
 | .one a=>.one (nV H a)
 | .agg cs=>.agg (cs.map (nV H))
 | x=>x
def vI (ty:TypeId→Option Ty) (H:List aj):XV→XV
 | .one (.ptr o off)=>match H[o]? with
  | some (.cells tid cs)=>match ty tid with
   | some (.st k)=>match un (.st k) (cs.map (nV H)) with
    | some x=>.one (.ref (.st k) x off)
    | none=>.one (.ptr o off)
   | _=>.one (.ptr o off)
  | _=>.one (.ptr o off)
 | .one (.clo k o)=>match H[o]? with
  | some (.cells tid [c])=>match ty tid with
   | some t=>match Mh t (nV H c) with
    | some x=>.one (.cl k t x)
    | none=>.one (.clo k o)
   | none=>.one (.clo k o)
  | _=>.one (.clo k o)
 | x=>yN H x
def av (P:Program) (f:FuncId) (al:Bool) (F:List XV→T XV):Prop:=
 ∀(w:World) (S:Nat→Prop) (xs:List XV) (vs:List Value) (r:XV),Wd w→(∀b,S b→b<w.heap.size)→F2 (XR [] w S) xs vs→(F xs).hit r→
  Calls P f vs.toArray w fun e w'=>∃v S',e=.returned v∧Below w.heap.size w w'∧(∀b,S' b→(al=true∧S b)∨(w.heap.size≤b∧b<w'.heap.size))∧XR [] w' S' r v
structure Sm (P:Program) where
 f:FuncId
 al:Bool
 F:List XV→T XV
 ok:av P f al F
def Qq (P:Program) (f:FuncId):Bool:=match P.funcs[f]? with
 | some fn=>!(fn.name== "runtime.NumGoroutine")&&fn.body.isSome
 | none=>false
def lz (env:Env):List Operand→Option (List XV)
 | []=>some []
 | x::l=>match ev env x,lz env l with
  | some y,some r=>some (y::r)
  | _,_=>none
def AV.mine:AV→Bool
 | .own _|.mp _|.mrow _ _ _|.ptr _ _|.clo _ _=>true
 | _=>false
def Tw:XV→Bool
 | .one a=>a.mine
 | .agg cs=>cs.any AV.mine
 | _=>false
def Yr {P:Program} (ty:TypeId→Option Ty) (D:List (Sm P)) (H:List aj) (f:FuncId) (xs:Option (List XV)):T XV:=match xs,D.find? (fun s=>s.f==f) with
 | some xs,some s=>if Qq P f&&(xs.map (vI ty H)).all XV.free&&!(s.al&&xs.any Tw) then(s.F (xs.map (vI ty H))).bind fun x=>if x.free then .lf x else .bad else .bad
 | _,_=>.bad
section
variable {P:Program} {o:Oper} {cx:Cx} {bs bn:List Value} {w:World} {S:Nat→Prop} {H:List aj} {m:Nat} {env:Env} {a:Act} {cX:Nat}
theorem VR.free {x:AV} {v:Value} (hf:x.free=true) (h:VR bs w S x v):VR bn w S x v:=by
 cases x with
 | val u=>exact h
 | sym u=>exact h
 | list t xs q=>exact h
 | ref t x off=>exact h
 | map kt t f=>exact h
 | cl k t x=>exact h
 | _=>cases hf
theorem CR.free {ag:Bool} {cs:List AV} {v:Value} (hf:cs.all AV.free=true) (h:CR bs w S ag cs v):CR bn w S ag cs v:=by
 have hc:=abv.1 hf;have key:∀{cs:List AV} {vs:List Value},(∀x∈cs,x.free=true)→F2 (VR bs w S) cs vs→F2 (VR bn w S) cs vs:=by
  intro cs vs hc hf;induction hf with
  | nil=>exact .nil
  | cons h _ ih=>exact .cons (VR.free (hc _ abh) h) (ih fun x hx=>hc x (abr _ hx))
 unfold CR at h ⊢;cases ag with
 | true=>obtain⟨vs,e,h⟩:=h;exact⟨vs,e,key hc h⟩
 | false=>obtain⟨x,rfl,h⟩:=h;exact⟨x,rfl,VR.free (hc x abh) h⟩
theorem XR.free {x:XV} {v:Value} (hf:x.free=true) (h:XR bs w S x v):XR bn w S x v:=by
 cases x with
 | one b=>exact VR.free hf h
 | agg cs=>exact CR.free hf h
 | tup l=>
  obtain⟨vs,e,h⟩:=h;refine⟨vs,e,?_⟩;have hc:=abv.1 hf;clear e;induction h with
  | nil=>exact .nil
  | @cons p _ _ _ h _ ih=>exact .cons (CR.free (hc p abh) h) (ih (abv.2 fun x hx=>hc x (abr _ hx)) fun x hx=>hc x (abr _ hx))
def Hj (bs:List Value) (H:List aj) (S:Nat→Prop) (b:Nat):Prop:=S b∨∃(i:Nat) (x:aj) (v:Value),H[i]?=some x∧bs[i]?=some v∧Bk x v b
theorem MP (hs:HS cx bs w S H) {o:Nat} {y:aj} {x:AV} {v:Value} (hH:H[o]?=some y) (hx:vJ H o y=some x) (hv:bs[o]?=some v):VR bs w (Hj bs H S) x v:=by
 have hB:∀c,Bk y v c→Hj bs H S c:=fun c hc=>.inr ⟨o,y,v,hH,hv,hc⟩;cases y with
 | mq q=>
  unfold vJ at hx;dsimp only at hx;split at hx
  ·rename_i p kt t e n f hq;split at hx
   ·rename_i hp;injection hx with hx
    subst hp hx;have Cs:q<bs.length:=by rw[hs.len];exact(aad.1 hq).1
    have lP:=hs.o q _ _ hq (aac Cs);have hBq:∀c,yj kt (fun _=>False) bs[q] c→Hj bs H S c:=fun c hc=>.inr ⟨q,_,_,hq,aac Cs,hc⟩;obtain⟨b,l,g,e1,h1,h2,h3,h4,_⟩:=lP;rw[hv] at h1;injection h1 with h1
    subst h1;rw[e1] at hBq;refine .inr ⟨b,n,g,rfl,hBq b ⟨b,l,rfl,.inl rfl⟩,h2,fun k=>?_⟩;have:=h4 k id;cases hf:f k with
    | none=>rw[hf] at this;show yf w _ ((f k).map List.reverse) _;rw[hf];exact this
    | some xs=>
     rw[hf] at this;obtain⟨u,hu,ho⟩:=this;obtain⟨A,m,c,rfl,hr⟩:=wC ho (fun b h=>(.inl h:Hj bs H S b)) fun c hc=>hBq c ⟨b,l,rfl,.inr ⟨k,u,id,(h3 k u).1 hu,hc⟩⟩;show yf w _ ((f k).map List.reverse) _;rw[hf];exact⟨_,hu,A,m,c,rfl,hr⟩
   ·cases hx
  ·cases hx
 | _=>exact vK (hs.o o _ v hH hv) hx (fun _ h=>.inl h) hB
theorem nU (hs:HS cx bs w S H) {x:AV} {v:Value} (h:VR bs w S x v):VR bs w (Hj bs H S) (nV H x) v:=by
 have up:VR bs w (Hj bs H S) x v:=h.keep (fun _ h=>.inl h) (aA.refl _ _) (jD.refl _);have one:∀o,nl x=some o→nV H x=((H[o]?).bind (vJ H o)).getD x→VR bs w (Hj bs H S) (nV H x) v:=by
  intro o ho e;rw[e];cases hH:H[o]? with
  | none=>exact up
  | some y=>
   show VR bs w _ ((vJ H o y).getD x) v;cases hx:vJ H o y with
   | none=>exact up
   | some z=>exact MP hs hH hx (wE h ho)
 cases x with
 | own i=>exact one i rfl rfl
 | mp i=>exact one i rfl rfl
 | mrow q kt k=>
  show VR bs w _ (match H[q]? with|some (.mr _ ll t _ _ f)=>(match Kt.eq? ll kt with|some h=>AV.list t (((h.down▸f:kt.K→Option (List (El t))) k).getD []).reverse false|none=>.mrow q kt k)|_=>.mrow q kt k) v;split
  ·rename_i p ll t e n f hq;split
   ·rename_i hk _;obtain⟨rfl⟩:=hk;obtain⟨b,l,hb,hv,fU⟩:=h;have hB:∀c,yj ll (fun _=>False) (tV b l) c→Hj bs H S c:=fun c hc=>.inr ⟨q,_,_,hq,hb,hc⟩;obtain⟨b',l',g,e1,h1,h2,h3,h4,_⟩:=hs.o q _ _ hq hb;obtain⟨rfl,rfl⟩:=mF e1;have:=h4 k id;show VR bs w _ (.list t ((f k).getD []).reverse false) v;cases hf:f k with
    | none=>
     rw[hf] at this;rcases hv with hv|⟨rfl,_⟩
     ·rw[←h3] at hv;rw[hv] at this;cases this
     ·exact⟨none,0,0,rfl,RS.nil _ _,fun e=>by cases e⟩
    | some xs=>
     rw[hf] at this;obtain⟨u,hu,ho⟩:=this;have hm:=(h3 k u).1 hu;rcases hv with hv|⟨_,hv⟩
     ·rw[←h3,hu] at hv;injection hv with hv
      subst hv;obtain⟨A,m,c,rfl,hr⟩:=wC ho (fun b h=>(.inl h:Hj bs H S b)) fun c hc=>hB c ⟨b,l,rfl,.inr ⟨k,_,id,hm,hc⟩⟩;exact⟨A,m,c,rfl,hr,fun e=>by cases e⟩
     ·exact absurd hm (hv u)
   ·exact up
  ·exact up
 | _=>exact up
theorem CC (hs:HS cx bs w S H) {x:XV} {v:Value} (h:XR bs w S x v):XR bs w (Hj bs H S) (yN H x) v:=by
 cases x with
 | one b=>exact nU hs h
 | agg cs=>
  obtain⟨vs,e,h⟩:=h;exact⟨vs,e,h.mapL fun _ _ _ h=>nU hs h⟩
 | tup l=>exact h.keep (fun _ h=>.inl h) (aA.refl _ _) (jD.refl _)
theorem MM (hs:HS cx bs w S H) {ty:TypeId→Option Ty} {x:XV} {v:Value} (h:XR bs w S x v):XR bs w (Hj bs H S) (vI ty H x) v:=by
 have up:XR bs w (Hj bs H S) x v:=h.keep (fun _ h=>.inl h) (aA.refl _ _) (jD.refl _);unfold vI;split
 ·rename_i o off;split
  ·rename_i tid cs hH;split
   ·rename_i k _;split
    ·rename_i x hx;obtain⟨g,hb,rfl⟩:=h;obtain⟨g',vs,e,hk,hf⟩:=hs.o o _ _ hH hb;injection e with e
     injection e with e
     injection e with e
     subst e;exact⟨g,0,vs,.inr ⟨o,_,_,hH,hb,rfl⟩,by rw[abQ],lC hx (hf.mapL fun _ _ _ h=>nU hs h),fun j u hj=>by rw[addr_add,abQ,hk.cell];simpa using hj⟩
    ·exact up
   ·exact up
  ·exact up
 ·rename_i k o;split
  ·rename_i tid c hH;split
   ·rename_i t _;split
    ·rename_i x hx;obtain⟨g,hb,rfl⟩:=h;obtain⟨g',vs,e,hk,hf⟩:=hs.o o _ _ hH hb;injection e with e
     injection e with e
     injection e with e
     subst e;cases hf with
     | @cons _ u _ _ h1 h2=>
      cases h2
      exact⟨g,[u],.inr ⟨o,_,_,hH,hb,rfl⟩,rfl,mN hx (nU hs h1),fun j u hj=>by rw[addr_add,abQ,hk.cell];simpa using hj⟩
    ·exact up
   ·exact up
  ·exact up
 ·exact CC hs h
theorem FB {a:AV} (h:a.mine=false):nV H a=a:=by
 cases a<;>first|rfl|cases h
theorem FA {ty:TypeId→Option Ty} {x:XV} (h:Tw x=false):vI ty H x=x:=by
 cases x with
 | one b=>cases b<;>first|rfl|cases h
 | agg cs=>
  replace h:cs.any AV.mine=false:=h;have:cs.map (nV H)=cs:=by
   revert h
   induction cs with
   | nil=>intro _;rfl
   | cons c l ih=>
    intro h;rw[acb,Bool.or_eq_false_iff] at h;rw[abY,ih h.2,FB h.1]
  show XV.agg (cs.map (nV H))=_;rw[this]
 | tup l=>rfl
theorem kN (he:ER m bs w S env a):∀{l:List Operand} {r:List XV},lz env l=some r→F2 (XR bs w S) r (l.map a.eval)
 | [],r,h=>by injection h with h;subst h;exact .nil
 | x::l,r,h=>by
  unfold lz at h;split at h
  ·rename_i y r' h1 h2;injection h with h
   subst h;exact .cons (cR he h1) (kN he h2)
  ·cases h
theorem mS {f:FuncId} {args:Array Value} (h:Qq P f=true):(callFunc f args).run P w=.ok (.enter f args) w:=by
 unfold Qq at h;cases hf:P.funcs[f]? with
 | none=>rw[hf] at h;cases h
 | some fn=>
  rw[hf] at h;simp only[aba,ab8] at h;have hb:fn.body.isNone=false:=by cases hb:fn.body<;>simp_all
  unfold callFunc;have:(program:Sem Program).run P w=.ok P w:=rfl;simp only[Sem.run_bind,this,Result.andThen_ok,hf,h.1,abx,if_false,hb,Sem.run_pure]
theorem T.hit_free {t:T XV} {r:XV} (h:(t.bind fun x=>if x.free then .lf x else .bad).hit r):t.hit r∧r.free=true:=by
 obtain⟨q,h1,h2⟩:=T.hit_bind h;split at h2
 ·rename_i hf;have h2:q=r:=h2;subst h2;exact⟨h1,hf⟩
 ·exact h2.elim
theorem Bf (hs:HS cx bs w S H) {ty:TypeId→Option Ty} {D:List (Sm P)} {f:FuncId} {args:Array Operand} {ts:Array TypeId} {ql:Option (List XV)} {cap:Array Value} (hq:∀xs,ql=some xs→F2 (XR bs w S) xs (args.toList.map a.eval++cap.toList)) {x:Operand} (hev:a.eval x=.func (.func f) #[] cap) (hop:o.op=.call { callee:=.value x,args:=args,argTypes:=ts }) {y:XV} (h:(Yr ty D H f ql).hit y):jS P o bs w S a cX (y,none):=by
 unfold Yr at h;split at h
 ·rename_i xs s hd;split at h
  ·rename_i hc;simp only[aba,ab8,Bool.and_eq_false_iff] at hc;obtain⟨⟨hf,xq⟩,hal⟩:=hc;obtain⟨h,hyf⟩:=T.hit_free h;have hsf:s.f=f:=by have:=List.find?_some hd;simpa using this
   have ha:=hq xs rfl;have hS1:∀b,Hj bs H S b→b<w.heap.size:=fun b hb=>by
    rcases hb with hb|⟨i,x,v,h1,h2,h3⟩
    ·exact(hs.s b hb).1
    ·exact(hs.o i x v h1 h2).lt h3
   have key:∃S1:Nat→Prop,(∀b,S1 b→b<w.heap.size)∧(s.al=true→∀b,S1 b→S b)∧F2 (XR [] w S1) (xs.map (vI ty H)) (args.toList.map a.eval++cap.toList):=by
    have nD:∀x∈xs,(vI ty H x).free=true:=fun x hx=>abv.1 xq _ (List.mem_map_of_mem hx);rcases hal with hal|hal
    ·refine⟨Hj bs H S,hS1,(fun e=>by rw[hal] at e;cases e),?_⟩;exact ha.mapL fun x hx v h1=>XR.free (nD x hx) (MM hs h1)
    ·refine⟨S,fun b hb=>(hs.s b hb).1,fun _ b hb=>hb,?_⟩;have Fh:∀x∈xs,Tw x=false:=fun x hx=>by
      have:=List.any_eq_false.1 hal x hx;simpa using this
     exact ha.mapL fun x hx v h1=>by
      have h3:=nD x hx;rw[FA (Fh x hx)] at h3 ⊢;exact XR.free h3 h1
   obtain⟨S1,k1,k2,k3⟩:=key;have bR:=s.ok w S1 _ _ y hs.wd k1 k3 h;rw[hsf] at bR;intro K Q hk;unfold Oper.wp execOp;have rO:(args.toList.map a.eval++cap.toList).toArray=args.map a.eval++cap:=by
    rw[←adq,←Array.toList_append]
   simp only[hop,resolve,hev,Deferred.ofValue,Sem.run_bind,Sem.run_pure,Result.andThen_ok,invoke,Array.empty_append,mS hf,Oper.upon_enter];rw[←rO];refine bR.mono fun e w' zU=>?_;obtain⟨v,S',rfl,hb,qE,hr⟩:=zU;refine hk v w' (fun b=>S b∨S' b) undef hb (fun _ h=>.inl h) (fun b h=>?_) (fun bn _ _=>⟨?_,fun _ e=>by cases e⟩) fun _ e=>by cases e
   ·rcases h with h|h
    ·exact .inl h
    ·rcases qE b h with⟨h1,h2⟩|h2
     ·exact .inl (k2 h1 b h2)
     ·exact .inr h2
   ·exact(XR.free hyf hr).keep (fun _ h=>.inr h) (aA.refl _ _) (jD.refl _)
  ·exact h.elim
 ·exact h.elim
theorem Yq (hs:HS cx bs w S H) (he:ER m bs w S env a) {ty:TypeId→Option Ty} {D:List (Sm P)} {f:FuncId} {args:Array Operand} {ts:Array TypeId} (hop:o.op=.call { callee:=.value (.func f),args:=args,argTypes:=ts }) {y:XV} (h:(Yr ty D H f (lz env args.toList)).hit y):jS P o bs w S a cX (y,none):=Bf (cap:=#[]) hs (fun _ hx=>by rw[Array.toList_empty,abZ];exact kN he hx) rfl hop h
end
class IsP (P:Program):Prop where
 eq:P=Tryz.prog
instance:IsP Tryz.prog:=⟨rfl⟩
def Y7 (k:TypeId):Option Kt:=if k=Kt.id .s then some .s else if k=Kt.id .i then some .i else none
theorem Uo {k:TypeId} {kt:Kt} (h:Y7 k=some kt):k=kt.id:=by
 unfold Y7 at h;split at h
 ·rename_i e;injection h with h;rw[←h];exact e
 ·split at h
  ·rename_i e;injection h with h;rw[←h];exact e
  ·cases h
structure abe where
 kt:Kt
 y:Ty
 zv:Value
 z0:El y
def OD (P:Program) (ty:TypeId→Option Ty) (t:TypeId):Option abe:=match P.underlying t with
 | some (.map k e)=>match Y7 k,ty e,(P.info? e).bind (·.zero) with
  | some kt,some y,some zv=>if zv.oneCell'&&y.one then(Mh y (.val zv)).map fun z0=>⟨kt,y,zv,z0⟩ else none
  | _,_,_=>none
 | _=>none
def Y8:(kt:Kt)→Option XV→Option kt.K
 | .s,x=>(AN x).map (·.1)
 | .i,x=>match ow x with
  | some (.i64,n,_)=>some n
  | _=>none
def Kt.to {a b:Kt} (h:a=b) (k:a.K):b.K:=h▸k
def TZ (c:Bool) (y:Ty) (z0:El y) (v:Option (El y)):XV:=if c then .tup [(false,[one y (v.getD z0)]),(false,[.sym (.bool v.isSome)])] else .one (one y (v.getD z0))
def Bz:Value→Bool
 | .slice none 0 0=>true
 | _=>false
theorem Gm {v:Value} (h:Bz v=true):v=.slice none 0 0:=by
 unfold Bz at h;split at h
 ·rfl
 ·cases h
def lkM (m:abe) (H:List aj) (k:m.kt.K) (c:Bool):AV→T XV
 | .mp o=>match H[o]? with
  | some (.mp ll y' _ f)=>match Ty.eq? (.mp ll y') (.mp m.kt m.y) with
   | some h=>.nd (m.kt.ok k) (.lf (TZ c m.y m.z0 ((h.down▸(f:El (.mp ll y')):El (.mp m.kt m.y)) k)))
   | none=>.bad
  | some (.mq q)=>match H[q]? with
   | some (.mr p ll _ _ _ _)=>match Kt.eq? ll m.kt with
    | some _=>if p=o∧c=false∧Bz m.zv=true then .nd (m.kt.ok k) (.lf (.one (.mrow q m.kt k))) else .bad
    | none=>.bad
   | _=>.bad
  | _=>.bad
 | .map ll y' f=>match Ty.eq? (.mp ll y') (.mp m.kt m.y) with
  | some h=>.nd (m.kt.ok k) (.lf (TZ c m.y m.z0 ((h.down▸(f:El (.mp ll y')):El (.mp m.kt m.y)) k)))
  | none=>.bad
 | .val (.map none)=>.nd (m.kt.ok k) (.lf (TZ c m.y m.z0 none))
 | _=>.bad
def lkX (P:Program) (ty:TypeId→Option Ty) (H:List aj) (t:TypeId) (m x:Option XV) (c:Bool):T XV:=match OD P ty t,m with
 | some mt,some (.one a)=>match Y8 mt.kt x with
  | some k=>lkM mt H k c a
  | none=>.bad
 | _,_=>.bad
def adA (P:Program) (ty:TypeId→Option Ty) (cX:Nat) (t:TypeId):Option (XV×Option aj):=(OD P ty t).map fun m=>(.one (.mp cX),some (.mp m.kt m.y 0 fun _=>none))
def YJ (P:Program) (ty:TypeId→Option Ty) (cX:Nat) (H:List aj) (t:TypeId) (m x v:Option XV):T (List (Nat×aj)×Option aj):=match OD P ty t,m,v with
 | some mt,some (.one (.mp o)),some (.one a)=>match Y8 mt.kt x,H[o]? with
  | some k,some (.mp ll y' n f)=>match Ty.eq? (.mp ll y') (.mp mt.kt mt.y),Mh mt.y a with
   | some h,some z=>.nd (mt.kt.ok k∧n<1000000000000) (.lf ([(o,.mp mt.kt mt.y (n+1) (mT mt.kt (h.down▸(f:El (.mp ll y')):El (.mp mt.kt mt.y)) k z))],none))
   | _,_=>.bad
  | some k,some (.mq q)=>match a,H[q]? with
   | .own r,some (.mx p ll t' e' n f k')=>match H[r]? with
    | some (.row t2 e2 rs)=>match Kt.eq? mt.kt ll,Ty.eq? t2 t' with
     | some h,some h2=>if p=o∧e2=e' then .nd (mt.kt.ok k∧Kt.to h.down k=k'∧n<1000000000000) (.lf ([(q,.dead),(r,.dead),(o,.mq cX)],some (.mr o ll t' e' (n+1) (mT ll f k' (h2.down▸rs:List (El t')))))) else .bad
     | _,_=>.bad
    | _=>.bad
   | _,_=>.bad
  | _,_=>.bad
 | _,_,_=>.bad
def OT (H:List aj):Option XV→Option XV
 | some (.one a)=>match nV H a with
  | .list _ xs _=>some (.one (.sym (.int .i64 (xs.length:Int))))
  | _=>none
 | _=>none
theorem Kt.val_inj:{kt:Kt}→{x y:kt.K}→kt.val x=kt.val y→x=y
 | .s,_,_,h=>by injection h
 | .i,_,_,h=>by injection h
section
variable {P:Program} {o:Oper} {cx:Cx} {bs bn:List Value} {w w':World} {S:Nat→Prop} {H:List aj} {m:Nat} {env:Env} {a:Act} {cX:Nat} {ty:TypeId→Option Ty}
theorem IR {t:TypeId} {mt:abe} (h:OD P ty t=some mt):∃e,P.underlying t=some (.map mt.kt.id e)∧(∀w,(zeroValue e).run P w=.ok mt.zv w)∧mt.y.one=true∧mt.zv.oneCell'=true∧∀w S,aG.rep (α:=El mt.y) w S [mt.zv] mt.z0:=by
 unfold OD at h;split at h
 ·rename_i k e hu;split at h
  ·rename_i kt y zv hk _ hz;split at h
   ·rename_i hc;rw[aba] at hc;obtain⟨i,hi,hz⟩:=Option.bind_eq_some_iff.1 hz;obtain⟨z0,h0,h⟩:=Option.map_eq_some_iff.1 h;subst h;obtain rfl:=Uo hk;exact⟨e,hu,fun w=>by simp[zeroValue,typeInfo,hi,hz],hc.2,hc.1,fun w S=>mN (bs:=[]) h0 ⟨rfl,hc.1⟩⟩
   ·cases h
  ·cases h
 ·cases h
theorem Bw (he:ER m bs w S env a) {x:Operand}:{kt:Kt}→{k:kt.K}→Y8 kt (ev env x)=some k→a.eval x=kt.val k
 | .s,k,h=>by
  obtain⟨p,h1,h2⟩:=Option.map_eq_some_iff.1 h;subst h2;exact qR he h1
 | .i,k,h=>by
  have h:(match ow (ev env x) with|some (.i64,n,_)=>some n|_=>none)=some k:=h;split at h
  ·rename_i n _ h1;injection h with h
   subst h;exact jd he h1
  ·cases h
theorem OF {c:Bool} {y:Ty} {z0:El y} {zv:Value} {f:Option (El y)} {g:Option Value} (hy:y.one=true) (hz:aG.rep (α:=El y) w S [zv] z0) (h:yf w S f g):XR bs w S (TZ c y z0 f) (if c then .tuple #[g.getD zv,.bool g.isSome] else g.getD zv):=by
 have key:aG.rep (α:=El y) w S [g.getD zv] (f.getD z0)∧g.isSome=f.isSome:=by
  cases f with
  | none=>obtain rfl:g=none:=h;exact⟨hz,rfl⟩
  | some x=>obtain⟨u,rfl,hu⟩:=h;exact⟨hu,rfl⟩
 cases c with
 | false=>exact vi hy key.1
 | true=>
  rw[key.2];exact⟨[_,_],rfl,.cons ⟨_,rfl,vi hy key.1⟩ (.cons ⟨_,rfl,rfl,rfl⟩ .nil)⟩
theorem YP (hs:HS cx bs w S H) (he:ER m bs w S env a) (hP:IsP P) {t:TypeId} {mo x:Operand} {c:Bool} (hop:o.op=.lookup t mo x c) {y:XV} (h:(lkX P ty H t (ev env mo) (ev env x) c).hit y):jS P o bs w S a cX (y,none):=by
 obtain rfl:=hP.eq;unfold lkX at h;split at h
 ·rename_i mt b hm hb;split at h
  ·rename_i k hk;obtain⟨e,hu,hz,WO,fH,hzr⟩:=IR hm;have hkv:=Bw he hk;have hv:=cR he hb;have fin:∀{v:Value} {y:XV},(Instr.lookup t (a.eval mo) (mt.kt.val k) c).run Tryz.prog w=.ok v w→XR bs w S y v→jS Tryz.prog o bs w S a cX (y,none):=fun hr hx=>jf (by unfold execOp;simp[hop,hkv,hr]) hx;have data:∀{bl n:Nat} {g:mt.kt.K→Option Value} {f:mt.kt.K→Option (El mt.y)},a.eval mo=.map (some bl)→kQ w mt.kt bl n g→yf w S (f k) (g k)→mt.kt.ok k→jS Tryz.prog o bs w S a cX (TZ c mt.y mt.z0 (f k),none):=by
    intro bl n g f ha hg hf oy;refine fin (v:=if c then .tuple #[(g k).getD mt.zv,.bool (g k).isSome] else(g k).getD mt.zv) ?_ (OF WO (hzr w S) hf);rw[ha];cases c with
    | false=>exact hg.look hu (hz w) oy
    | true=>exact hg.look2 hu (hz w) oy
   have nil:a.eval mo=.map none→mt.kt.ok k→jS Tryz.prog o bs w S a cX (TZ c mt.y mt.z0 none,none):=by
    intro ha oy;refine fin (v:=if c then .tuple #[mt.zv,.bool false] else mt.zv) ?_ (OF (g:=none) WO (hzr w S) rfl);rw[ha];have:=look_nil (kt:=mt.kt) hu (hz w) oy;cases c with
    | false=>exact this.1
    | true=>exact this.2
   unfold lkM at h;split at h
   ·rename_i ob;split at h
    ·rename_i ll y' n f hH;split at h
     ·rename_i q _;obtain⟨q⟩:=q;injection q with q1 q2
      subst q1 q2;obtain⟨oy,h⟩:=h;have h:TZ c _ _ (f k)=y:=h;subst h;obtain⟨cI,_⟩:=hv;obtain⟨bl,g,e1,hg,hf⟩:=hs.o ob _ _ hH cI;exact data e1 hg (hf k) oy
     ·exact h.elim
    ·rename_i q hH;split at h
     ·rename_i p ll t' e' n f hQ;split at h
      ·rename_i D3 _;obtain⟨D3⟩:=D3;subst D3;split at h
       ·rename_i hc;obtain⟨rfl,rfl,hzv⟩:=hc;have hzv:=Gm hzv;obtain⟨oy,h⟩:=h;have h:XV.one (.mrow q mt.kt k)=y:=h;subst h;obtain⟨cI,bl0,e0⟩:=hv;have Cs:q<bs.length:=by rw[hs.len];exact(aad.1 hQ).1
        have Ln:=aac Cs;obtain⟨bl,l,g,e1,h1,h2,h3,h4,_⟩:=hs.o q _ _ hQ Ln;rw[cI] at h1;injection h1 with h1
        refine fin (v:=(g k).getD mt.zv) (by rw[h1];exact h2.look hu (hz w) oy) ⟨bl,l,by rw[Ln,e1],?_,?_⟩
        ·cases hg:g k with
         | none=>exact .inr ⟨hzv,fun u hu=>by rw[←h3,hg] at hu;cases hu⟩
         | some u=>exact .inl ((h3 k u).1 hg)
        ·have:=h4 k id;cases hf:f k with
         | none=>rw[hf] at this;rw[this];exact⟨none,0,0,hzv⟩
         | some xs=>
          rw[hf] at this;obtain⟨u,hu,ho⟩:=this;obtain⟨A,n',c',rfl,_⟩:=ho.slice;rw[hu];exact⟨A,n',c',rfl⟩
       ·exact h.elim
      ·exact h.elim
     ·exact h.elim
    ·exact h.elim
   ·rename_i ll y' f;split at h
    ·rename_i q _;obtain⟨q⟩:=q;injection q with q1 q2
     subst q1 q2;obtain⟨oy,h⟩:=h;have h:TZ c _ _ (f k)=y:=h;subst h;rcases hv with⟨e1,hf⟩|⟨bl,n,g,e1,_,hg,hf⟩
     ·injection e1 with e1
      rw[hf k];exact nil e1 oy
     ·injection e1 with e1
      exact data e1 hg (hf k) oy
    ·exact h.elim
   ·obtain⟨oy,h⟩:=h;have h:TZ c _ _ none=y:=h;subst h;exact nil hv.1 oy
   ·exact h.elim
  ·exact h.elim
 ·exact h.elim
theorem TM (hs:HS cx bs w S H) {t:TypeId} (hop:o.op=.makeMap t none) {r:XV×Option aj} (h:adA P ty cX t=some r):jS P o bs w S a cX r:=by
 obtain⟨mt,_,h⟩:=Option.map_eq_some_iff.1 h;subst h;intro K Q hk;have hr:(execOp a.eval o).run P w=.ok (.value (.map (some w.heap.size))) (w.alloc (.map #[] 0)):=by unfold execOp;simp[hop,Instr.makeMap]
 unfold Oper.wp;rw[hr,Oper.upon_value];refine hk _ _ S (.map (some w.heap.size)) (oM _ _) (fun _ h=>h) (fun _ h=>.inl h) (fun bn ha hn=>⟨⟨hn rfl,_,rfl⟩,fun x hx=>?_⟩) fun x hx b rR=>?_
 ·injection hx with hx
  subst hx;exact⟨w.heap.size,fun _=>none,rfl,kQ.made w,fun _=>rfl⟩
 ·injection hx with hx
  subst hx;injection rR with rR
  subst rR;exact⟨abi _,fun q=>acf _ (hs.s _ q).1⟩
theorem Uk (hs:HS cx bs w S H) (he:ER m bs w S env a) {x:Operand} {t:TypeId} {ts:Array TypeId} (hop:o.op=.call { callee:=.builtin .len,args:=#[x],argTypes:=ts }) (ht:ts[0]?=some t) (hu:((P.underlying t).map fun d=>match d with|.slice _=>true|_=>false)=some true) {y:XV} (h:OT H (ev env x)=some y):jS P o bs w S a cX (y,none):=by
 unfold OT at h;split at h
 ·rename_i b hx;split at h
  ·rename_i ty xs q hv;injection h with h
   subst h;have:=nU hs (cR he hx);rw[hv] at this;obtain⟨A,n,c,hv,hr,_⟩:=this;exact jf (IY hop ht hu hv) ⟨by rw[hr.len],rfl⟩
  ·cases h
 ·cases h
end
def aar (P:Program) (t:TypeId) (x y:Value):Option Bool:=match P.underlying t,x,y with
 | some (.int _),.int k m,.int k' n=>if k=k' then some (m==n) else none
 | some .bool,.bool m,.bool n=>some (m==n)
 | some .string,.string m,.string n=>some (m.toList==n.toList)
 | _,_,_=>none
def Qz (P:Program) (xs ys:Array Value):List Field→Option Bool
 | []=>some true
 | f::fs=>if f.name≠ "_" ∧P.plainKey f.type=true then match xs[f.offset]?,ys[f.offset]? with
  | some u,some v=>match aar P f.type u v,Qz P xs ys fs with
   | some p,some q=>some (p&&q)
   | _,_=>none
  | _,_=>none else none
def O6 (P:Program) (t:TypeId):Bool:=match P.underlying t with
 | some (.struct _)=>true
 | _=>false
def ngB:BinOp→Option Bool
 | .eql=>some false
 | .neq=>some true
 | _=>none
def Ic (P:Program) (k:BinOp) (t:TypeId) (x y:Option XV):Option XV:=match x.bind cvX,y.bind cvX,ngB k with
 | some (.agg xs,c),some (.agg ys,d),some g=>if P.stoodInHeld t||P.eqGuardType P.depth t then none else(Qz P xs ys (P.fieldsOf t).toList).map fun b=>.one (mkA (c&&d) (.bool (g ^^ b)))
 | _,_,_=>none
section
variable {P:Program} {o:Oper} {cx:Cx} {bs:List Value} {w:World} {S:Nat→Prop} {H:List aj} {m:Nat} {env:Env} {a:Act} {cX:Nat}
theorem QB {d:Nat} {t:TypeId} {x y:Value} {b:Bool} (h:aar P t x y=some b):(Op.equalIn (d+1) t x y).run P w=.ok b w:=by
 unfold aar at h;split at h
 ·rename_i k' k m k2 n hu;split at h
  ·rename_i e;injection h with h
   subst e h;exact run_equalIn_int w d t _ _ _ _ hu
  ·cases h
 ·rename_i hu;injection h with h
  subst h;exact run_equalIn_bool w d t _ _ hu
 ·rename_i hu;injection h with h
  subst h;exact run_equalIn_string w d t _ _ hu
 ·cases h
theorem Ek {d:Nat} {xs ys:Array Value}:∀{fs:List Field} {b:Bool},Qz P xs ys fs=some b→(Op.eqFields (d+1) xs ys fs).run P w=.ok b w
 | [],b,h=>by injection h with h;subst h;simp[Op.eqFields]
 | f::fs,b,h=>by
  unfold Qz at h;split at h
  ·rename_i hn;split at h
   ·rename_i u v hu hv;split at h
    ·rename_i p q hp hq;injection h with h
     subst h;have ih:=Ek (d:=d) hq;simp only[Op.eqFields,hn.1,ne_eq,not_false_eq_true,if_true,Sem.run_bind,run_part_plain w hn.2 hu,run_part_plain w hn.2 hv,QB hp,Result.andThen_ok];cases p with
     | true=>simpa using ih
     | false=>simp
    ·cases h
   ·cases h
  ·cases h
theorem Nk (he:ER m bs w S env a) {k:BinOp} {t u:TypeId} {x y:Operand} (hop:o.op=.binOp k t x y u) (hs:O6 P t=true) {z:XV} (h:Ic P k t (ev env x) (ev env y)=some z):jS P o bs w S a cX (z,none):=by
 unfold Ic at h;split at h
 ·rename_i xs c ys d g hx hy hg;split at h
  ·cases h
  ·rename_i tL;simp only[ace,not_or,Bool.not_eq_true] at tL;have tk:∀{x:Operand} {q:Value} {c:Bool},(ev env x).bind cvX=some (q,c)→a.eval x=q:=fun {x q c} h=>by
    cases e:ev env x with
    | none=>rw[e] at h;cases h
    | some y=>rw[e] at h;exact QL (p:=(q,c)) h (cR he e)
   have hx':=tk hx;have Ml:=tk hy;cases e:Qz P xs ys (P.fieldsOf t).toList with
   | none=>rw[e] at h;cases h
   | some b=>
    rw[e] at h;injection h with h
    subst h;have ht:P.underlying t=some (.struct (P.fieldsOf t)):=by
     unfold O6 at hs;unfold Program.fieldsOf;split at hs
     ·rename_i fs hu;rw[hu]
     ·cases hs
    have hr:(Op.equalIn 10000 t (.agg xs) (.agg ys)).run P w=.ok b w:=(run_equalIn_struct w 9999 t xs ys ht tL.1).trans (Ek (d:=9998) e);have hq:=run_eqGuard_agg (P:=P) w k t x y xs ys tL.2;refine jf (v:=.bool (g ^^ b)) ?_ (Gf rfl);unfold execOp;unfold ngB at hg;split at hg
    ·injection hg with hg
     subst hg;simp only[hop,hx',Ml,Sem.run_bind,hq,Result.andThen_ok,run_eql_struct,hr];cases b<;>rfl
    ·injection hg with hg
     subst hg;simp only[hop,hx',Ml,Sem.run_bind,hq,Result.andThen_ok,run_neq_struct,hr];cases b<;>rfl
    ·cases hg
 ·cases h
end
def yC (x:Option XV):T (XV×Option aj):=T.op (x.map fun y=>(y,none))
def Ug (t:T XV):T (XV×Option aj):=t.bind fun x=>.lf (x,none)
def pkX (c x y:Option XV):T (XV×Option aj):=match c with
 | some (.one (.val (.bool b)))=>yC (bif b then x else y)
 | some (.one (.sym (.bool b)))=>.br b (yC x) (yC y)
 | _=>.bad
def ajt:BinOp→Bool
 | .add|.sub|.mul=>true
 | _=>false
def arB (k:BinOp) (x y:Option XV):Bool:=ajt k&&match ow x,ow y with
 | some (.i64,_,c),some (.i64,_,d)=>!(c&&d)
 | _,_=>false
def afx (k:BinOp) (x y:Option XV):Bool:=(match k with|.add=>true|_=>false)&&match AN x,AN y with
 | some (_,c),some (_,d)=>!(c&&d)
 | _,_=>false
def Gl (P:Program) (t:TypeId):Bool:=match P.underlying t with
 | some .string=>true
 | _=>false
def I7 (P:Program) (t:TypeId):Bool:=match P.underlying t with
 | some (.slice _)=>true
 | _=>false
def YN (P:Program) (ty:TypeId→Option Ty) (cX:Nat) (t:TypeId) (l c:Option XV):T (XV×Option aj):=match P.underlying t,ow l,ow c with
 | some (.slice e),some (_,n,_),some (_,q,_)=>match P.info? e,ty e,vG P e with
  | some i,some y,some z=>match un y z with
   | some z0=>if i.size=aG.sz (El y)∧i.size=z.length∧0<i.size then .nd (0≤n∧q=n∧n*((i.bytes:Int)+1)≤281474976710656) (.lf (.one (.own cX),some (.row y e (List.replicate n.toNat z0)))) else .bad
   | none=>.bad
  | _,_,_=>.bad
 | _,_,_=>.bad
def Xe {P:Program} (ty:TypeId→Option Ty) (D:List (Sm P)) (cX:Nat) (env:Env) (H:List aj) (o:Oper):T (XV×Option aj):=match o.op with
 | .move x|.assign x=>yC (ev env x)
 | .nilCheck x=>yC (ncX (ev env x))
 | .load t x=>yC (Y2 P H t (ev env x))
 | .fieldAddr s x i=>yC (aai P s i (ev env x))
 | .field s x i=>yC (aah P s i (ev env x))
 | .indexAddr t x i=>Ug (ixX P H t (ev env x) (ev env i))
 | .extract x i=>yC (xtX (ev env x) i)
 | .box t x=>T.op (LV t cX (ev env x))
 | .alloc t=>T.op (LV t cX (Mz P t))
 | .build t ps=>yC (aaW P t (lH env ps.toList))
 | .buildSlice t n ps=>T.op (Kp P ty cX t n (lH env ps.toList))
 | .makeSlice t l c=>YN P ty cX t (ev env l) (ev env c)
 | .slice t x lo hi none=>Ug (slX P t (ev env x) (lo.map (ev env)) (hi.map (ev env)))
 | .index t x i=>if Gl P t then Ug (chX (ev env x) (ev env i)) else yC (oe P env o)
 | .pick c x y=>pkX (ev env c) (ev env x) (ev env y)
 | .binOp k t x y _=>if I7 P t then yC ((TI k (ev env x) (ev env y)).orElse fun _=>oe P env o) else if arB k (ev env x) (ev env y) then Ug (arX k (ev env x) (ev env y)) else if afx k (ev env x) (ev env y) then Ug (aaN (ev env x) (ev env y)) else if O6 P t then yC ((Ic P k t (ev env x) (ev env y)).orElse fun _=>oe P env o) else yC (oe P env o)
 | .call { callee:=.builtin .len,args:=args,argTypes:=ts }=>match args.toList,ts[0]? with
  | [x],some t=>if I7 P t then yC ((Ui H (ev env x)).orElse fun _=>(OT H (ev env x)).orElse fun _=>oe P env o) else yC (oe P env o)
  | _,_=>.bad
 | .call { callee:=.value (.func f),args:=args, .. }=>Ug (Yr ty D H f (lz env args.toList))
 | .call { callee:=.value (.tmp t),args:=args, .. }=>match env.lookup t with
  | some (.one (.val (.func (.func f) b c)))=>if b.size=0∧c.size=0 then Ug (Yr ty D H f (lz env args.toList)) else .bad
  | some (.one (.clo k o))=>Ug (Yr ty D H k ((lz env args.toList).map (·++[.one (.ptr o 0)])))
  | _=>.bad
 | .makeMap t none=>T.op (adA P ty cX t)
 | .makeFunc (.func k) b c=>match b.toList,c.toList with
  | [],[x]=>match ev env x with
   | some (.one (.ptr o 0))=>yC (some (.one (.clo k o)))
   | _=>.bad
  | _,_=>.bad
 | .lookup t x y c=>Ug (lkX P ty H t (ev env x) (ev env y) c)
 | _=>yC (oe P env o)
section
variable {P:Program} {o:Oper} {cx:Cx} {bs bn:List Value} {w w':World} {S:Nat→Prop} {H:List aj} {m:Nat} {env:Env} {a:Act} {cX:Nat}
theorem UL {x:Option XV} {r:XV×Option aj} (h:(yC x).hit r):∃y,x=some y∧r=(y,none):=by
 have h:=T.hit_op h;cases x with
 | none=>cases h
 | some y=>injection h with h;exact⟨y,rfl,h.symm⟩
theorem fw {x:Option XV} {r:XV×Option aj} (h:(yC x).hit r) (hk:∀y,x=some y→jS P o bs w S a cX (y,none)):jS P o bs w S a cX r:=by
 obtain⟨y,h1,rfl⟩:=UL h;exact hk y h1
theorem K8 {t:TypeId} (h:Gl P t=true):P.underlying t=some .string:=by
 unfold Gl at h;split at h
 ·assumption
 ·cases h
theorem xk {t:TypeId} (h:I7 P t=true):((P.underlying t).map fun d=>match d with|.slice _=>true|_=>false)=some true:=by
 unfold I7 at h;split at h
 ·rename_i e hu;rw[hu];rfl
 ·cases h
theorem Flat.replicate {α:Type} [aG α] {x:α} {cs:List Value} (h:aG.rep w S cs x):∀n,Flat w S (List.replicate n cs).flatten (List.replicate n x)
 | 0=>.nil
 | n+1=>by
  rw[ad3,ad3,List.flatten_append,List.flatten_singleton];exact .snoc (Flat.replicate h n) h
theorem TO (hs:HS cx bs w S H) (he:ER m bs w S env a) {ty:TypeId→Option Ty} {t:TypeId} {l c:Operand} (hop:o.op=.makeSlice t l c) {r:XV×Option aj} (h:(YN P ty cX t (ev env l) (ev env c)).hit r):jS P o bs w S a cX r:=by
 unfold YN at h;split at h
 ·rename_i e kl n cl kc q cc hu hl hc;split at h
  ·rename_i i y z hi hy hz;split at h
   ·rename_i z0 kG;split at h
    ·rename_i jN;obtain⟨s1,s2,s3⟩:=jN;obtain⟨⟨n0,rfl,n1⟩,h⟩:=h;have h:(XV.one (.own cX),some (aj.row y e (List.replicate q.toNat z0)))=r:=h;subst h;obtain⟨k,rfl⟩:∃k:Nat,q=k:=⟨q.toNat,by omega⟩;obtain⟨i',zv,Jf,fM,hf⟩:=oU (bs:=bs) (w:=w) (S:=S) hz;rw[hi] at Jf;obtain rfl:=aaZ Jf;have hn1:k*(i.bytes+1)≤281474976710656:=by
      have:((k*(i.bytes+1):Nat):Int)≤281474976710656:=by rw[Int.natCast_mul];exact n1
      omega
     have ui:i.bytes*k≤281474976710656:=by rw[Nat.mul_add,Nat.mul_one,adM] at hn1;omega
     have eX:k≤281474976710656:=by rw[Nat.mul_add,Nat.mul_one] at hn1;omega
     obtain⟨w',lI,r1,r2⟩:=run_make_full (P:=P) w w.heap.size t e i zv (aG.sz (El y)) hu hi fM s1 kl kc k ui (by unfold maxLen;omega) (abi _);have yI:=jd he hl;have P1:=jd he hc;intro K Q hk;unfold Oper.wp execOp;simp only[hop,yI,P1,Sem.run_bind,lI,Result.andThen_ok,Sem.run_pure,Oper.upon_value];have hb:Below w.heap.size w w':=⟨r2.os,r2.tape,r2.output,r2.size,fun b hb=>r2.block b hb (by simp)⟩;have bX:aA S w w':=(aA.of_below hb).sub fun b q=>(hs.s b q).1;have Zs:aG.rep w S zv.cells.toList z0:=lC kG hf;have zM:z.length=zv.cells.size:=hf.length.trans abC;have Z6:(madeCells zv.cells (k*aG.sz (El y))).toList=(List.replicate k zv.cells.toList).flatten:=by
      have:=uu zv.cells.toList (by rw[abC];omega) k;rw[abC,show zv.cells.toList.toArray=zv.cells from abT] at this;rw[←this,←s1,s2,zM];rfl
     rw[Z6] at r1;refine hk _ w' S (.slice (some ⟨w.heap.size,0,none⟩) k k) hb (fun _ h=>h) (fun _ h=>.inl h) (fun bn ha hn=>⟨⟨hn rfl,_,_,_,rfl⟩,fun x hx=>?_⟩) fun x hx b rR=>?_
     ·injection hx with hx
      subst hx;show Own (α:=El y) _ S 0 e _ (List.replicate k z0).reverse;rw[adC];refine⟨_,?_,Flat.replicate (aG.keep Zs (fun _ h=>h) bX) k,fun b nN=>⟨abw (hs.s b nN).1 hb.size,fun e=>?_⟩⟩
      ·rw[acc];obtain⟨q1,q2⟩:=r1;refine⟨q1,q2.imp id fun⟨g,cap,cur,p1,p2,p3⟩=>⟨g,cap,cur,p1,abK _,p3⟩⟩
      ·have e':b=w.heap.size:=aaZ e;have:=(hs.s b nN).1;omega
     ·injection hx with hx
      subst hx;injection rR with rR
      subst rR;exact⟨abi _,fun q=>acf _ (hs.s _ q).1⟩
    ·exact h.elim
   ·exact h.elim
  ·exact h.elim
 ·exact h.elim
theorem BM (hP:IsP P) (hs:HS cx bs w S H) (he:ER m bs w S env a) {ty:TypeId→Option Ty} {D:List (Sm P)} {r:XV×Option aj} (h:(Xe ty D cX env H o).hit r):jS P o bs w S a cX r:=by
 have pu:(yC (oe P env o)).hit r→jS P o bs w S a cX r:=fun h=>fw h fun y hy=>rh he hy;unfold Xe at h;split at h
 ·rename_i x hop;exact fw h fun y hy=>Ou he (.inl hop) hy
 ·rename_i x hop;exact fw h fun y hy=>Ou he (.inr hop) hy
 ·rename_i x hop;exact fw h fun y hy=>YI he hop hy
 ·rename_i t x hop;exact fw h fun y hy=>Y1 hs he hop hy
 ·rename_i s x i hop;exact fw h fun y hy=>U8 he hop hy
 ·rename_i s x i hop;exact fw h fun y hy=>U6 he hop hy
 ·rename_i t x i hop;exact jS.of_hit h fun y hy=>Zb hs he hop hy
 ·rename_i x i hop;exact fw h fun y hy=>XG he hop hy
 ·rename_i t x hop;exact VE hs he hop (T.hit_op h)
 ·rename_i t hop;exact VO hs hop (T.hit_op h)
 ·rename_i t ps hop;exact fw h fun y hy=>VH he hop hy
 ·rename_i t n ps hop;exact Te hs he hop (T.hit_op h)
 ·rename_i t l c hop;exact TO hs he hop h
 ·rename_i t x lo hi hop;exact jS.of_hit h fun y hy=>XO he hop hy
 ·rename_i t x i hop;split at h
  ·rename_i ht;exact jS.of_hit h fun y hy=>aaM he hop (K8 ht) hy
  ·exact pu h
 ·rename_i c x y hop;have fin:∀{b:Bool} {z:XV},a.eval c=.bool b→(bif b then ev env x else ev env y)=some z→jS P o bs w S a cX (z,none):=by
   intro b z hc hz;refine jf (v:=bif b then a.eval x else a.eval y) ?_ ?_
   ·unfold execOp;cases b<;>simp[hop,hc,asBool]
   ·cases b with
    | true=>exact cR he hz
    | false=>exact cR he hz
  unfold pkX at h;split at h
  ·rename_i b hb;exact fw h fun z hz=>fin (cR he hb).1 hz
  ·rename_i b hb;have hc:=(cR he hb).1;cases b with
   | true=>exact fw (h.1 rfl) fun z hz=>fin hc hz
   | false=>exact fw (h.2 rfl) fun z hz=>fin hc hz
  ·exact h.elim
 ·rename_i k t x y u hop;split at h
  ·rename_i fU;refine fw h fun z hz=>?_;cases e:TI k (ev env x) (ev env y) with
   | none=>rw[e] at hz;exact rh he hz
   | some q=>
    rw[e] at hz;injection hz with hz
    subst hz;exact TH he hop (xk fU) e
  split at h
  ·exact jS.of_hit h fun z hz=>aa2 he hop hz
  ·split at h
   ·rename_i hc;have hk:k=.add:=by
     unfold afx at hc;cases k<;>first|rfl|cases hc
    subst hk;exact jS.of_hit h fun z hz=>VA he hop hz
   ·split at h
    ·rename_i fa;refine fw h fun z hz=>?_;cases e:Ic P k t (ev env x) (ev env y) with
     | none=>rw[e] at hz;exact rh he hz
     | some q=>
      rw[e] at hz;injection hz with hz
      subst hz;exact Nk he hop fa e
    ·exact pu h
 ·rename_i args ts hop;split at h
  ·rename_i x t hx ht;split at h
   ·rename_i fU;refine fw h fun y hy=>?_;cases e:Ui H (ev env x) with
    | none=>
     rw[e] at hy;have hy:((OT H (ev env x)).orElse fun _=>oe P env o)=some y:=hy;cases e2:OT H (ev env x) with
     | none=>rw[e2] at hy;exact rh he hy
     | some z=>
      rw[e2] at hy;injection hy with hy
      subst hy;have D9:args=#[x]:=by rw[←abT (xs:=args),hx]
      rw[D9] at hop;exact Uk hs he hop ht (xk fU) e2
    | some z=>
     rw[e] at hy;injection hy with hy
     subst hy;have D9:args=#[x]:=by rw[←abT (xs:=args),hx]
     rw[D9] at hop;exact Uh hs he hop ht (xk fU) e
   ·exact pu h
  ·exact h.elim
 ·rename_i f args ts hop;exact jS.of_hit h fun y hy=>Yq hs he hop hy
 ·rename_i t args ts hop;split at h
  ·rename_i f b c hf;split at h
   ·rename_i hbc;obtain rfl:=abV hbc.1;obtain rfl:=abV hbc.2;have hv:=(xD he hf).1;exact jS.of_hit h fun y hy=>Bf (cap:=#[]) hs (fun xs hx=>by rw[Array.toList_empty,abZ];exact kN he hx) hv hop hy
   ·exact h.elim
  ·rename_i k ob hf;obtain⟨g,hg,hv⟩:=xD he hf;refine jS.of_hit h fun y hy=>Bf (cap:=#[.pointer (some ⟨g,0,none⟩)]) hs (fun xs hx=>?_) hv hop hy;cases e:lz env args.toList with
   | none=>rw[e] at hx;cases hx
   | some l=>
    rw[e] at hx;injection hx with hx
    subst hx;exact F2.append (kN he e) (.cons ⟨g,hg,rfl⟩ .nil)
  ·exact h.elim
 ·rename_i t hop;exact TM hs hop (T.hit_op h)
 ·rename_i k b c hop;split at h
  ·rename_i x hb hc;split at h
   ·rename_i o hx;refine fw h fun y hy=>?_;injection hy with hy
    subst hy;obtain⟨g,hg,hv⟩:=cR he hx;have hb:b=#[]:=by rw[←abT (xs:=b),hb]
    have hc:c=#[x]:=by rw[←abT (xs:=c),hc]
    subst hb hc;refine jf (v:=.func (.func k) #[] #[a.eval x]) ?_ ⟨g,hg,by rw[hv]⟩;unfold execOp;simp[hop,Instr.makeFunc]
   ·exact h.elim
  ·exact h.elim
 ·rename_i t x y c hop;exact jS.of_hit h fun y hy=>YP hs he hP hop hy
 ·exact pu h
end
end Go.Proofs.YtjlhbfbdcfajfaaGreatDoor
