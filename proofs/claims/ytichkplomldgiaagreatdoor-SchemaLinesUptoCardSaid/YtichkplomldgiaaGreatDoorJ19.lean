/- MOp5 MOp6 MOp7 MOp8 MGop RefL -/
import Derived.Test.YtichkplomldgiaaGreatDoorJ18
import Derived.Laws.StructEq
import Derived.ChangeKeysEq
import Derived.Test.YtichkplomldgiaaGreatDoorJ11
import Derived.Test.YtichkplomldgiaaGreatDoorJ01
import Derived.Laws.AppendOwnNone
set_option maxHeartbeats 4000000
set_option maxRecDepth 100000
namespace Go.Proofs.YtichkplomldgiaaGreatDoor
open Go Go.RowKit
def qH:Option XV->Option (ByteArray×Bool)
 | some (.one (.val (.string s)))=>some (s,true)
 | some (.one (.sym (.string s)))=>some (s,false)
 | _=>none
def WR (x i:Option XV):T XV:=match qH x,iN i with
 | some (s,_),some (_,n,_)=>.nd (0<=n/\n<(s.size:Int)) (.lf (.one (.sym (.int .u8 ((s.data.toList.getD n.toNat 0).toNat:Int)))))
 | _,_=>.bad
def Ng (x y:Option XV):T XV:=match qH x,qH y with
 | some (s,c),some (u,d)=>if c&&d then .bad else .nd ((s.size+u.size:Nat)<=9223372036854775807) (.lf (.one (.sym (.string (s++u)))))
 | _,_=>.bad
def Fb (d:Int) (x:Option (Option XV)):Option Int:=match x with
 | none=>some d
 | some i=>(iN i).map (·.2.1)
def TL (P:Program) (t:TypeId) (x:Option XV) (lo hi:Option (Option XV)):T XV:=match qH x,x with
 | some (s,_),_=>if((P.underlying t).map λd=>match d with|.string=>true|_=>false)==some true then match Fb 0 lo,Fb s.size hi with
  | some l,some h=>.nd (0<=l/\l<=h/\h<=(s.size:Int)) (.lf (.one (.sym (.string (s.extract l.toNat h.toNat)))))
  | _,_=>.bad
  else .bad
 | none,some (.one (.list ty xs _))=>if(Gw P t).map (·.2)==some (ak.sz (El ty)) then match Fb 0 lo,Fb xs.length hi with
  | some l,some h=>.nd (0<=l/\l<=h/\h<=(xs.length:Int)) (.lf (.one (.list ty ((xs.take h.toNat).drop l.toNat) false)))
  | _,_=>.bad
  else .bad
 | _,_=>.bad
section
variable {P:Program} {o:Oper} {cx:Cx} {bs:List Value} {w:World} {S:Nat->Prop} {H:List aa} {m:Nat} {env:Env} {a:Act} {bg:Nat}
theorem kn (he:ER m bs w S env a) {x:Operand} {s:ByteArray} {c:Bool} (h:qH (ev env x)=some (s,c)):a.eval x=.string s:=by
 unfold qH at h;split at h
 ·rename_i u e;injection h with h;injection h with h1 h2
  subst h1;exact(aZ he e).1
 ·rename_i u e;injection h with h;injection h with h1 h2
  subst h1;exact(aZ he e).1
 ·cases h
theorem Nf (he:ER m bs w S env a) {t:TypeId} {x i:Operand} (hop:o.op=.index t x i) (hu:P.underlying t=some .string) {y:XV} (h:(WR (ev env x) (ev env i)).hit y):eA P o bs w S a bg (y,none):=by
 unfold WR at h;split at h
 ·rename_i s c k n c2 hx hi;obtain⟨⟨h0,h1⟩,h⟩:=h;have h:XV.one _=y:=h;subst h;have hx':=kn he hx;have yE:=d9 he hi;have hlt:n.toNat<s.size:=by omega
  have dE:s[n.toNat]?=some (s.data.toList.getD n.toNat 0):=by
   rw[getElem?_pos s n.toNat hlt,List.getD_eq_getElem?_getD];have:n.toNat<s.data.toList.length:=by simpa using hlt
   rw[List.getElem?_eq_getElem this];rfl
  refine dW (v:=.int .u8 ((s.data.toList.getD n.toNat 0).toNat:Int)) ?_ ⟨rfl,rfl⟩;unfold execOp;simp only[hop,hx',yE,Instr.index,asIntOf,Sem.run_bind,Sem.run_pure,Result.andThen_ok,run_underlying hu w,h0,if_true,dE]
 ·exact h.elim
theorem I9 (he:ER m bs w S env a) {t u:TypeId} {x y:Operand} (hop:o.op=.binOp .add t x y u) {z:XV} (h:(Ng (ev env x) (ev env y)).hit z):eA P o bs w S a bg (z,none):=by
 unfold Ng at h;split at h
 ·rename_i s c v d hx hy;split at h
  ·exact h.elim
  ·obtain⟨h1,h⟩:=h;have h:XV.one _=z:=h;subst h;refine dW (v:=.string (s++v)) ?_ ⟨rfl,rfl⟩;have hx':=kn he hx;have Br:=kn he hy;have hm:¬((s.size+v.size:Nat):Int)>IntKind.i64.max:=by
    have:IntKind.i64.max=9223372036854775807:=by decide
    omega
   unfold execOp;simp only[hop,hx',Br,eqGuard,binOp,Op.stringOp,hm,Sem.run_bind,Sem.run_pure,if_false];rfl
 ·exact h.elim
theorem mE (he:ER m bs w S env a) {d l:Int} {x:Option Operand} (h:Fb d (x.map (ev env))=some l):(x=none/\l=d)\/∃y k,x=some y/\a.eval y=.int k l:=by
 cases x with
 | none=>injection h with h;exact .inl ⟨rfl,h.symm⟩
 | some y=>
  right
  have h:(iN (ev env y)).map (·.2.1)=some l:=h;cases e:iN (ev env y) with
  | none=>rw[e] at h;cases h
  | some p=>
   obtain⟨k,n,c⟩:=p;rw[e] at h;injection h with h
   subst h;exact⟨y,k,rfl,d9 he e⟩
theorem KR (he:ER m bs w S env a) {t:TypeId} {x:Operand} {lo hi:Option Operand} (hop:o.op=.slice t x lo hi none) {y:XV} (h:(TL P t (ev env x) (lo.map (ev env)) (hi.map (ev env))).hit y):eA P o bs w S a bg (y,none):=by
 unfold TL at h;split at h
 ·rename_i s c hx;split at h
  ·rename_i hu;split at h
   ·rename_i l q hl hq;obtain⟨⟨h0,h1,h2⟩,h⟩:=h;have h:XV.one _=y:=h;subst h;have hx':=kn he hx;have t8:P.underlying t=some .string:=by
     cases hd:P.underlying t with
     | none=>rw[hd] at hu;cases hu
     | some d=>rw[hd] at hu;cases d<;>first|rfl|cases hu
    refine dW (v:=.string (s.extract l.toNat q.toNat)) ?_ ⟨rfl,rfl⟩;have e1:(q.toNat:Int)=q:=Int.toNat_of_nonneg (by omega);unfold execOp;rcases mE he hl with⟨rfl,rfl⟩|⟨y1,k1,rfl,g1⟩<;>rcases mE he hq with⟨rfl,rfl⟩|⟨y2,k2,rfl,g2⟩
    ·simp[hop,hx',Instr.sliceAt,Instr.slice,run_underlying t8,Instr.sliceBounds]
    ·simp[hop,hx',g2,Instr.sliceAt,Instr.slice,run_underlying t8,Instr.sliceBounds,run_sliceBound,h2,(by omega:0<=q)]
    ·simp[hop,hx',g1,Instr.sliceAt,Instr.slice,run_underlying t8,Instr.sliceBounds,run_sliceBound,h0,h1]
    ·simp[hop,hx',g1,g2,Instr.sliceAt,Instr.slice,run_underlying t8,Instr.sliceBounds,run_sliceBound,h0,h1,h2,e1,(by omega:0<=q)]
   ·exact h.elim
  ·exact h.elim
 ·rename_i ty xs _ _ hx;split at h
  ·rename_i dh;split at h
   ·rename_i l q hl hq;obtain⟨⟨h0,h1,h2⟩,h⟩:=h;have h:XV.one _=y:=h;subst h;obtain⟨e,j,hu,hj,hsz⟩:=qP dh;obtain⟨A,n,c,hv,hr,_⟩:=aZ he hx;have hlen:=hr.len;have hcap:=hr.cap.1;have hR:=(hr.take (k:=q.toNat) (by omega)).drop (k:=l.toNat) (by omega);refine dW (v:=.slice (if c=l.toNat then A else A.map (·.add (l.toNat*j.size))) (q.toNat-l.toNat) (c-l.toNat)) ?_ ⟨_,_,_,rfl,by rw[hsz];exact hR,λe=>by cases e⟩;have e1:(q.toNat:Int)=q:=Int.toNat_of_nonneg (by omega);have e3:q<=(c:Int):=by omega
    unfold execOp;rcases mE he hl with⟨rfl,rfl⟩|⟨y1,k1,rfl,g1⟩<;>rcases mE he hq with⟨rfl,rfl⟩|⟨y2,k2,rfl,g2⟩
    ·simp[hop,hv,Instr.sliceAt,Instr.slice,run_underlying hu,Instr.sliceBounds,sizeOf,typeInfo,hj,hlen]
    ·simp[hop,hv,g2,Instr.sliceAt,Instr.slice,run_underlying hu,Instr.sliceBounds,run_sliceBound,sizeOf,typeInfo,hj,e3,(by omega:0<=q)]
    ·simp[hop,hv,g1,Instr.sliceAt,Instr.slice,run_underlying hu,Instr.sliceBounds,run_sliceBound,sizeOf,typeInfo,hj,h0,(by omega:l<=(n:Int)),hlen]
    ·simp[hop,hv,g1,g2,Instr.sliceAt,Instr.slice,run_underlying hu,Instr.sliceBounds,run_sliceBound,sizeOf,typeInfo,hj,h0,h1,e1,e3,(by omega:0<=q)]
   ·exact h.elim
  ·exact h.elim
 ·exact h.elim
end
theorem F2.mapL {α β γ:Type} {R:α->β->Prop} {R':γ->β->Prop} {f:α->γ} {l:List α} {m:List β} (h:F2 R l m) (hr:∀x∈l,∀y,R x y->R' (f x) y):F2 R' (l.map f) m:=by
 induction h with
 | nil=>exact .nil
 | cons h _ ih=>exact .cons (hr _ List.mem_cons_self _ h) (ih λx hx=>hr x (List.mem_cons_of_mem _ hx))
def AV.free:AV->Bool
 | .val _|.sym _|.list _ _ _|.ref _ _ _|.map _ _ _|.cl _ _ _=>true
 | _=>false
def XV.free:XV->Bool
 | .one a=>a.free
 | .agg cs=>cs.all AV.free
 | .tup l=>l.all λp=>p.2.all AV.free
def AV.plain:AV->Bool
 | .val _|.sym _=>true
 | _=>false
def mN (H:List aa) (o:Nat):aa->Option AV
 | .mq q=>match H[q]? with
  | some (.mr p kt t _ _ f)=>if p=o then some (.map kt (.list t) λk=>(f k).map List.reverse) else none
  | _=>none
 | y=>ft y
def iF (H:List aa):AV->AV
 | .own o=>((H[o]?).bind (mN H o)).getD (.own o)
 | .mp o=>((H[o]?).bind (mN H o)).getD (.mp o)
 | .mrow q kt k=>match H[q]? with
  | some (.mr _ fU t _ _ f)=>match Kt.eq? fU kt with
   | some h=>.list t (((h.down▸f:kt.K->Option (List (El t))) k).getD []).reverse false
   | none=>.mrow q kt k
  | _=>.mrow q kt k
 | a=>a
def JA (H:List aa):XV->XV
 | .one a=>.one (iF H a)
 | .agg cs=>.agg (cs.map (iF H))
 | x=>x
def iD (ty:TypeId->Option Ty) (H:List aa):XV->XV
 | .one (.ptr o off)=>match H[o]? with
  | some (.cells tid cs)=>match ty tid with
   | some (.st k)=>match un (.st k) (cs.map (iF H)) with
    | some x=>.one (.ref (.st k) x off)
    | none=>.one (.ptr o off)
   | _=>.one (.ptr o off)
  | _=>.one (.ptr o off)
 | .one (.clo k o)=>match H[o]? with
  | some (.cells tid [c])=>match ty tid with
   | some t=>match un t [iF H c] with
    | some x=>.one (.cl k t x)
    | none=>.one (.clo k o)
   | none=>.one (.clo k o)
  | _=>.one (.clo k o)
 | x=>JA H x
def aj (P:Program) (f:FuncId) (al:Bool) (F:List XV->T XV):Prop:=
 ∀(w:World) (S:Nat->Prop) (xs:List XV) (vs:List Value) (r:XV),Wd w->(∀b,S b->b<w.heap.size)->F2 (XR [] w S) xs vs->(F xs).hit r->
  Calls P f vs.toArray w λe w'=>∃v S',e=.returned v/\Below w.heap.size w w'/\(∀b,S' b->(al=true/\S b)\/(w.heap.size<=b/\b<w'.heap.size))/\XR [] w' S' r v
structure Sm (P:Program) where
 f:FuncId
 al:Bool
 F:List XV->T XV
 ok:aj P f al F
def EC (P:Program) (f:FuncId):Bool:=match P.funcs[f]? with
 | some fn=>!(fn.name== "runtime.NumGoroutine")&&fn.body.isSome
 | none=>false
def fe (env:Env):List Operand->Option (List XV)
 | []=>some []
 | x::l=>match ev env x,fe env l with
  | some y,some r=>some (y::r)
  | _,_=>none
def AV.mine:AV->Bool
 | .own _|.mp _|.mrow _ _ _|.ptr _ _|.clo _ _=>true
 | _=>false
def GW:XV->Bool
 | .one a=>a.mine
 | .agg cs=>cs.any AV.mine
 | _=>false
def JJ {P:Program} (ty:TypeId->Option Ty) (D:List (Sm P)) (H:List aa) (f:FuncId) (xs:Option (List XV)):T XV:=match xs,D.find? (λs=>s.f==f) with
 | some xs,some s=>if EC P f&&(xs.map (iD ty H)).all XV.free&&!(s.al&&xs.any GW) then(s.F (xs.map (iD ty H))).bind λx=>if x.free then .lf x else .bad else .bad
 | _,_=>.bad
section
variable {P:Program} {o:Oper} {cx:Cx} {bs aD:List Value} {w:World} {S:Nat->Prop} {H:List aa} {m:Nat} {env:Env} {a:Act} {bg:Nat}
theorem VR.free {x:AV} {v:Value} (hf:x.free=true) (h:VR bs w S x v):VR aD w S x v:=by
 cases x with
 | val u=>exact h
 | sym u=>exact h
 | list t xs q=>exact h
 | ref t x off=>exact h
 | map kt t f=>exact h
 | cl k t x=>exact h
 | _=>cases hf
theorem CR.free {ag:Bool} {cs:List AV} {v:Value} (hf:cs.all AV.free=true) (h:CR bs w S ag cs v):CR aD w S ag cs v:=by
 have hc:=List.all_eq_true.1 hf;have key:∀{cs:List AV} {vs:List Value},(∀x∈cs,x.free=true)->F2 (VR bs w S) cs vs->F2 (VR aD w S) cs vs:=by
  intro cs vs hc hf;induction hf with
  | nil=>exact .nil
  | cons h _ ih=>exact .cons (VR.free (hc _ List.mem_cons_self) h) (ih λx hx=>hc x (List.mem_cons_of_mem _ hx))
 unfold CR at h ⊢;cases ag with
 | true=>obtain⟨vs,e,h⟩:=h;exact⟨vs,e,key hc h⟩
 | false=>obtain⟨x,rfl,h⟩:=h;exact⟨x,rfl,VR.free (hc x List.mem_cons_self) h⟩
theorem XR.free {x:XV} {v:Value} (hf:x.free=true) (h:XR bs w S x v):XR aD w S x v:=by
 cases x with
 | one b=>exact VR.free hf h
 | agg cs=>exact CR.free hf h
 | tup l=>
  obtain⟨vs,e,h⟩:=h;refine⟨vs,e,?_⟩;have hc:=List.all_eq_true.1 hf;clear e;induction h with
  | nil=>exact .nil
  | @cons p _ _ _ h _ ih=>exact .cons (CR.free (hc p List.mem_cons_self) h) (ih (List.all_eq_true.2 λx hx=>hc x (List.mem_cons_of_mem _ hx)) λx hx=>hc x (List.mem_cons_of_mem _ hx))
def wY (bs:List Value) (H:List aa) (S:Nat->Prop) (b:Nat):Prop:=S b\/∃(i:Nat) (x:aa) (v:Value),H[i]?=some x/\bs[i]?=some v/\Bk x v b
theorem BQ (hs:HS cx bs w S H) {o:Nat} {y:aa} {x:AV} {v:Value} (hH:H[o]?=some y) (hx:mN H o y=some x) (hv:bs[o]?=some v):VR bs w (wY bs H S) x v:=by
 have hB:∀c,Bk y v c->wY bs H S c:=λc hc=>.inr ⟨o,y,v,hH,hv,hc⟩;cases y with
 | mq q=>
  unfold mN at hx;dsimp only at hx;split at hx
  ·rename_i p kt t e n f hq;split at hx
   ·rename_i hp;injection hx with hx
    subst hp hx;have AB:q<bs.length:=by rw[hs.len];exact(List.getElem?_eq_some_iff.1 hq).1
    have jG:=hs.o q _ _ hq (List.getElem?_eq_getElem AB);have Wn:∀c,oz kt (λ_=>False) bs[q] c->wY bs H S c:=λc hc=>.inr ⟨q,_,_,hq,List.getElem?_eq_getElem AB,hc⟩;obtain⟨b,l,g,e1,h1,h2,h3,h4,_⟩:=jG;rw[hv] at h1;injection h1 with h1
    subst h1;rw[e1] at Wn;refine .inr ⟨b,n,g,rfl,Wn b ⟨b,l,rfl,.inl rfl⟩,h2,λk=>?_⟩;have:=h4 k id;cases hf:f k with
    | none=>rw[hf] at this;show ox w _ ((f k).map List.reverse) _;rw[hf];exact this
    | some xs=>
     rw[hf] at this;obtain⟨u,hu,ho⟩:=this;obtain⟨A,m,c,rfl,hr⟩:=nh ho (λb h=>(.inl h:wY bs H S b)) λc hc=>Wn c ⟨b,l,rfl,.inr ⟨k,u,id,(h3 k u).1 hu,hc⟩⟩;show ox w _ ((f k).map List.reverse) _;rw[hf];exact⟨_,hu,A,m,c,rfl,hr⟩
   ·cases hx
  ·cases hx
 | _=>exact mO (hs.o o _ v hH hv) hx (λ_ h=>.inl h) hB
theorem iE (hs:HS cx bs w S H) {x:AV} {v:Value} (h:VR bs w S x v):VR bs w (wY bs H S) (iF H x) v:=by
 have up:VR bs w (wY bs H S) x v:=h.keep (λ_ h=>.inl h) (af.refl _ _) (eI.refl _);have one:∀o,ii x=some o->iF H x=((H[o]?).bind (mN H o)).getD x->VR bs w (wY bs H S) (iF H x) v:=by
  intro o ho e;rw[e];cases hH:H[o]? with
  | none=>exact up
  | some y=>
   show VR bs w _ ((mN H o y).getD x) v;cases hx:mN H o y with
   | none=>exact up
   | some z=>exact BQ hs hH hx (ni h ho)
 cases x with
 | own i=>exact one i rfl rfl
 | mp i=>exact one i rfl rfl
 | mrow q kt k=>
  show VR bs w _ (match H[q]? with|some (.mr _ fU t _ _ f)=>(match Kt.eq? fU kt with|some h=>AV.list t (((h.down▸f:kt.K->Option (List (El t))) k).getD []).reverse false|none=>.mrow q kt k)|_=>.mrow q kt k) v;split
  ·rename_i p fU t e n f hq;split
   ·rename_i hk _;obtain⟨rfl⟩:=hk;obtain⟨b,l,hb,hv,dh⟩:=h;have hB:∀c,oz fU (λ_=>False) (lD b l) c->wY bs H S c:=λc hc=>.inr ⟨q,_,_,hq,hb,hc⟩;obtain⟨b',l',g,e1,h1,h2,h3,h4,_⟩:=hs.o q _ _ hq hb;obtain⟨rfl,rfl⟩:=gL e1;have:=h4 k id;show VR bs w _ (.list t ((f k).getD []).reverse false) v;cases hf:f k with
    | none=>
     rw[hf] at this;rcases hv with hv|⟨rfl,_⟩
     ·rw[<-h3] at hv;rw[hv] at this;cases this
     ·exact⟨none,0,0,rfl,RS.nil _ _,λe=>by cases e⟩
    | some xs=>
     rw[hf] at this;obtain⟨u,hu,ho⟩:=this;have hm:=(h3 k u).1 hu;rcases hv with hv|⟨_,hv⟩
     ·rw[<-h3,hu] at hv;injection hv with hv
      subst hv;obtain⟨A,m,c,rfl,hr⟩:=nh ho (λb h=>(.inl h:wY bs H S b)) λc hc=>hB c ⟨b,l,rfl,.inr ⟨k,_,id,hm,hc⟩⟩;exact⟨A,m,c,rfl,hr,λe=>by cases e⟩
     ·exact absurd hm (hv u)
   ·exact up
  ·exact up
 | _=>exact up
theorem BM (hs:HS cx bs w S H) {x:XV} {v:Value} (h:XR bs w S x v):XR bs w (wY bs H S) (JA H x) v:=by
 cases x with
 | one b=>exact iE hs h
 | agg cs=>
  obtain⟨vs,e,h⟩:=h;exact⟨vs,e,h.mapL λ_ _ _ h=>iE hs h⟩
 | tup l=>exact h.keep (λ_ h=>.inl h) (af.refl _ _) (eI.refl _)
theorem sY (hs:HS cx bs w S H) {ty:TypeId->Option Ty} {x:XV} {v:Value} (h:XR bs w S x v):XR bs w (wY bs H S) (iD ty H x) v:=by
 have up:XR bs w (wY bs H S) x v:=h.keep (λ_ h=>.inl h) (af.refl _ _) (eI.refl _);unfold iD;split
 ·rename_i o off;split
  ·rename_i tid cs hH;split
   ·rename_i k _;split
    ·rename_i x hx;obtain⟨g,hb,rfl⟩:=h;obtain⟨g',vs,e,hk,hf⟩:=hs.o o _ _ hH hb;injection e with e
     injection e with e
     injection e with e
     subst e;exact⟨g,0,vs,.inr ⟨o,_,_,hH,hb,rfl⟩,by rw[Nat.zero_add],gQ hx (hf.mapL λ_ _ _ h=>iE hs h),λj u hj=>by rw[addr_add,Nat.zero_add,hk.cell];simpa using hj⟩
    ·exact up
   ·exact up
  ·exact up
 ·rename_i k o;split
  ·rename_i tid c hH;split
   ·rename_i t _;split
    ·rename_i x hx;obtain⟨g,hb,rfl⟩:=h;obtain⟨g',vs,e,hk,hf⟩:=hs.o o _ _ hH hb;injection e with e
     injection e with e
     injection e with e
     subst e;cases hf with
     | @cons _ u _ _ h1 h2=>
      cases h2
      exact⟨g,[u],.inr ⟨o,_,_,hH,hb,rfl⟩,rfl,gQ hx (.cons (iE hs h1) .nil),λj u hj=>by rw[addr_add,Nat.zero_add,hk.cell];simpa using hj⟩
    ·exact up
   ·exact up
  ·exact up
 ·exact BM hs h
theorem vc {a:AV} (h:a.mine=false):iF H a=a:=by
 cases a<;>first|rfl|cases h
theorem u9 {ty:TypeId->Option Ty} {x:XV} (h:GW x=false):iD ty H x=x:=by
 cases x with
 | one b=>cases b<;>first|rfl|cases h
 | agg cs=>
  replace h:cs.any AV.mine=false:=h;have:cs.map (iF H)=cs:=by
   revert h
   induction cs with
   | nil=>intro _;rfl
   | cons c l ih=>
    intro h;rw[List.any_cons,Bool.or_eq_false_iff] at h;rw[List.map_cons,ih h.2,vc h.1]
  show XV.agg (cs.map (iF H))=_;rw[this]
 | tup l=>rfl
theorem eS (he:ER m bs w S env a):∀{l:List Operand} {r:List XV},fe env l=some r->F2 (XR bs w S) r (l.map a.eval)
 | [],r,h=>by injection h with h;subst h;exact .nil
 | x::l,r,h=>by
  unfold fe at h;split at h
  ·rename_i y r' h1 h2;injection h with h
   subst h;exact .cons (aZ he h1) (eS he h2)
  ·cases h
theorem gT {f:FuncId} {args:Array Value} (h:EC P f=true):(callFunc f args).run P w=.ok (.enter f args) w:=by
 unfold EC at h;cases hf:P.funcs[f]? with
 | none=>rw[hf] at h;cases h
 | some fn=>
  rw[hf] at h;simp only[Bool.and_eq_true,Bool.not_eq_true'] at h;have hb:fn.body.isNone=false:=by cases hb:fn.body<;>simp_all
  unfold callFunc;have:(program:Sem Program).run P w=.ok P w:=rfl;simp only[Sem.run_bind,this,Result.andThen_ok,hf,h.1,Bool.false_eq_true,if_false,hb,Sem.run_pure]
theorem T.hit_free {t:T XV} {r:XV} (h:(t.bind λx=>if x.free then .lf x else .bad).hit r):t.hit r/\r.free=true:=by
 obtain⟨q,h1,h2⟩:=T.hit_bind h;split at h2
 ·rename_i hf;have h2:q=r:=h2;subst h2;exact⟨h1,hf⟩
 ·exact h2.elim
theorem m7 (hs:HS cx bs w S H) {ty:TypeId->Option Ty} {D:List (Sm P)} {f:FuncId} {args:Array Operand} {ts:Array TypeId} {ql:Option (List XV)} {cap:Array Value} (hq:∀xs,ql=some xs->F2 (XR bs w S) xs (args.toList.map a.eval++cap.toList)) {x:Operand} (hev:a.eval x=.func (.func f) #[] cap) (hop:o.op=.call { callee:=.value x,args:=args,argTypes:=ts }) {y:XV} (h:(JJ ty D H f ql).hit y):eA P o bs w S a bg (y,none):=by
 unfold JJ at h;split at h
 ·rename_i xs s hd;split at h
  ·rename_i hc;simp only[Bool.and_eq_true,Bool.not_eq_true',Bool.and_eq_false_iff] at hc;obtain⟨⟨hf,nN⟩,hal⟩:=hc;obtain⟨h,hyf⟩:=T.hit_free h;have hsf:s.f=f:=by have:=List.find?_some hd;simpa using this
   have ha:=hq xs rfl;have N9:∀b,wY bs H S b->b<w.heap.size:=λb hb=>by
    rcases hb with hb|⟨i,x,v,h1,h2,h3⟩
    ·exact(hs.s b hb).1
    ·exact(hs.o i x v h1 h2).lt h3
   have key:∃S1:Nat->Prop,(∀b,S1 b->b<w.heap.size)/\(s.al=true->∀b,S1 b->S b)/\F2 (XR [] w S1) (xs.map (iD ty H)) (args.toList.map a.eval++cap.toList):=by
    have im:∀x∈xs,(iD ty H x).free=true:=λx hx=>List.all_eq_true.1 nN _ (List.mem_map_of_mem hx);rcases hal with hal|hal
    ·refine⟨wY bs H S,N9,(λe=>by rw[hal] at e;cases e),?_⟩;exact ha.mapL λx hx v h1=>XR.free (im x hx) (sY hs h1)
    ·refine⟨S,λb hb=>(hs.s b hb).1,λ_ b hb=>hb,?_⟩;have It:∀x∈xs,GW x=false:=λx hx=>by
      have:=List.any_eq_false.1 hal x hx;simpa using this
     exact ha.mapL λx hx v h1=>by
      have h3:=im x hx;rw[u9 (It x hx)] at h3 ⊢;exact XR.free h3 h1
   obtain⟨S1,k1,k2,k3⟩:=key;have pX:=s.ok w S1 _ _ y hs.wd k1 k3 h;rw[hsf] at pX;intro K Q hk;unfold Oper.wp execOp;have kC:(args.toList.map a.eval++cap.toList).toArray=args.map a.eval++cap:=by
    rw[<-Array.toList_map,<-Array.toList_append]
   simp only[hop,resolve,hev,Deferred.ofValue,Sem.run_bind,Sem.run_pure,Result.andThen_ok,invoke,Array.empty_append,gT hf,Oper.upon_enter];rw[<-kC];refine pX.mono λe w' pU=>?_;obtain⟨v,S',rfl,hb,kb,hr⟩:=pU;refine hk v w' (λb=>S b\/S' b) undef hb (λ_ h=>.inl h) (λb h=>?_) (λaD _ _=>⟨?_,λ_ e=>by cases e⟩) λ_ e=>by cases e
   ·rcases h with h|h
    ·exact .inl h
    ·rcases kb b h with⟨h1,h2⟩|h2
     ·exact .inl (k2 h1 b h2)
     ·exact .inr h2
   ·exact(XR.free hyf hr).keep (λ_ h=>.inr h) (af.refl _ _) (eI.refl _)
  ·exact h.elim
 ·exact h.elim
theorem La (hs:HS cx bs w S H) (he:ER m bs w S env a) {ty:TypeId->Option Ty} {D:List (Sm P)} {f:FuncId} {args:Array Operand} {ts:Array TypeId} (hop:o.op=.call { callee:=.value (.func f),args:=args,argTypes:=ts }) {y:XV} (h:(JJ ty D H f (fe env args.toList)).hit y):eA P o bs w S a bg (y,none):=m7 (cap:=#[]) hs (λ_ hx=>by rw[Array.toList_empty,List.append_nil];exact eS he hx) rfl hop h
end
class Om (P:Program):Prop where
 eq:P=Tryz.prog
instance:Om Tryz.prog:=⟨rfl⟩
def LK (k:TypeId):Option Kt:=if k=Kt.id .s then some .s else if k=Kt.id .i then some .i else none
theorem H9 {k:TypeId} {kt:Kt} (h:LK k=some kt):k=kt.id:=by
 unfold LK at h;split at h
 ·rename_i e;injection h with h;rw[<-h];exact e
 ·split at h
  ·rename_i e;injection h with h;rw[<-h];exact e
  ·cases h
structure Nt where
 kt:Kt
 y:Ty
 zv:Value
 z0:El y
def Ds (P:Program) (ty:TypeId->Option Ty) (t:TypeId):Option Nt:=match P.underlying t with
 | some (.map k e)=>match LK k,ty e,(P.info? e).bind (·.zero) with
  | some kt,some y,some zv=>if zv.oneCell'&&y.one then(Ca y (.val zv)).map λz0=>⟨kt,y,zv,z0⟩ else none
  | _,_,_=>none
 | _=>none
def LL:(kt:Kt)->Option XV->Option kt.K
 | .s,x=>(qH x).map (·.1)
 | .i,x=>match iN x with
  | some (.i64,n,_)=>some n
  | _=>none
def Kt.to {a b:Kt} (h:a=b) (k:a.K):b.K:=h▸k
def Hq (c:Bool) (y:Ty) (z0:El y) (v:Option (El y)):XV:=if c then .tup [(false,[one y (v.getD z0)]),(false,[.sym (.bool v.isSome)])] else .one (one y (v.getD z0))
def rP:Value->Bool
 | .slice none 0 0=>true
 | _=>false
theorem v9 {v:Value} (h:rP v=true):v=.slice none 0 0:=by
 unfold rP at h;split at h
 ·rfl
 ·cases h
def YR (m:Nt) (H:List aa) (k:m.kt.K) (c:Bool):AV->T XV
 | .mp o=>match H[o]? with
  | some (.mp fU y' _ f)=>match Ty.eq? (.mp fU y') (.mp m.kt m.y) with
   | some h=>.nd (m.kt.ok k) (.lf (Hq c m.y m.z0 ((h.down▸(f:El (.mp fU y')):El (.mp m.kt m.y)) k)))
   | none=>.bad
  | some (.mq q)=>match H[q]? with
   | some (.mr p fU _ _ _ _)=>match Kt.eq? fU m.kt with
    | some _=>if p=o/\c=false/\rP m.zv=true then .nd (m.kt.ok k) (.lf (.one (.mrow q m.kt k))) else .bad
    | none=>.bad
   | _=>.bad
  | _=>.bad
 | .map fU y' f=>match Ty.eq? (.mp fU y') (.mp m.kt m.y) with
  | some h=>.nd (m.kt.ok k) (.lf (Hq c m.y m.z0 ((h.down▸(f:El (.mp fU y')):El (.mp m.kt m.y)) k)))
  | none=>.bad
 | .val (.map none)=>.nd (m.kt.ok k) (.lf (Hq c m.y m.z0 none))
 | _=>.bad
def Uy (P:Program) (ty:TypeId->Option Ty) (H:List aa) (t:TypeId) (m x:Option XV) (c:Bool):T XV:=match Ds P ty t,m with
 | some mt,some (.one a)=>match LL mt.kt x with
  | some k=>YR mt H k c a
  | none=>.bad
 | _,_=>.bad
def Pw (P:Program) (ty:TypeId->Option Ty) (bg:Nat) (t:TypeId):Option (XV×Option aa):=(Ds P ty t).map λm=>(.one (.mp bg),some (.mp m.kt m.y 0 λ_=>none))
def Lu (P:Program) (ty:TypeId->Option Ty) (bg:Nat) (H:List aa) (t:TypeId) (m x v:Option XV):T (List (Nat×aa)×Option aa):=match Ds P ty t,m,v with
 | some mt,some (.one (.mp o)),some (.one a)=>match LL mt.kt x,H[o]? with
  | some k,some (.mp fU y' n f)=>match Ty.eq? (.mp fU y') (.mp mt.kt mt.y),Ca mt.y a with
   | some h,some z=>.nd (mt.kt.ok k/\n<1000000000000) (.lf ([(o,.mp mt.kt mt.y (n+1) (gU mt.kt (h.down▸(f:El (.mp fU y')):El (.mp mt.kt mt.y)) k z))],none))
   | _,_=>.bad
  | some k,some (.mq q)=>match a,H[q]? with
   | .own r,some (.mx p fU t' e' n f k')=>match H[r]? with
    | some (.row t2 e2 rs)=>match Kt.eq? mt.kt fU,Ty.eq? t2 t' with
     | some h,some h2=>if p=o/\e2=e' then .nd (mt.kt.ok k/\Kt.to h.down k=k'/\n<1000000000000) (.lf ([(q,.dead),(r,.dead),(o,.mq bg)],some (.mr o fU t' e' (n+1) (gU fU f k' (h2.down▸rs:List (El t')))))) else .bad
     | _,_=>.bad
    | _=>.bad
   | _,_=>.bad
  | _,_=>.bad
 | _,_,_=>.bad
def DC (H:List aa):Option XV->Option XV
 | some (.one a)=>match iF H a with
  | .list _ xs _=>some (.one (.sym (.int .i64 (xs.length:Int))))
  | _=>none
 | _=>none
theorem Kt.val_inj:{kt:Kt}->{x y:kt.K}->kt.val x=kt.val y->x=y
 | .s,_,_,h=>by injection h
 | .i,_,_,h=>by injection h
section
variable {P:Program} {o:Oper} {cx:Cx} {bs aD:List Value} {w w':World} {S:Nat->Prop} {H:List aa} {m:Nat} {env:Env} {a:Act} {bg:Nat} {ty:TypeId->Option Ty}
theorem yi {t:TypeId} {mt:Nt} (h:Ds P ty t=some mt):∃e,P.underlying t=some (.map mt.kt.id e)/\(∀w,(zeroValue e).run P w=.ok mt.zv w)/\mt.y.one=true/\mt.zv.oneCell'=true/\∀w S,ak.rep (α:=El mt.y) w S [mt.zv] mt.z0:=by
 unfold Ds at h;split at h
 ·rename_i k e hu;split at h
  ·rename_i kt y zv hk _ hz;split at h
   ·rename_i hc;rw[Bool.and_eq_true] at hc;obtain⟨i,hi,hz⟩:=Option.bind_eq_some_iff.1 hz;obtain⟨z0,h0,h⟩:=Option.map_eq_some_iff.1 h;subst h;obtain rfl:=H9 hk;exact⟨e,hu,λw=>by simp[zeroValue,typeInfo,hi,hz],hc.2,hc.1,λw S=>jh (bs:=[]) h0 ⟨rfl,hc.1⟩⟩
   ·cases h
  ·cases h
 ·cases h
theorem rK (he:ER m bs w S env a) {x:Operand}:{kt:Kt}->{k:kt.K}->LL kt (ev env x)=some k->a.eval x=kt.val k
 | .s,k,h=>by
  obtain⟨p,h1,h2⟩:=Option.map_eq_some_iff.1 h;subst h2;exact kn he h1
 | .i,k,h=>by
  have h:(match iN (ev env x) with|some (.i64,n,_)=>some n|_=>none)=some k:=h;split at h
  ·rename_i n _ h1;injection h with h
   subst h;exact d9 he h1
  ·cases h
theorem Dt {c:Bool} {y:Ty} {z0:El y} {zv:Value} {f:Option (El y)} {g:Option Value} (hy:y.one=true) (hz:ak.rep (α:=El y) w S [zv] z0) (h:ox w S f g):XR bs w S (Hq c y z0 f) (if c then .tuple #[g.getD zv,.bool g.isSome] else g.getD zv):=by
 have key:ak.rep (α:=El y) w S [g.getD zv] (f.getD z0)/\g.isSome=f.isSome:=by
  cases f with
  | none=>obtain rfl:g=none:=h;exact⟨hz,rfl⟩
  | some x=>obtain⟨u,rfl,hu⟩:=h;exact⟨hu,rfl⟩
 cases c with
 | false=>exact mn hy key.1
 | true=>
  rw[key.2];exact⟨[_,_],rfl,.cons ⟨_,rfl,mn hy key.1⟩ (.cons ⟨_,rfl,rfl,rfl⟩ .nil)⟩
theorem Lz (hs:HS cx bs w S H) (he:ER m bs w S env a) (hP:Om P) {t:TypeId} {mo x:Operand} {c:Bool} (hop:o.op=.lookup t mo x c) {y:XV} (h:(Uy P ty H t (ev env mo) (ev env x) c).hit y):eA P o bs w S a bg (y,none):=by
 obtain rfl:=hP.eq;unfold Uy at h;split at h
 ·rename_i mt b hm hb;split at h
  ·rename_i k hk;obtain⟨e,hu,hz,L0,hz1,UM⟩:=yi hm;have Qt:=rK he hk;have hv:=aZ he hb;have fin:∀{v:Value} {y:XV},(Instr.lookup t (a.eval mo) (mt.kt.val k) c).run Tryz.prog w=.ok v w->XR bs w S y v->eA Tryz.prog o bs w S a bg (y,none):=λhr hx=>dW (by unfold execOp;simp[hop,Qt,hr]) hx;have data:∀{bl n:Nat} {g:mt.kt.K->Option Value} {f:mt.kt.K->Option (El mt.y)},a.eval mo=.map (some bl)->fK w mt.kt bl n g->ox w S (f k) (g k)->mt.kt.ok k->eA Tryz.prog o bs w S a bg (Hq c mt.y mt.z0 (f k),none):=by
    intro bl n g f ha hg hf mf;refine fin (v:=if c then .tuple #[(g k).getD mt.zv,.bool (g k).isSome] else(g k).getD mt.zv) ?_ (Dt L0 (UM w S) hf);rw[ha];cases c with
    | false=>exact hg.look hu (hz w) mf
    | true=>exact hg.look2 hu (hz w) mf
   have nil:a.eval mo=.map none->mt.kt.ok k->eA Tryz.prog o bs w S a bg (Hq c mt.y mt.z0 none,none):=by
    intro ha mf;refine fin (v:=if c then .tuple #[mt.zv,.bool false] else mt.zv) ?_ (Dt (g:=none) L0 (UM w S) rfl);rw[ha];have:=look_nil (kt:=mt.kt) hu (hz w) mf;cases c with
    | false=>exact this.1
    | true=>exact this.2
   unfold YR at h;split at h
   ·rename_i ob;split at h
    ·rename_i fU y' n f hH;split at h
     ·rename_i q _;obtain⟨q⟩:=q;injection q with q1 q2
      subst q1 q2;obtain⟨mf,h⟩:=h;have h:Hq c _ _ (f k)=y:=h;subst h;obtain⟨bp,_⟩:=hv;obtain⟨bl,g,e1,hg,hf⟩:=hs.o ob _ _ hH bp;exact data e1 hg (hf k) mf
     ·exact h.elim
    ·rename_i q hH;split at h
     ·rename_i p fU t' e' n f hQ;split at h
      ·rename_i ub _;obtain⟨ub⟩:=ub;subst ub;split at h
       ·rename_i hc;obtain⟨rfl,rfl,SB⟩:=hc;have SB:=v9 SB;obtain⟨mf,h⟩:=h;have h:XV.one (.mrow q mt.kt k)=y:=h;subst h;obtain⟨bp,bl0,e0⟩:=hv;have AB:q<bs.length:=by rw[hs.len];exact(List.getElem?_eq_some_iff.1 hQ).1
        have AK:=List.getElem?_eq_getElem AB;obtain⟨bl,l,g,e1,h1,h2,h3,h4,_⟩:=hs.o q _ _ hQ AK;rw[bp] at h1;injection h1 with h1
        refine fin (v:=(g k).getD mt.zv) (by rw[h1];exact h2.look hu (hz w) mf) ⟨bl,l,by rw[AK,e1],?_,?_⟩
        ·cases hg:g k with
         | none=>exact .inr ⟨SB,λu hu=>by rw[<-h3,hg] at hu;cases hu⟩
         | some u=>exact .inl ((h3 k u).1 hg)
        ·have:=h4 k id;cases hf:f k with
         | none=>rw[hf] at this;rw[this];exact⟨none,0,0,SB⟩
         | some xs=>
          rw[hf] at this;obtain⟨u,hu,ho⟩:=this;obtain⟨A,n',c',rfl,_⟩:=ho.slice;rw[hu];exact⟨A,n',c',rfl⟩
       ·exact h.elim
      ·exact h.elim
     ·exact h.elim
    ·exact h.elim
   ·rename_i fU y' f;split at h
    ·rename_i q _;obtain⟨q⟩:=q;injection q with q1 q2
     subst q1 q2;obtain⟨mf,h⟩:=h;have h:Hq c _ _ (f k)=y:=h;subst h;rcases hv with⟨e1,hf⟩|⟨bl,n,g,e1,_,hg,hf⟩
     ·injection e1 with e1
      rw[hf k];exact nil e1 mf
     ·injection e1 with e1
      exact data e1 hg (hf k) mf
    ·exact h.elim
   ·obtain⟨mf,h⟩:=h;have h:Hq c _ _ none=y:=h;subst h;exact nil hv.1 mf
   ·exact h.elim
  ·exact h.elim
 ·exact h.elim
theorem Hb (hs:HS cx bs w S H) {t:TypeId} (hop:o.op=.makeMap t none) {r:XV×Option aa} (h:Pw P ty bg t=some r):eA P o bs w S a bg r:=by
 obtain⟨mt,_,h⟩:=Option.map_eq_some_iff.1 h;subst h;intro K Q hk;have hr:(execOp a.eval o).run P w=.ok (.value (.map (some w.heap.size))) (w.alloc (.map #[] 0)):=by unfold execOp;simp[hop,Instr.makeMap]
 unfold Oper.wp;rw[hr,Oper.upon_value];refine hk _ _ S (.map (some w.heap.size)) (iZ _ _) (λ_ h=>h) (λ_ h=>.inl h) (λaD ha hn=>⟨⟨hn rfl,_,rfl⟩,λx hx=>?_⟩) λx hx b hbk=>?_
 ·injection hx with hx
  subst hx;exact⟨w.heap.size,λ_=>none,rfl,fK.made w,λ_=>rfl⟩
 ·injection hx with hx
  subst hx;injection hbk with hbk
  subst hbk;exact⟨Nat.le_refl _,λq=>Nat.lt_irrefl _ (hs.s _ q).1⟩
theorem Hz (hs:HS cx bs w S H) (he:ER m bs w S env a) {x:Operand} {t:TypeId} {ts:Array TypeId} (hop:o.op=.call { callee:=.builtin .len,args:=#[x],argTypes:=ts }) (ht:ts[0]?=some t) (hu:((P.underlying t).map λd=>match d with|.slice _=>true|_=>false)=some true) {y:XV} (h:DC H (ev env x)=some y):eA P o bs w S a bg (y,none):=by
 unfold DC at h;split at h
 ·rename_i b hx;split at h
  ·rename_i ty xs q hv;injection h with h
   subst h;have:=iE hs (aZ he hx);rw[hv] at this;obtain⟨A,n,c,hv,hr,_⟩:=this;exact dW (yp hop ht hu hv) ⟨by rw[hr.len],rfl⟩
  ·cases h
 ·cases h
end
def MX (P:Program) (t:TypeId) (x y:Value):Option Bool:=match P.underlying t,x,y with
 | some (.int _),.int k m,.int k' n=>if k=k' then some (m==n) else none
 | some .bool,.bool m,.bool n=>some (m==n)
 | some .string,.string m,.string n=>some (m.toList==n.toList)
 | _,_,_=>none
def EM (P:Program) (xs ys:Array Value):List Field->Option Bool
 | []=>some true
 | f::fs=>if f.name≠ "_" /\P.plainKey f.type=true then match xs[f.offset]?,ys[f.offset]? with
  | some u,some v=>match MX P f.type u v,EM P xs ys fs with
   | some p,some q=>some (p&&q)
   | _,_=>none
  | _,_=>none else none
def DL (P:Program) (t:TypeId):Bool:=match P.underlying t with
 | some (.struct _)=>true
 | _=>false
def YO:BinOp->Option Bool
 | .eql=>some false
 | .neq=>some true
 | _=>none
def xy (P:Program) (k:BinOp) (t:TypeId) (x y:Option XV):Option XV:=match x.bind Q8,y.bind Q8,YO k with
 | some (.agg xs,c),some (.agg ys,d),some g=>if P.stoodInHeld t||P.eqGuardType P.depth t then none else(EM P xs ys (P.fieldsOf t).toList).map λb=>.one (Py (c&&d) (.bool (g ^^ b)))
 | _,_,_=>none
section
variable {P:Program} {o:Oper} {cx:Cx} {bs:List Value} {w:World} {S:Nat->Prop} {H:List aa} {m:Nat} {env:Env} {a:Act} {bg:Nat}
theorem EN {d:Nat} {t:TypeId} {x y:Value} {b:Bool} (h:MX P t x y=some b):(Op.equalIn (d+1) t x y).run P w=.ok b w:=by
 unfold MX at h;split at h
 ·rename_i k' k m k2 n hu;split at h
  ·rename_i e;injection h with h
   subst e h;exact run_equalIn_int w d t _ _ _ _ hu
  ·cases h
 ·rename_i hu;injection h with h
  subst h;exact run_equalIn_bool w d t _ _ hu
 ·rename_i hu;injection h with h
  subst h;exact run_equalIn_string w d t _ _ hu
 ·cases h
theorem um {d:Nat} {xs ys:Array Value}:∀{fs:List Field} {b:Bool},EM P xs ys fs=some b->(Op.eqFields (d+1) xs ys fs).run P w=.ok b w
 | [],b,h=>by injection h with h;subst h;simp[Op.eqFields]
 | f::fs,b,h=>by
  unfold EM at h;split at h
  ·rename_i hn;split at h
   ·rename_i u v hu hv;split at h
    ·rename_i p q hp hq;injection h with h
     subst h;have ih:=um (d:=d) hq;simp only[Op.eqFields,hn.1,ne_eq,not_false_eq_true,if_true,Sem.run_bind,run_part_plain w hn.2 hu,run_part_plain w hn.2 hv,EN hp,Result.andThen_ok];cases p with
     | true=>simpa using ih
     | false=>simp
    ·cases h
   ·cases h
  ·cases h
theorem Cs (he:ER m bs w S env a) {k:BinOp} {t u:TypeId} {x y:Operand} (hop:o.op=.binOp k t x y u) (hs:DL P t=true) {z:XV} (h:xy P k t (ev env x) (ev env y)=some z):eA P o bs w S a bg (z,none):=by
 unfold xy at h;split at h
 ·rename_i xs c ys d g hx hy hg;split at h
  ·cases h
  ·rename_i lx;simp only[Bool.or_eq_true,not_or,Bool.not_eq_true] at lx;have tk:∀{x:Operand} {q:Value} {c:Bool},(ev env x).bind Q8=some (q,c)->a.eval x=q:=λ{x q c} h=>by
    cases e:ev env x with
    | none=>rw[e] at h;cases h
    | some y=>rw[e] at h;exact EY (p:=(q,c)) h (aZ he e)
   have hx':=tk hx;have Br:=tk hy;cases e:EM P xs ys (P.fieldsOf t).toList with
   | none=>rw[e] at h;cases h
   | some b=>
    rw[e] at h;injection h with h
    subst h;have ht:P.underlying t=some (.struct (P.fieldsOf t)):=by
     unfold DL at hs;unfold Program.fieldsOf;split at hs
     ·rename_i fs hu;rw[hu]
     ·cases hs
    have hr:(Op.equalIn 10000 t (.agg xs) (.agg ys)).run P w=.ok b w:=(run_equalIn_struct w 9999 t xs ys ht lx.1).trans (um (d:=9998) e);have hq:=run_eqGuard_agg (P:=P) w k t x y xs ys lx.2;refine dW (v:=.bool (g ^^ b)) ?_ (vT rfl);unfold execOp;unfold YO at hg;split at hg
    ·injection hg with hg
     subst hg;simp only[hop,hx',Br,Sem.run_bind,hq,Result.andThen_ok,run_eql_struct,hr];cases b<;>rfl
    ·injection hg with hg
     subst hg;simp only[hop,hx',Br,Sem.run_bind,hq,Result.andThen_ok,run_neq_struct,hr];cases b<;>rfl
    ·cases hg
 ·cases h
end
def u8s (xs:List Int):List UInt8:=xs.map λv=>UInt8.ofNat v.toNat
theorem RS.u8s {w:World} {S:Nat->Prop} {A:Option Addr} {n c:Nat} {xs:List Int} (h:@RS Int (m0 .u8) w S A n c xs) (hb:∀v∈xs,0<=v/\v<=255):RS w S A n c (u8s xs):=by
 obtain⟨h1,h2,h3,h4⟩:=h;refine⟨by unfold Go.Proofs.YtichkplomldgiaaGreatDoor.u8s;rw[List.length_map];exact h1,h2,h3,λhn=>?_⟩;obtain⟨b,o,e,hs,he⟩:=h4 hn;refine⟨b,o,e,hs,λk x hx=>?_⟩;unfold Go.Proofs.YtichkplomldgiaaGreatDoor.u8s at hx;rw[List.getElem?_map] at hx;obtain⟨v,hv,rfl⟩:=Option.map_eq_some_iff.1 hx;have hvb:=hb v (List.mem_of_getElem? hv);obtain⟨cs,hr,hc⟩:=he k v hv;refine⟨cs,?_,hc⟩;have hr:cs=[.int .u8 v]:=hr;show cs=[.int .u8 ((UInt8.ofNat v.toNat).toNat:Int)];rw[hr,UInt8.toNat_ofNat'];congr 2
 omega
def yx (P:Program) (s t:TypeId):Bool:=match P.underlying s,P.underlying t with
 | some (.slice e),some .string=>match P.underlying e with
  | some (.int .u8)=>true
  | _=>false
 | _,_=>false
theorem DN {P:Program} {s t:TypeId} (h:yx P s t=true):∃e,P.underlying s=some (.slice e)/\P.underlying e=some (.int .u8)/\P.underlying t=some .string:=by
 unfold yx at h;split at h
 ·rename_i e h1 h2;split at h
  ·rename_i h3;exact⟨e,h1,h3,h2⟩
  ·cases h
 ·cases h
def WH (xs:List Int):T XV:=.nd (∀v∈xs,0<=v/\v<=255) (.lf (.one (.sym (.string ⟨(u8s xs).toArray⟩))))
def M8 (H:List aa) (x:Option XV):T XV:=match x with
 | some (.one (.list (.int .u8) xs _))=>WH xs
 | some (.one (.own o))=>match H[o]? with
  | some (.row (.int .u8) _ rs)=>WH (List.reverse (α:=Int) rs)
  | _=>.bad
 | _=>.bad
section
variable {P:Program} {o:Oper} {cx:Cx} {bs aD:List Value} {w w':World} {S:Nat->Prop} {H:List aa} {m:Nat} {env:Env} {a:Act} {bg:Nat}
theorem Po (hs:HS cx bs w S H) (he:ER m bs w S env a) {x:Operand} {ob:Nat} {ty:Ty} {e:TypeId} {rs:List (El ty)} (hx:ev env x=some (.one (.own ob))) (hH:H[ob]?=some (.row ty e rs)):∃A n c,a.eval x=.slice A n c/\RS w (λ_=>True) A n c rs.reverse:=by
 obtain⟨hb,A,n,c,hv⟩:=aZ he hx;have ho:Own (α:=El ty) w S 0 e (a.eval x) rs.reverse:=hs.o ob _ _ hH hb;rw[hv] at ho;exact⟨A,n,c,hv,ho.rs (λ_ _=>trivial) λ_ _ _=>trivial⟩
theorem I1 (hs:HS cx bs w S H) (he:ER m bs w S env a) {s t:TypeId} {x:Operand} (hop:o.op=.convert s t x) (hu:yx P s t=true) {y:XV} (h:(M8 H (ev env x)).hit y):eA P o bs w S a bg (y,none):=by
 obtain⟨e,h1,h2,h3⟩:=DN hu;have key:∀{S':Nat->Prop} {A:Option Addr} {n c:Nat} {xs:List Int},a.eval x=.slice A n c->@RS Int (m0 .u8) w S' A n c xs->(WH xs).hit y->eA P o bs w S a bg (y,none):=by
  intro S' A n c xs hv hr hy;obtain⟨hb,hy⟩:=hy;obtain rfl:XV.one _=y:=hy;refine dW (v:=.string ⟨(u8s xs).toArray⟩) ?_ ⟨rfl,rfl⟩;unfold execOp;simp only[hop,hv,Sem.run_bind,uw h1 h2 h3 (hr.u8s hb),Result.andThen_ok,Sem.run_pure]
 unfold M8 at h;split at h
 ·rename_i xs _ hx;obtain⟨A,n,c,hv,hr,_⟩:=aZ he hx;exact key hv hr h
 ·rename_i ob hx;split at h
  ·rename_i e rs hH;obtain⟨A,n,c,hv,hr⟩:=Po hs he hx hH;exact key hv hr h
  ·cases h
 ·cases h
end
def oD (x:Option XV):T (XV×Option aa):=T.op (x.map λy=>(y,none))
def Dx (t:T XV):T (XV×Option aa):=t.bind λx=>.lf (x,none)
def YI (c x y:Option XV):T (XV×Option aa):=match c with
 | some (.one (.val (.bool b)))=>oD (bif b then x else y)
 | some (.one (.sym (.bool b)))=>.br b (oD x) (oD y)
 | _=>.bad
def UJ:BinOp->Bool
 | .add|.sub|.mul=>true
 | _=>false
def arB (k:BinOp) (x y:Option XV):Bool:=UJ k&&match iN x,iN y with
 | some (.i64,_,c),some (.i64,_,d)=>!(c&&d)
 | _,_=>false
def Rk (k:BinOp) (x y:Option XV):Bool:=(match k with|.add=>true|_=>false)&&match qH x,qH y with
 | some (_,c),some (_,d)=>!(c&&d)
 | _,_=>false
def v8 (P:Program) (t:TypeId):Bool:=match P.underlying t with
 | some .string=>true
 | _=>false
def yw (P:Program) (t:TypeId):Bool:=match P.underlying t with
 | some (.slice _)=>true
 | _=>false
def Ly (P:Program) (ty:TypeId->Option Ty) (bg:Nat) (t:TypeId) (l c:Option XV):T (XV×Option aa):=match P.underlying t,iN l,iN c with
 | some (.slice e),some (_,n,_),some (_,q,_)=>match P.info? e,ty e,mI P e with
  | some i,some y,some z=>match un y z with
   | some z0=>if i.size=ak.sz (El y)/\i.size=z.length/\0<i.size then .nd (0<=n/\q=n/\n*((i.bytes:Int)+1)<=281474976710656) (.lf (.one (.own bg),some (.row y e (List.replicate n.toNat z0)))) else .bad
   | none=>.bad
  | _,_,_=>.bad
 | _,_,_=>.bad
def Kf {P:Program} (ty:TypeId->Option Ty) (D:List (Sm P)) (bg:Nat) (env:Env) (H:List aa) (o:Oper):T (XV×Option aa):=match o.op with
 | .move x|.assign x=>oD (ev env x)
 | .nilCheck x=>oD (Ut (ev env x))
 | .load t x=>oD (LC P H t (ev env x))
 | .fieldAddr s x i=>oD (MS P s i (ev env x))
 | .field s x i=>oD (MQ P s i (ev env x))
 | .indexAddr t x i=>Dx (UI P H t (ev env x) (ev env i))
 | .extract x i=>oD (Tv (ev env x) i)
 | .box t x=>T.op (Ba t bg (ev env x))
 | .alloc t=>T.op (Ba t bg (BC P t))
 | .build t ps=>oD (Nk P t (gg env ps.toList))
 | .buildSlice t n ps=>T.op (zO P ty bg t n (gg env ps.toList))
 | .makeSlice t l c=>Ly P ty bg t (ev env l) (ev env c)
 | .slice t x lo hi none=>Dx (TL P t (ev env x) (lo.map (ev env)) (hi.map (ev env)))
 | .index t x i=>if v8 P t then Dx (WR (ev env x) (ev env i)) else oD (ig P env o)
 | .convert s t x=>if yx P s t then Dx (M8 H (ev env x)) else oD (ig P env o)
 | .pick c x y=>YI (ev env c) (ev env x) (ev env y)
 | .binOp k t x y _=>if yw P t then oD ((G4 k (ev env x) (ev env y)).orElse λ_=>ig P env o) else if arB k (ev env x) (ev env y) then Dx (W9 k (ev env x) (ev env y)) else if Rk k (ev env x) (ev env y) then Dx (Ng (ev env x) (ev env y)) else if DL P t then oD ((xy P k t (ev env x) (ev env y)).orElse λ_=>ig P env o) else oD (ig P env o)
 | .call { callee:=.builtin .len,args:=args,argTypes:=ts }=>match args.toList,ts[0]? with
  | [x],some t=>if yw P t then oD ((Hw H (ev env x)).orElse λ_=>(DC H (ev env x)).orElse λ_=>ig P env o) else oD (ig P env o)
  | _,_=>.bad
 | .call { callee:=.value (.func f),args:=args, .. }=>Dx (JJ ty D H f (fe env args.toList))
 | .call { callee:=.value (.tmp t),args:=args, .. }=>match env.lookup t with
  | some (.one (.val (.func (.func f) b c)))=>if b.size=0/\c.size=0 then Dx (JJ ty D H f (fe env args.toList)) else .bad
  | some (.one (.clo k o))=>Dx (JJ ty D H k ((fe env args.toList).map (·++[.one (.ptr o 0)])))
  | some (.one (.cl k t x))=>Dx (JJ ty D H k ((fe env args.toList).map (·++[.one (.ref t x 0)])))
  | _=>.bad
 | .makeMap t none=>T.op (Pw P ty bg t)
 | .makeFunc (.func k) b c=>match b.toList,c.toList with
  | [],[x]=>match ev env x with
   | some (.one (.ptr o 0))=>oD (some (.one (.clo k o)))
   | _=>.bad
  | _,_=>.bad
 | .lookup t x y c=>Dx (Uy P ty H t (ev env x) (ev env y) c)
 | _=>oD (ig P env o)
section
variable {P:Program} {o:Oper} {cx:Cx} {bs aD:List Value} {w w':World} {S:Nat->Prop} {H:List aa} {m:Nat} {env:Env} {a:Act} {bg:Nat}
theorem Iy {x:Option XV} {r:XV×Option aa} (h:(oD x).hit r):∃y,x=some y/\r=(y,none):=by
 have h:=T.hit_op h;cases x with
 | none=>cases h
 | some y=>injection h with h;exact⟨y,rfl,h.symm⟩
theorem cK {x:Option XV} {r:XV×Option aa} (h:(oD x).hit r) (hk:∀y,x=some y->eA P o bs w S a bg (y,none)):eA P o bs w S a bg r:=by
 obtain⟨y,h1,rfl⟩:=Iy h;exact hk y h1
theorem Ap {t:TypeId} (h:v8 P t=true):P.underlying t=some .string:=by
 unfold v8 at h;split at h
 ·assumption
 ·cases h
theorem nD {t:TypeId} (h:yw P t=true):((P.underlying t).map λd=>match d with|.slice _=>true|_=>false)=some true:=by
 unfold yw at h;split at h
 ·rename_i e hu;rw[hu];rfl
 ·cases h
theorem Flat.replicate {α:Type} [ak α] {x:α} {cs:List Value} (h:ak.rep w S cs x):∀n,Flat w S (List.replicate n cs).flatten (List.replicate n x)
 | 0=>.nil
 | n+1=>by
  rw[List.replicate_succ',List.replicate_succ',List.flatten_append,List.flatten_singleton];exact .snoc (Flat.replicate h n) h
theorem Hg (hs:HS cx bs w S H) (he:ER m bs w S env a) {ty:TypeId->Option Ty} {t:TypeId} {l c:Operand} (hop:o.op=.makeSlice t l c) {r:XV×Option aa} (h:(Ly P ty bg t (ev env l) (ev env c)).hit r):eA P o bs w S a bg r:=by
 unfold Ly at h;split at h
 ·rename_i e kl n cl kc q cc hu hl hc;split at h
  ·rename_i i y z hi hy hz;split at h
   ·rename_i z0 hz0;split at h
    ·rename_i hsz;obtain⟨s1,s2,s3⟩:=hsz;obtain⟨⟨n0,rfl,n1⟩,h⟩:=h;have h:(XV.one (.own bg),some (aa.row y e (List.replicate q.toNat z0)))=r:=h;subst h;obtain⟨k,rfl⟩:∃k:Nat,q=k:=⟨q.toNat,by omega⟩;obtain⟨i',zv,yE,ew,hf⟩:=je (bs:=bs) (w:=w) (S:=S) hz;rw[hi] at yE;obtain rfl:=Option.some.inj yE;have hn1:k*(i.bytes+1)<=281474976710656:=by
      have:((k*(i.bytes+1):Nat):Int)<=281474976710656:=by rw[Int.natCast_mul];exact n1
      omega
     have nJ:i.bytes*k<=281474976710656:=by rw[Nat.mul_add,Nat.mul_one,Nat.mul_comm] at hn1;omega
     have fb:k<=281474976710656:=by rw[Nat.mul_add,Nat.mul_one] at hn1;omega
     obtain⟨w',iP,r1,r2⟩:=run_make_full (P:=P) w w.heap.size t e i zv (ak.sz (El y)) hu hi ew s1 kl kc k nJ (by unfold maxLen;omega) (Nat.le_refl _);have oU:=d9 he hl;have Ep:=d9 he hc;intro K Q hk;unfold Oper.wp execOp;simp only[hop,oU,Ep,Sem.run_bind,iP,Result.andThen_ok,Sem.run_pure,Oper.upon_value];have hb:Below w.heap.size w w':=⟨r2.os,r2.tape,r2.output,r2.size,λb hb=>r2.block b hb (by simp)⟩;have aV:af S w w':=(af.of_below hb).sub λb q=>(hs.s b q).1;have Ma:ak.rep w S zv.cells.toList z0:=gQ hz0 hf;have pP:z.length=zv.cells.size:=hf.length.trans Array.length_toList;have hcells:(madeCells zv.cells (k*ak.sz (El y))).toList=(List.replicate k zv.cells.toList).flatten:=by
      have:=lS zv.cells.toList (by rw[Array.length_toList];omega) k;rw[Array.length_toList,show zv.cells.toList.toArray=zv.cells from Array.toArray_toList] at this;rw[<-this,<-s1,s2,pP];rfl
     rw[hcells] at r1;refine hk _ w' S (.slice (some ⟨w.heap.size,0,none⟩) k k) hb (λ_ h=>h) (λ_ h=>.inl h) (λaD ha hn=>⟨⟨hn rfl,_,_,_,rfl⟩,λx hx=>?_⟩) λx hx b hbk=>?_
     ·injection hx with hx
      subst hx;show Own (α:=El y) _ S 0 e _ (List.replicate k z0).reverse;rw[List.reverse_replicate];refine⟨_,?_,Flat.replicate (ak.keep Ma (λ_ h=>h) aV) k,λb iy=>⟨Nat.lt_of_lt_of_le (hs.s b iy).1 hb.size,λe=>?_⟩⟩
      ·rw[List.length_replicate];obtain⟨q1,q2⟩:=r1;refine⟨q1,q2.imp id λ⟨g,cap,cur,p1,p2,p3⟩=>⟨g,cap,cur,p1,Nat.zero_le _,p3⟩⟩
      ·have e':b=w.heap.size:=Option.some.inj e;have:=(hs.s b iy).1;omega
     ·injection hx with hx
      subst hx;injection hbk with hbk
      subst hbk;exact⟨Nat.le_refl _,λq=>Nat.lt_irrefl _ (hs.s _ q).1⟩
    ·exact h.elim
   ·exact h.elim
  ·exact h.elim
 ·exact h.elim
theorem sc (hP:Om P) (hs:HS cx bs w S H) (he:ER m bs w S env a) {ty:TypeId->Option Ty} {D:List (Sm P)} {r:XV×Option aa} (h:(Kf ty D bg env H o).hit r):eA P o bs w S a bg r:=by
 have pu:(oD (ig P env o)).hit r->eA P o bs w S a bg r:=λh=>cK h λy hy=>kq he hy;unfold Kf at h;split at h
 ·rename_i x hop;exact cK h λy hy=>Dg he (.inl hop) hy
 ·rename_i x hop;exact cK h λy hy=>Dg he (.inr hop) hy
 ·rename_i x hop;exact cK h λy hy=>Ls he hop hy
 ·rename_i t x hop;exact cK h λy hy=>LB hs he hop hy
 ·rename_i s x i hop;exact cK h λy hy=>IS he hop hy
 ·rename_i s x i hop;exact cK h λy hy=>IP he hop hy
 ·rename_i t x i hop;exact eA.of_hit h λy hy=>LP hs he hop hy
 ·rename_i x i hop;exact cK h λy hy=>KC he hop hy
 ·rename_i t x hop;exact Jc hs he hop (T.hit_op h)
 ·rename_i t hop;exact Jo hs hop (T.hit_op h)
 ·rename_i t ps hop;exact cK h λy hy=>Jg he hop hy
 ·rename_i t n ps hop;exact GB hs he hop (T.hit_op h)
 ·rename_i t l c hop;exact Hg hs he hop h
 ·rename_i t x lo hi hop;exact eA.of_hit h λy hy=>KR he hop hy
 ·rename_i t x i hop;split at h
  ·rename_i ht;exact eA.of_hit h λy hy=>Nf he hop (Ap ht) hy
  ·exact pu h
 ·rename_i s t x hop;split at h
  ·rename_i ht;exact eA.of_hit h λy hy=>I1 hs he hop ht hy
  ·exact pu h
 ·rename_i c x y hop;have fin:∀{b:Bool} {z:XV},a.eval c=.bool b->(bif b then ev env x else ev env y)=some z->eA P o bs w S a bg (z,none):=by
   intro b z hc hz;refine dW (v:=bif b then a.eval x else a.eval y) ?_ ?_
   ·unfold execOp;cases b<;>simp[hop,hc,asBool]
   ·cases b with
    | true=>exact aZ he hz
    | false=>exact aZ he hz
  unfold YI at h;split at h
  ·rename_i b hb;exact cK h λz hz=>fin (aZ he hb).1 hz
  ·rename_i b hb;have hc:=(aZ he hb).1;cases b with
   | true=>exact cK (h.1 rfl) λz hz=>fin hc hz
   | false=>exact cK (h.2 rfl) λz hz=>fin hc hz
  ·exact h.elim
 ·rename_i k t x y u hop;split at h
  ·rename_i dh;refine cK h λz hz=>?_;cases e:G4 k (ev env x) (ev env y) with
   | none=>rw[e] at hz;exact kq he hz
   | some q=>
    rw[e] at hz;injection hz with hz
    subst hz;exact G3 he hop (nD dh) e
  split at h
  ·exact eA.of_hit h λz hz=>Nn he hop hz
  ·split at h
   ·rename_i hc;have hk:k=.add:=by
     unfold Rk at hc;cases k<;>first|rfl|cases hc
    subst hk;exact eA.of_hit h λz hz=>I9 he hop hz
   ·split at h
    ·rename_i gX;refine cK h λz hz=>?_;cases e:xy P k t (ev env x) (ev env y) with
     | none=>rw[e] at hz;exact kq he hz
     | some q=>
      rw[e] at hz;injection hz with hz
      subst hz;exact Cs he hop gX e
    ·exact pu h
 ·rename_i args ts hop;split at h
  ·rename_i x t hx ht;split at h
   ·rename_i dh;refine cK h λy hy=>?_;cases e:Hw H (ev env x) with
    | none=>
     rw[e] at hy;have hy:((DC H (ev env x)).orElse λ_=>ig P env o)=some y:=hy;cases e2:DC H (ev env x) with
     | none=>rw[e2] at hy;exact kq he hy
     | some z=>
      rw[e2] at hy;injection hy with hy
      subst hy;have ue:args=#[x]:=by rw[<-Array.toArray_toList (xs:=args),hx]
      rw[ue] at hop;exact Hz hs he hop ht (nD dh) e2
    | some z=>
     rw[e] at hy;injection hy with hy
     subst hy;have ue:args=#[x]:=by rw[<-Array.toArray_toList (xs:=args),hx]
     rw[ue] at hop;exact Hu hs he hop ht (nD dh) e
   ·exact pu h
  ·exact h.elim
 ·rename_i f args ts hop;exact eA.of_hit h λy hy=>La hs he hop hy
 ·rename_i t args ts hop;split at h
  ·rename_i f b c hf;split at h
   ·rename_i ZI;obtain rfl:=Array.eq_empty_of_size_eq_zero ZI.1;obtain rfl:=Array.eq_empty_of_size_eq_zero ZI.2;have hv:=(ly he hf).1;exact eA.of_hit h λy hy=>m7 (cap:=#[]) hs (λxs hx=>by rw[Array.toList_empty,List.append_nil];exact eS he hx) hv hop hy
   ·exact h.elim
  ·rename_i k ob hf;obtain⟨g,hg,hv⟩:=ly he hf;refine eA.of_hit h λy hy=>m7 (cap:=#[.pointer (some ⟨g,0,none⟩)]) hs (λxs hx=>?_) hv hop hy;cases e:fe env args.toList with
   | none=>rw[e] at hx;cases hx
   | some l=>
    rw[e] at hx;injection hx with hx
    subst hx;exact F2.append (eS he e) (.cons ⟨g,hg,rfl⟩ .nil)
  ·rename_i k tx x hf;obtain⟨b,cs,hb,hv,hr,hc⟩:=ly he hf;refine eA.of_hit h λy hy=>m7 (cap:=#[.pointer (some ⟨b,0,none⟩)]) hs (λxs hx=>?_) hv hop hy;cases e:fe env args.toList with
   | none=>rw[e] at hx;cases hx
   | some l=>
    rw[e] at hx;injection hx with hx
    subst hx;exact F2.append (eS he e) (.cons ⟨b,0,cs,hb,rfl,hr,hc⟩ .nil)
  ·exact h.elim
 ·rename_i t hop;exact Hb hs hop (T.hit_op h)
 ·rename_i k b c hop;split at h
  ·rename_i x hb hc;split at h
   ·rename_i o hx;refine cK h λy hy=>?_;injection hy with hy
    subst hy;obtain⟨g,hg,hv⟩:=aZ he hx;have hb:b=#[]:=by rw[<-Array.toArray_toList (xs:=b),hb]
    have hc:c=#[x]:=by rw[<-Array.toArray_toList (xs:=c),hc]
    subst hb hc;refine dW (v:=.func (.func k) #[] #[a.eval x]) ?_ ⟨g,hg,by rw[hv]⟩;unfold execOp;simp[hop,Instr.makeFunc]
   ·exact h.elim
  ·exact h.elim
 ·rename_i t x y c hop;exact eA.of_hit h λy hy=>Lz hs he hP hop hy
 ·exact pu h
end
theorem eM {P:Program} {w:World} {base:Nat} {t ty e:TypeId} {i:TypeInfo} {size:Nat} (ht:P.underlying t=some (.slice e)) (hi:P.info? e=some i) {v:Value} {n:Nat} {xs:List Value} (dM:w.ownsRow base e size v n xs) (c:Nat) : (Builtin.append_ #[t,t] ty #[v,.slice none 0 c]).run P w=.ok v w:=by
 rcases dM.2 with⟨rfl,rfl⟩|⟨g,cap,cur,rfl,_,_,D6,_⟩
 ·simp[Builtin.append_,run_underlying ht,sizeOf,typeInfo,hi,Builtin.lenOf,Builtin.firstCells]
 ·simp[Builtin.append_,run_underlying ht,sizeOf,typeInfo,hi,Builtin.lenOf,Builtin.firstCells,D6,storeCells]
theorem xk {α:Type} [ak α] {w:World} {S:Nat->Prop} {base:Nat} {e:TypeId} {v:Value} {xs:List α} {P:Program} {ops:Array Oper} {rest:List Oper} {o:Oper} {a:Act} {Q:Exit->Act->World->Prop} (lx:o.guard=none) (s x:Operand) (t:TypeId) (ho:o.op=.call { callee:=.builtin .append,args:=#[s,x],argTypes:=#[t,t] }) (bytes:Nat) (ht:dO P t e (ak.sz α) bytes) (hs:a.eval s=v) (dM:Own w S base e v xs) {A:Option Addr} {m c:Nat} {S2:Nat->Prop} {ys:List α} (hx:a.eval x=.slice A m c) (hr:RS w S2 A m c ys) (ds:List Value) (hf:Flat w S ds ys) (hd:∀ad,A=some ad->bb w ad ds) (h1:∀u∈ds,u.oneCell'=true) (hl:(xs.length+ys.length)*(bytes+1)<=140737488355328) (fY:base<=w.heap.size) (h:∀v' w',Own w' S base e v' (xs++ys)->w.grownBy w' v.ownBlock->(v'.ownBlock=v.ownBlock\/v'.ownBlock=some w.heap.size)->wpList P ops Q rest (a.put o.dst v') w') : wpList P ops Q (o::rest) a w:=by
 cases A with
 | some ad=>exact di lx s x t ho bytes ht hs dM ad m c ds ys hx hr.len.symm hf (hd ad rfl) h1 hl fY h
 | none=>
  have hm:m=0:=by
   rcases Nat.eq_zero_or_pos m with h|h
   ·exact h
   ·obtain⟨_,_,_,h3⟩:=hr;obtain⟨_,_,e,_⟩:=h3 h;cases e
  subst hm;have hy:ys=[]:=List.eq_nil_of_length_eq_zero hr.len;subst hy;rw[List.append_nil] at h;refine wpList_plain lx λK hK=>?_;have D4:=dM;obtain⟨cs,kh,_,_⟩:=D4;obtain⟨i,z,hi,_⟩:=ht.info;have iP:=eM (P:=P) (ty:=o.type) ht.under hi kh c;unfold Oper.wp;simp[execOp,ho,resolve,invoke,builtin,hs,hx,iP,Result.andThen];exact hK _ _ (h v w dM ⟨rfl,rfl,rfl,Nat.le_refl _,λ_ _ _=>rfl⟩ (.inl rfl))
theorem Flat.bools {w:World} {S:Nat->Prop} (l:List Bool):Flat w S (l.map Value.bool) l:=by
 have:∀(k:List Bool),Flat w S (k.reverse.map Value.bool) k.reverse:=by
  intro k;induction k with
  | nil=>exact .nil
  | cons x k ih=>
   rw[List.reverse_cons,List.map_append];exact .snoc ih rfl
 simpa using this l.reverse
theorem RS.bool_at {w:World} {S:Nat->Prop} {A:Option Addr} {n c:Nat} {xs:List Bool} (h:RS w S A n c xs) {k:Nat} (hk:k<n) : ∃b o x,A=some ⟨b,o,none⟩/\S b/\xs[k]?=some x/\w.cell? ⟨b,o+k,none⟩=some (.bool x):=by
 obtain⟨b,o,x,cs,e,hb,hx,hr,hc⟩:=h.at_ hk;have fa:cs=[.bool x]:=hr;subst fa;exact⟨b,o,x,e,hb,hx,by simpa[ak.sz] using hc 0 _ rfl⟩
theorem RS.boolsAt {w:World} {S:Nat->Prop} {A:Option Addr} {n c:Nat} {bs:List Bool} (h:RS w S A n c bs):∀ad,A=some ad->bb w ad (bs.map Value.bool):=by
 rintro ad rfl;obtain⟨h1,h2,_,h3⟩:=h;intro j u hj;rw[List.getElem?_map,Option.map_eq_some_iff] at hj;obtain⟨x,hx,rfl⟩:=hj;obtain⟨b,o,e,_,he⟩:=h3 (by have:=ji hx;omega);injection e with e
 subst e;obtain⟨cs,hr,hc⟩:=he j x hx;have fa:cs=[.bool x]:=hr;subst fa;have:=hc 0 _ rfl;rw[dz] at this;simpa[ak.sz] using this
theorem Of (l:List Bool):∀u∈l.map Value.bool,u.oneCell'=true:=by
 intro u hu;obtain⟨x,_,rfl⟩:=List.mem_map.1 hu;rfl
end Go.Proofs.YtichkplomldgiaaGreatDoor
