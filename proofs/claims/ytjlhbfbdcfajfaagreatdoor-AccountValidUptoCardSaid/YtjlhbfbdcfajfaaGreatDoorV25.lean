/- MOp2 MOp3 MOp4 -/
import Derived.Test.YtjlhbfbdcfajfaaGreatDoorV00
import Derived.Test.YtjlhbfbdcfajfaaGreatDoorV24
set_option maxHeartbeats 8000000
set_option maxRecDepth 100000
namespace Go.Proofs.YtjlhbfbdcfajfaaGreatDoor
open Go Go.RowKit
def Wy (P:Program) (t:TypeId):Option (Bool×Nat):=match PC P t with
 | some true=>(P.info? t).map fun i=>(true,i.size)
 | some false=>some (false,1)
 | none=>none
def UC (q:Bool×Nat) (cs:List AV):Option XV:=if cs.length=q.2 then(if q.1 then some (.agg cs) else match cs with
 | [a]=>some (.one a)
 | _=>none) else none
def uB (H:List ai):AV→Option (List AV)
 | .ptr o off=>match H[o]? with
  | some (.cells _ cs)=>some (cs.drop off)
  | _=>none
 | .ref t x off=>some ((lR t x).drop off)
 | .elo o i sz off=>match H[o]? with
  | some (.row t _ rs)=>if sz=aK.sz (El t) then some ((lR t (rs.reverse.getD i (Bh t))).drop off) else none
  | _=>none
 | .sub o o2 off=>match H[o]? with
  | some (.zip PY _ _ _ _ _ cur _)=>if o2=PY then some (cur.drop off) else none
  | _=>none
 | _=>none
def Wx (P:Program) (H:List ai) (t:TypeId) (x:Option XV):Option XV:=match Wy P t,x with
 | some q,some (.one a)=>(uB H a).bind fun cs=>UC q (cs.take q.2)
 | _,_=>none
def EX (a:AV) (k:Nat):Option AV:=match a with
 | .ptr o f=>some (.ptr o (f+k))
 | .ref t x f=>some (.ref t x (f+k))
 | .elo o i s f=>some (.elo o i s (f+k))
 | .sub o o2 f=>some (.sub o o2 (f+k))
 | _=>none
def ack (P:Program) (s:TypeId) (i:Nat):Option Nat:=match P.underlying s with
 | some (.struct fs)=>(fs[i]?).bind fun f=>(P.info? f.type).bind fun j=>if j.size=0 then none else some f.offset
 | _=>none
def U6 (P:Program) (s:TypeId) (i:Nat):Option (Nat×TypeId):=match P.underlying s with
 | some (.struct fs)=>(fs[i]?).map fun f=>(f.offset,f.type)
 | _=>none
def QH (P:Program) (t:TypeId):Option (TypeId×Nat):=match P.underlying t with
 | some (.slice e)=>(P.info? e).map fun i=>(e,i.size)
 | _=>none
def nV:Option XV→Option (IntKind×Int×Bool)
 | some (.one (.val (.int k n)))=>some (k,n,true)
 | some (.one (.sym (.int k n)))=>some (k,n,false)
 | _=>none
section
variable {P:Program} {o:Oper} {cx:Cx} {bs:List Value} {w:World} {S:Nat→Prop} {H:List ai} {m:Nat} {env:Env} {a:Act} {cR:Nat}
theorem CR.agg {cs:List AV} {vs:List Value} (h:F2 (VR bs w S) cs vs):XR bs w S (.agg cs) (.agg vs.toArray):=⟨vs,rfl,h⟩
theorem X3 (hs:HS cx bs w S H) {ob i off g n c:Nat} {t:Ty} {e:TypeId} {rs:List (El t)} (hH:H[ob]?=some (.row t e rs)) (hb:bs[ob]?=some (.slice (some ⟨g,0,none⟩) n c)) (hi:i<n):∃ds,aK.rep w S ds (rs.reverse.getD i (Bh t))∧cK w ⟨g,i*aK.sz (El t)+off,none⟩ (ds.drop off):=by
 have ho:Own (α:=El t) w S 0 e (.slice (some ⟨g,0,none⟩) n c) rs.reverse:=hs.o ob _ _ hH hb;obtain⟨A',n',c',NF,hn⟩:=ho.slice;injection NF with _ uz _
 subst uz;obtain⟨cs,q1,q2,_⟩:=ho;have hx:rs.reverse[i]?=some (rs.reverse.getD i (Bh t)):=by rw[aar,aac (by omega)];rfl
 obtain⟨ds,hr,hc⟩:=q2.get i _ hx;refine⟨ds,hr,fun j u hj=>?_⟩;rw[acy] at hj;have h1:=q1.cells (g:=g) rfl _ _ (hc _ u hj);have nj:(⟨g,i*aK.sz (El t)+off,none⟩:Addr).add j=(⟨g,0,none⟩:Addr).add (i*aK.sz (El t)+(off+j)):=by unfold Addr.add;split<;>simp_all [act]
 rw[nj];exact h1
theorem LL (hs:HS cx bs w S H) {ob o2 g p:Nat} {e:TypeId} {t tn:Ty} {hJ:Nat} {done:List (El t)} {cur:List AV} {rest:List (El tn)} {v:Value} (hH:H[ob]?=some (.zip o2 e t tn hJ done cur rest)) (hb:bs[ob]?=some v) (h2:bs[o2]?=some (.pointer (some ⟨g,p,none⟩))):∃(bN:List (j6 (aK.sz (El t)))) (n c:Nat) (r:j6 (aK.sz (El t))),v=.slice (some ⟨g,0,none⟩) n c∧p=done.length*aK.sz (El t)∧Own w S 0 e v bN∧ZR bs w S (tn:=tn) hJ done cur rest bN∧bN[done.length]?=some r∧cK w ⟨g,p,none⟩ r.cells:=by
 obtain⟨bN,ho,hz,hl,u,hu,_,hv⟩:=hs.o ob _ _ hH hb;rw[h2] at hu;obtain rfl:=aae hu;have hlt:=hl;have hr:bN[done.length]?=some (bN[done.length]'(by rw[hz.1];exact hlt)):=aac _;have ho0:=ho;obtain⟨cs,q1,q2,_⟩:=ho;have q1':=q1;obtain⟨_,h3⟩:=q1';rcases h3 with⟨_,hn⟩|⟨g',cap,acu,kU,_⟩
 ·rw[hz.1] at hn;omega
 ·have hp:=hv g' _ _ kU;injection hp with hp
  injection hp with hp
  injection hp with e1 e2
  subst e1 e2;obtain⟨ds,hd,hc⟩:=q2.get _ _ hr;have hd:ds=_:=hd;subst hd;refine⟨bN,_,_,_,kU,rfl,ho0,hz,hr,fun j u hj=>?_⟩;have h1:=q1.cells (g:=g) (by rw[kU];rfl) _ _ (hc _ u hj);have nj:(⟨g,done.length*aK.sz (El t),none⟩:Addr).add j=(⟨g,0,none⟩:Addr).add (done.length*aK.sz (j6 (aK.sz (El t)))+j):=by
   show(⟨g,done.length*aK.sz (El t),none⟩:Addr).add j=(⟨g,0,none⟩:Addr).add (done.length*aK.sz (El t)+j);unfold Addr.add;split<;>simp_all
  rw[nj];exact h1
theorem wR (hs:HS cx bs w S H) {p:AV} {cs:List AV} {v:Value} (h:uB H p=some cs) (hv:VR bs w S p v):∃ad vs,v=.pointer (some ad)∧cK w ad vs∧F2 (VR bs w S) cs vs:=by
 cases p with
 | ptr o off=>
  obtain⟨g,h1,rfl⟩:=hv;have h:(match H[o]? with|some (ai.cells _ cs)=>some (cs.drop off)|_=>none)=some cs:=h;cases e:H[o]? with
  | none=>rw[e] at h;cases h
  | some x=>
   rw[e] at h;cases x with
   | cells ty ds=>
    injection h with h
    subst h;obtain⟨g',vs,e2,h2,h3⟩:=hs.o o _ _ e h1;injection e2 with e2
    injection e2 with e2
    injection e2 with e2
    subst e2;refine⟨_,vs.drop off,rfl,fun j u hj=>?_,h3.drop off⟩;rw[acy] at hj;have nj:(⟨g,off,none⟩:Addr).add j=⟨g,off+j,none⟩:=by unfold Addr.add;split<;>simp_all
    rw[nj,h2.cell];simpa using hj
   | _=>cases h
 | ref t x off=>
  obtain⟨b,p,vs,_,rfl,h2,h3⟩:=hv;injection h with h
  subst h;refine⟨_,vs.drop off,rfl,fun j u hj=>?_,(j2 h2).drop off⟩;rw[acy] at hj;have:=h3 _ _ hj;rw[←gD] at this;have nj:(⟨b,p,none⟩:Addr).add off=⟨b,p+off,none⟩:=by unfold Addr.add;split<;>simp_all
  rw[←nj];exact this
 | elo o i sz off=>
  obtain⟨g,n,c,h1,h2,rfl⟩:=hv;have h:(match H[o]? with|some (ai.row t _ rs)=>if sz=aK.sz (El t) then some ((lR t (rs.reverse.getD i (Bh t))).drop off) else none|_=>none)=some cs:=h;cases e:H[o]? with
  | none=>rw[e] at h;cases h
  | some x=>
   rw[e] at h;cases x with
   | row t te rs=>
    simp only at h;split at h
    ·rename_i jB;injection h with h
     subst h jB;obtain⟨ds,q1,q2⟩:=X3 hs e h1 h2 (off:=off);exact⟨_,_,rfl,q2,(j2 q1).drop off⟩
    ·cases h
   | _=>cases h
 | sub o o2 off=>
  obtain⟨g,p,h2,rfl⟩:=hv;have h:(match H[o]? with|some (ai.zip PY _ _ _ _ _ cur _)=>if o2=PY then some (cur.drop off) else none|_=>none)=some cs:=h;split at h
  ·rename_i PY e t tn hJ done cur rest hH;split at h
   ·rename_i e2;subst e2;injection h with h
    subst h;have xF:o<bs.length:=by rw[hs.len];exact(aab.1 hH).1
    obtain⟨bN,n,c,r,_,_,_,hz,hr,hc⟩:=LL hs hH (aac xF) h2;refine⟨_,r.cells.drop off,rfl,fun j u hj=>?_,((hz.2 _ _ hr).2.1 rfl).drop off⟩;rw[acy] at hj;have:=hc _ _ hj;rw[←gD] at this;have nj:(⟨g,p,none⟩:Addr).add off=⟨g,p+off,none⟩:=by unfold Addr.add;split<;>simp_all
    rw[←nj];exact this
   ·cases h
  ·cases h
 | _=>cases h
theorem cK.take {ad:Addr} {vs:List Value} (h:cK w ad vs) (n:Nat):cK w ad (vs.take n):=fun j u hj=>by
 rw[acz] at hj;split at hj
 ·exact h j u hj
 ·cases hj
theorem Ww (hs:HS cx bs w S H) (he:ER m bs w S env a) {t:TypeId} {x:Operand} (hop:o.op=.load t x) {y:XV} (h:Wx P H t (ev env x)=some y):jM P o bs w S a cR (y,none):=by
 unfold Wx at h;split at h
 ·rename_i q z hq hz;have hv:=cM he hz;cases e:uB H z with
  | none=>rw[e] at h;cases h
  | some cs=>
   rw[e] at h;have h:UC q (cs.take q.2)=some y:=h;obtain⟨ad,vs,hv,hc,hf⟩:=wR hs e hv;have Ar:=hf.take q.2;have Xz:=hc.take q.2;have hl:=Ar.length;unfold UC at h;split at h
   ·rename_i bM;rw[bM] at hl;unfold Wy at hq;split at hq
    ·rename_i Ou;cases hi:P.info? t with
     | none=>rw[hi] at hq;cases hq
     | some i=>
      rw[hi] at hq;injection hq with hq
      subst hq;simp only[if_true] at h;injection h with h
      subst h;refine iV (v:=.agg (vs.take i.size).toArray) ?_ (CR.agg Ar);have:=Ux Xz Ou (by rw[hi];exact congrArg some hl);unfold execOp;simp only[hop,hv,Sem.run_bind,this,Result.andThen_ok,Sem.run_pure]
    ·rename_i Ou;injection hq with hq
     subst hq;simp only[abC,if_false] at h;split at h
     ·rename_i b hb;injection h with h
      subst h;have Fo:=Ar;rw[hb] at Fo;cases Se:vs.take 1 with
      | nil=>rw[Se] at Fo;cases Fo
      | cons v r=>
       rw[Se] at Fo Xz;cases Fo with
       | cons h1 h2=>
        refine iV (v:=v) ?_ h1;have h0:=Xz 0 v rfl;have:ad.add 0=ad:=by unfold Addr.add;simp
        rw[this] at h0;have hl:=Uy (P:=P) (t:=t) h0 Ou;unfold execOp;simp only[hop,hv,Sem.run_bind,hl,Result.andThen_ok,Sem.run_pure]
     ·cases h
    ·cases hq
   ·cases h
 ·cases h
theorem zO {x y:AV} {k:Nat} {v:Value} (h:EX x k=some y) (hv:VR bs w S x v):∃ad:Addr,v=.pointer (some ad)∧VR bs w S y (.pointer (some (ad.add k))):=by
 cases x with
 | ptr o f=>
  injection h with h;subst h
  obtain⟨g,h1,rfl⟩:=hv;exact⟨_,rfl,g,h1,by unfold Addr.add;split<;>simp_all⟩
 | ref t x f=>
  injection h with h;subst h
  obtain⟨b,p,cs,h1,rfl,h2,h3⟩:=hv;exact⟨_,rfl,b,p,cs,h1,by unfold Addr.add;split<;>simp_all [act],h2,h3⟩
 | elo o i s f=>
  injection h with h;subst h
  obtain⟨g,n,c,h1,h2,rfl⟩:=hv;exact⟨_,rfl,g,n,c,h1,h2,by unfold Addr.add;split<;>simp_all [act]⟩
 | sub o o2 f=>
  injection h with h;subst h
  obtain⟨g,p,h1,rfl⟩:=hv;exact⟨_,rfl,g,p,h1,by unfold Addr.add;split<;>simp_all [act]⟩
 | _=>cases h
end
def XO (P:Program) (s:TypeId) (i:Nat) (x:Option XV):Option XV:=match ack P s i,x with
 | some k,some (.one p)=>(EX p k).map .one
 | _,_=>none
def XN (P:Program) (s:TypeId) (i:Nat) (x:Option XV):Option XV:=match U6 P s i,x with
 | some (k,t),some (.agg cs)=>(Wy P t).bind fun q=>UC q ((cs.drop k).take q.2)
 | _,_=>none
def ixX (P:Program) (H:List ai) (t:TypeId) (x i:Option XV):T XV:=match x,nV i with
 | some (.one (.list ty xs _)),some (_,n,_)=>if(QH P t).map (·.2)==some (aK.sz (El ty)) then .nd (0≤n∧n<(xs.length:Int)) (.lf (.one (.ref ty (xs.getD n.toNat (Bh ty)) 0))) else .bad
 | some (.one (.own o)),some (_,n,_)=>match H[o]? with
  | some (.row ty _ rs)=>if(QH P t).map (·.2)==some (aK.sz (El ty)) then .nd (0≤n∧n<(rs.length:Int)) (.lf (.one (.elo o n.toNat (aK.sz (El ty)) 0))) else .bad
  | some (.zip o2 _ ty _ _ done _ _)=>if(QH P t).map (·.2)==some (aK.sz (El ty)) then .nd (n=(done.length:Int)) (.lf (.one (.sub o o2 0))) else .bad
  | _=>.bad
 | some (.one p),some (_,n,true)=>match P.underlying t with
  | some (.array l e)=>match P.info? e with
   | some j=>if 0≤n∧n<(l:Int) then T.op ((EX p (n.toNat*j.size)).map .one) else .bad
   | none=>.bad
  | _=>.bad
 | _,_=>.bad
section
variable {P:Program} {o:Oper} {cx:Cx} {bs:List Value} {w:World} {S:Nat→Prop} {H:List ai} {m:Nat} {env:Env} {a:Act} {cR:Nat}
theorem yz {t:TypeId} {b:Bool} (h:PC P t=some b) (w:World):(isAgg t).run P w=.ok b w:=by
 unfold PC at h;cases hd:P.underlying t with
 | none=>rw[hd] at h;cases h
 | some d=>
  rw[hd] at h;injection h with h
  subst h;unfold isAgg;rw[Sem.run_bind,run_underlying hd w];cases d<;>rfl
theorem Ta (he:ER m bs w S env a) {s:TypeId} {i:Nat} {x:Operand} (hop:o.op=.fieldAddr s x i) {y:XV} (h:XO P s i (ev env x)=some y):jM P o bs w S a cR (y,none):=by
 unfold XO at h;split at h
 ·rename_i k p hk hp;cases e:EX p k with
  | none=>rw[e] at h;cases h
  | some q=>
   rw[e] at h;injection h with h
   subst h;obtain⟨ad,hv,hr⟩:=zO e (cM he hp);refine iV (v:=.pointer (some (ad.add k))) ?_ hr;unfold ack at hk;split at hk
   ·rename_i fs hu;cases ef:fs[i]? with
    | none=>rw[ef] at hk;cases hk
    | some f=>
     rw[ef] at hk;have hk:((P.info? f.type).bind fun j=>if j.size=0 then none else some f.offset)=some k:=hk;cases ei:P.info? f.type with
     | none=>rw[ei] at hk;cases hk
     | some j=>
      rw[ei] at hk;have hk:(if j.size=0 then none else some f.offset)=some k:=hk;split at hk
      ·cases hk
      ·rename_i hj;injection hk with hk
       subst hk;unfold execOp;simp[hop,hv,Instr.fieldAt,Instr.sureAddr,Sem.run_bind,run_underlying hu w,ef,fieldPlace,sizeOf,typeInfo,ei,hj]
   ·cases hk
 ·cases h
theorem S7 (he:ER m bs w S env a) {s:TypeId} {i:Nat} {x:Operand} (hop:o.op=.field s x i) {y:XV} (h:XN P s i (ev env x)=some y):jM P o bs w S a cR (y,none):=by
 unfold XN at h;split at h
 ·rename_i k t cs hk hp;obtain⟨vs,hv,hf⟩:=cM he hp;cases e:Wy P t with
  | none=>rw[e] at h;cases h
  | some q=>
   rw[e] at h;have h:UC q ((cs.drop k).take q.2)=some y:=h;have Ar:=(hf.drop k).take q.2;have hl:=Ar.length;unfold U6 at hk;split at hk
   ·rename_i fs hu;cases ef:fs[i]? with
    | none=>rw[ef] at hk;cases hk
    | some f=>
     rw[ef] at hk;injection hk with hk
     injection hk with tw gR
     subst tw gR;unfold UC at h;split at h
     ·rename_i bM;unfold Wy at e;split at e
      ·rename_i Ou;cases hi:P.info? f.type with
       | none=>rw[hi] at e;cases e
       | some j=>
        rw[hi] at e;injection e with e
        subst e;simp only[if_true] at h;injection h with h
        subst h;refine iV (v:=.agg ((vs.drop f.offset).take j.size).toArray) ?_ (CR.agg Ar);unfold execOp;simp[hop,hv,Instr.field,Sem.run_bind,run_underlying hu w,ef,part,asAgg,yz Ou,sizeOf,typeInfo,hi]
      ·rename_i Ou;injection e with e
       subst e;simp only[abC,if_false] at h;split at h
       ·rename_i b hb;injection h with h
        subst h;rw[hb] at Ar;cases Se:(vs.drop f.offset).take 1 with
        | nil=>rw[Se] at Ar;cases Ar
        | cons v r=>
         rw[Se] at Ar;cases Ar with
         | cons h1 h2=>
          refine iV (v:=v) ?_ h1;have gI:vs[f.offset]?=some v:=by
           have:((vs.drop f.offset).take 1)[0]?=some v:=by rw[Se];rfl
           rw[acz,if_pos (by omega),acy] at this;simpa using this
          unfold execOp;simp[hop,hv,Instr.field,Sem.run_bind,run_underlying hu w,ef,part,asAgg,yz Ou,gI]
       ·cases h
      ·cases e
     ·cases h
   ·cases hk
 ·cases h
end
def du (n:Int):Prop:= -9223372036854775808≤n∧n≤9223372036854775807
def arI (k:BinOp) (x y:Int):Option Int:=match k with
 | .add=>some (x+y)
 | .sub=>some (x-y)
 | .mul=>some (x*y)
 | _=>none
def arX (k:BinOp) (x y:Option XV):T XV:=match nV x,nV y with
 | some (.i64,n,false),some (.i64,q,_)|some (.i64,n,_),some (.i64,q,false)=>match arI k n q with
  | some r=>.nd (du r) (.lf (.one (.sym (.int .i64 r))))
  | none=>.bad
 | _,_=>.bad
def RN (H:List ai) (x:Option XV):Option XV:=match x with
 | some (.one (.list _ xs _))=>some (.one (.sym (.int .i64 (xs.length:Int))))
 | some (.one (.own o))=>match H[o]? with
  | some (.row _ _ rs)=>some (.one (.sym (.int .i64 (rs.length:Int))))
  | _=>none
 | _=>none
def xtX (x:Option XV) (i:Nat):Option XV:=match x with
 | some (.tup l)=>match l[i]? with
  | some (true,cs)=>some (.agg cs)
  | some (false,[a])=>some (.one a)
  | _=>none
 | _=>none
section
variable {P:Program} {o:Oper} {cx:Cx} {bs:List Value} {w:World} {S:Nat→Prop} {H:List ai} {m:Nat} {env:Env} {a:Act} {cR:Nat}
theorem jM.of_hit {t:T XV} {r:XV×Option ai} (h:(t.bind fun x=>.lf (x,none)).hit r) (hk:∀x,t.hit x→jM P o bs w S a cR (x,none)):jM P o bs w S a cR r:=by
 obtain⟨x,h1,h2⟩:=T.hit_bind h;have h2:(x,none)=r:=h2;rw[←h2];exact hk x h1
theorem iT (he:ER m bs w S env a) {x:Operand} {k:IntKind} {n:Int} {c:Bool} (h:nV (ev env x)=some (k,n,c)):a.eval x=.int k n:=by
 unfold nV at h;split at h
 ·rename_i j q e;injection h with h;injection h with h1 h;injection h with h2 h3
  subst h1 h2;exact(cM he e).1
 ·rename_i j q e;injection h with h;injection h with h1 h;injection h with h2 h3
  subst h1 h2;exact(cM he e).1
 ·cases h
theorem zw {t:TypeId} {k:Nat} (h:((QH P t).map (·.2)==some k)=true):∃e i,P.underlying t=some (.slice e)∧P.info? e=some i∧i.size=k:=by
 unfold QH at h;cases hu:P.underlying t with
 | none=>rw[hu] at h;cases h
 | some d=>
  rw[hu] at h;cases d with
  | slice e=>
   cases hi:P.info? e with
   | none=>simp[hi] at h
   | some i=>exact⟨e,i,rfl,hi,by simpa[hi] using h⟩
  | _=>cases h
theorem WJ (hs:HS cx bs w S H) (he:ER m bs w S env a) {t:TypeId} {x i:Operand} (hop:o.op=.indexAddr t x i) {y:XV} (h:(ixX P H t (ev env x) (ev env i)).hit y):jM P o bs w S a cR (y,none):=by
 unfold ixX at h;split at h
 ·rename_i ty xs _ k n c hx hi;split at h
  ·rename_i fJ;obtain⟨⟨h0,h1⟩,h⟩:=h;have h:XV.one _=y:=h;subst h;obtain⟨e,j,hu,hj,jB⟩:=zw fJ;obtain⟨A,q,c2,hv,hr,_⟩:=cM he hx;have hlt:n.toNat<q:=by have:=hr.len;omega
   obtain⟨g,p,x',cs,rfl,hS,hx',W5,hc⟩:=hr.at_ hlt;refine iV (v:=.pointer (some ⟨g,p+n.toNat*aK.sz (El ty),none⟩)) ?_ ⟨g,p+n.toNat*aK.sz (El ty),cs,hS,rfl,?_,?_⟩
   ·have Hs:=iT he hi;have hn:n<(q:Int):=by have:=hr.len;omega
    unfold execOp;simp[hop,hv,Hs,Instr.indexAt,asIntOf,Sem.run_bind,run_underlying hu w,h0,hn,sizeOf,typeInfo,hj,jB,Addr.add]
   ·rw[aar,hx'];exact W5
   ·intro j' u hj';have:=hc j' u hj';have nj:(⟨g,p+n.toNat*aK.sz (El ty),none⟩:Addr).add j'=⟨g,p+(n.toNat*aK.sz (El ty)+j'),none⟩:=by unfold Addr.add;split<;>simp_all [act]
    rw[nj];exact this
  ·exact h.elim
 ·rename_i ob k n c hx hi;split at h
  ·rename_i ty e' rs hH;split at h
   ·rename_i fJ;obtain⟨⟨h0,h1⟩,h⟩:=h;have h:XV.one _=y:=h;subst h;obtain⟨e,j,hu,hj,jB⟩:=zw fJ;obtain⟨hb,A,q,c2,hv⟩:=cM he hx;have ho:=hs.o ob _ _ hH hb;have ho:Own (α:=El ty) w S 0 e' (a.eval x) rs.reverse:=ho;obtain⟨cs,⟨_,h2⟩,_⟩:=ho;rcases h2 with⟨_,hn⟩|⟨g,cap,cur,kU,_,_,nZ,_⟩
    ·rw[aaH] at hn;omega
    ·rw[kU] at hb;refine iV (v:=.pointer (some ⟨g,n.toNat*aK.sz (El ty),none⟩)) ?_ ⟨g,_,_,hb,(by rw[aaH];omega),rfl⟩;have Hs:=iT he hi;have hn:n<(rs.reverse.length:Int):=by rw[aaH];exact h1
     unfold execOp;simp[hop,kU,Hs,Instr.indexAt,asIntOf,Sem.run_bind,run_underlying hu w,h0,h1,sizeOf,typeInfo,hj,jB,Addr.add];exact fun h=>h.symm
   ·exact h.elim
  ·rename_i o2 e' ty tn hJ done cur rest hH;split at h
   ·rename_i fJ;obtain⟨h0,h⟩:=h;have h:XV.one _=y:=h;subst h;obtain⟨e,j,hu,hj,jB⟩:=zw fJ;obtain⟨hb,A,q,c2,hv⟩:=cM he hx;obtain⟨bN,ho,hz,hl,u,sH,rF,hv3⟩:=hs.o ob _ _ hH hb;have hlt:=hl;have ho:Own (α:=j6 (aK.sz (El ty))) w S 0 e' (a.eval x) bN:=ho;obtain⟨cs,⟨_,h2⟩,_⟩:=ho;rcases h2 with⟨_,hn⟩|⟨g,cap,cur,kU,_⟩
    ·rw[hz.1] at hn;omega
    ·rw[hv3 g _ _ kU] at sH;refine iV (v:=.pointer (some ⟨g,done.length*aK.sz (El ty)+0,none⟩)) ?_ ⟨g,_,sH,rfl⟩;have Hs:=iT he hi;have h1:done.length<bN.length:=by rw[hz.1];exact hlt
     unfold execOp;simp[hop,kU,Hs,Instr.indexAt,asIntOf,Sem.run_bind,run_underlying hu w,h0,h1,sizeOf,typeInfo,hj,jB,Addr.add];exact fun h=>h.symm
   ·exact h.elim
  ·exact h.elim
 ·rename_i ob _ n _ _ hx hi;split at h
  ·rename_i l e hu;split at h
   ·rename_i j hj;split at h
    ·rename_i hb;cases hq:EX ob (n.toNat*j.size) with
     | none=>rw[hq] at h;exact absurd (T.hit_op h) (by simp)
     | some z=>
      rw[hq] at h;obtain rfl:=aae (T.hit_op h);obtain⟨ad,hv,hz⟩:=zO hq (cM he hx);refine iV (v:=.pointer (some (ad.add (n.toNat*j.size)))) ?_ hz;have Hs:=iT he hi;unfold execOp;simp[hop,hv,Hs,Instr.indexAt,Instr.sureAddr,asIntOf,Sem.run_bind,run_underlying hu w,hb.1,hb.2,sizeOf,typeInfo,hj]
    ·exact h.elim
   ·exact h.elim
  ·exact h.elim
 ·exact h.elim
theorem Yv (he:ER m bs w S env a) {k:BinOp} {t u:TypeId} {x y:Operand} (hop:o.op=.binOp k t x y u) {z:XV} (h:(arX k (ev env x) (ev env y)).hit z):jM P o bs w S a cR (z,none):=by
 have key:∀{n q:Int} {c c':Bool},nV (ev env x)=some (.i64,n,c)→nV (ev env y)=some (.i64,q,c')→(match arI k n q with|some r=>T.nd (du r) (.lf (XV.one (.sym (.int .i64 r))))|none=>.bad).hit z→jM P o bs w S a cR (z,none):=by
  intro n q c c' hx hy h;cases e:arI k n q with
  | none=>rw[e] at h;exact h.elim
  | some r=>
   rw[e] at h;obtain⟨hr,h⟩:=h;have h:XV.one _=z:=h;subst h;refine iV (v:=.int .i64 r) ?_ ⟨rfl,rfl⟩;have hx':=iT he hx;have KV:=iT he hy;have hw:IntKind.i64.wrap r=r:=by obtain⟨h1,h2⟩:=hr;rw[IntKind.wrap_i64]<;>omega
   unfold execOp;cases k<;>first|(injection e with e;subst e;simp[hop,hx',KV,eqGuard,binOp,Op.intArith,hw])|cases e
 unfold arX at h;split at h
 ·rename_i n q c hx hy;exact key hx hy h
 ·rename_i n c q _ hx hy;exact key hx hy h
 ·exact h.elim
theorem G4 {x:Operand} {t:TypeId} {ts:Array TypeId} (hop:o.op=.call { callee:=.builtin .len,args:=#[x],argTypes:=ts }) (ht:ts[0]?=some t) (hu:((P.underlying t).map fun d=>match d with|.slice _=>true|_=>false)=some true) {A:Option Addr} {n c:Nat} (hv:a.eval x=.slice A n c):(execOp a.eval o).run P w=.ok (.value (.int .i64 (n:Int))) w:=by
 cases hd:P.underlying t with
 | none=>rw[hd] at hu;cases hu
 | some d=>
  rw[hd] at hu;cases d with
  | slice e=>
   unfold execOp;simp[hop,resolve,invoke,builtin,Builtin.len_,ht,hv,Sem.run_bind,run_underlying hd w,goInt]
  | _=>cases hu
theorem RL (hs:HS cx bs w S H) (he:ER m bs w S env a) {x:Operand} {t:TypeId} {ts:Array TypeId} (hop:o.op=.call { callee:=.builtin .len,args:=#[x],argTypes:=ts }) (ht:ts[0]?=some t) (hu:((P.underlying t).map fun d=>match d with|.slice _=>true|_=>false)=some true) {y:XV} (h:RN H (ev env x)=some y):jM P o bs w S a cR (y,none):=by
 have key:∀{A:Option Addr} {n c:Nat},a.eval x=.slice A n c→(execOp a.eval o).run P w=.ok (.value (.int .i64 (n:Int))) w:=G4 hop ht hu;unfold RN at h;split at h
 ·rename_i ty xs _ hx;injection h with h
  subst h;obtain⟨A,n,c,hv,hr,_⟩:=cM he hx;refine iV (key hv) ⟨by rw[hr.len],rfl⟩
 ·rename_i ob hx;split at h
  ·rename_i ty e rs hH;injection h with h
   subst h;obtain⟨hb,A,n,c,hv⟩:=cM he hx;have ho:Own (α:=El ty) w S 0 e (a.eval x) rs.reverse:=hs.o ob _ _ hH hb;obtain⟨A',n',c',NF,hn⟩:=ho.slice;refine iV (key NF) ⟨by rw[hn,aaH],rfl⟩
  ·cases h
 ·cases h
def Ah:Option XV→Bool
 | some (.one (.val (.slice none 0 0)))=>true
 | _=>false
def Rl (k:BinOp) (x y:Option XV):Option XV:=match k,x,Ah y with
 | .eql,some (.one (.list _ xs true)),true=>some (.one (.sym (.bool xs.isEmpty)))
 | .neq,some (.one (.list _ xs true)),true=>some (.one (.sym (.bool !xs.isEmpty)))
 | _,_,_=>none
theorem JR (he:ER m bs w S env a) {x:Operand} (h:Ah (ev env x)=true):a.eval x=.slice none 0 0:=by
 unfold Ah at h;split at h
 ·rename_i e;exact(cM he e).1
 ·cases h
theorem Rk (he:ER m bs w S env a) {k:BinOp} {t u:TypeId} {x y:Operand} (hop:o.op=.binOp k t x y u) (hu:((P.underlying t).map fun d=>match d with|.slice _=>true|_=>false)=some true) {z:XV} (h:Rl k (ev env x) (ev env y)=some z):jM P o bs w S a cR (z,none):=by
 have key:∀{ty:Ty} {xs:List (El ty)},ev env x=some (.one (.list ty xs true))→Ah (ev env y)=true→∃A n c,a.eval x=.slice A n c∧A.isNone=xs.isEmpty∧a.eval y=.slice none 0 0:=by
  intro ty xs hx hy;obtain⟨A,n,c,hv,hr,hq⟩:=cM he hx;refine⟨A,n,c,hv,?_,JR he hy⟩;cases xs with
  | nil=>rw[hq rfl rfl];rfl
  | cons x l=>
   obtain⟨h1,_,_,h3⟩:=hr;obtain⟨b,p,rfl,_⟩:=h3 (by rw[h1];exact Nat.succ_pos _);rfl
 have run:∀{A:Option Addr} {n c:Nat},(Op.equal t (.slice A n c) (.slice none 0 0)).run P w=.ok A.isNone w:=by
  intro A n c;cases hd:P.underlying t with
  | none=>rw[hd] at hu;cases hu
  | some d=>
   rw[hd] at hu;cases d with
   | slice e=>
    unfold Op.equal Op.maxDepth Op.equalIn;rw[Sem.run_bind,run_underlying hd w];cases A<;>rfl
   | _=>cases hu
 unfold Rl at h;split at h
 ·rename_i ty xs hx hy;injection h with h
  subst h;obtain⟨A,n,c,h1,h2,h3⟩:=key hx hy;refine iV (v:=.bool xs.isEmpty) ?_ ⟨rfl,rfl⟩;unfold execOp;simp only[hop,h1,h3,eqGuard,ite_self,binOp,Sem.run_bind,run,h2,Result.andThen_ok,Sem.run_pure]
 ·rename_i ty xs hx hy;injection h with h
  subst h;obtain⟨A,n,c,h1,h2,h3⟩:=key hx hy;refine iV (v:=.bool !xs.isEmpty) ?_ ⟨rfl,rfl⟩;unfold execOp;simp only[hop,h1,h3,eqGuard,ite_self,binOp,Sem.run_bind,run,h2,Result.andThen_ok,Sem.run_pure]
 ·cases h
theorem Vw (he:ER m bs w S env a) {x:Operand} {i:Nat} (hop:o.op=.extract x i) {y:XV} (h:xtX (ev env x) i=some y):jM P o bs w S a cR (y,none):=by
 unfold xtX at h;split at h
 ·rename_i l hx;obtain⟨vs,hv,hf⟩:=cM he hx;have key:∀{v:Value},vs[i]?=some v→(execOp a.eval o).run P w=.ok (.value v) w:=by
   intro v hg;unfold execOp;simp[hop,hv,Instr.extract,hg]
  split at h
  ·rename_i cs e;injection h with h
   subst h;obtain⟨v,h1,h2⟩:=hf.get e;exact iV (key h1) h2
  ·rename_i b e;injection h with h
   subst h;obtain⟨v,h1,h2⟩:=hf.get e;obtain⟨b',e2,h2⟩:=h2;injection e2 with e2
   subst e2;exact iV (key h1) h2
  ·cases h
 ·cases h
theorem MO (he:ER m bs w S env a) {x:Operand} (hop:o.op=.move x∨o.op=.assign x) {y:XV} (h:ev env x=some y):jM P o bs w S a cR (y,none):=by
 refine iV (v:=a.eval x) ?_ (cM he h);unfold execOp;rcases hop with hop|hop<;>simp[hop]
def ncX (x:Option XV):Option XV:=match x with
 | some (.one p)=>(EX p 0).map fun _=>.one p
 | _=>none
theorem Wk (he:ER m bs w S env a) {x:Operand} (hop:o.op=.nilCheck x) {y:XV} (h:ncX (ev env x)=some y):jM P o bs w S a cR (y,none):=by
 unfold ncX at h;split at h
 ·rename_i p hp;cases e:EX p 0 with
  | none=>rw[e] at h;cases h
  | some q=>
   rw[e] at h;injection h with h
   subst h;have hv:=cM he hp;obtain⟨ad,h1,_⟩:=zO e hv;refine iV (v:=a.eval x) ?_ hv;unfold execOp;simp[hop,h1]
 ·cases h
end
def XV.cells:XV→Option (List AV)
 | .one a=>some [a]
 | .agg cs=>some cs
 | .tup _=>none
def Ky (t:TypeId) (cR:Nat) (x:Option XV):Option (XV×Option ai):=(x.bind XV.cells).map fun cs=>(.one (.ptr cR 0),some (.cells t cs))
def Lb (P:Program) (t:TypeId):Option XV:=((P.info? t).bind (·.zero)).bind (Wn true)
def oc (place:Nat→Option (Nat×Nat)) (cells:List AV):List (Nat×List AV)→Option (List AV)
 | []=>some cells
 | (i,v)::rest=>match place i with
  | none=>none
  | some (off,size)=>if v.length≠size||decide (off+v.length>cells.length) then none else oc place ((v.zipIdx).foldl (fun cs (p:AV×Nat)=>cs.set (off+p.2) p.1) cells) rest
def lq (env:Env):List (Nat×Operand)→Option (List (Nat×List AV))
 | []=>some []
 | (i,x)::l=>match (ev env x).bind XV.cells,lq env l with
  | some cs,some r=>some ((i,cs)::r)
  | _,_=>none
def uG (P:Program) (t:TypeId):Option (List AV):=((P.info? t).bind (·.zero)).bind fun z=>if z.cells.all (·.oneCell') then some (z.cells.toList.map .val) else none
def Yp (P:Program) (t:TypeId) (ps:Option (List (Nat×List AV))):Option XV:=match P.underlying t,uG P t,ps with
 | some (.array _ e),some z,some ps=>(P.info? e).bind fun ie=>(oc (fun i=>some (i*ie.size,ie.size)) z ps).map .agg
 | some (.struct fields),some z,some ps=>(fields.toList.mapM (fun f=>(P.info? f.type).map fun i=>(f.offset,i.size))).bind fun places=>(oc (places.toArray[·]?) z ps).map .agg
 | _,_,_=>none
def uO (ty:Ty) (sz:Nat):Nat→List AV→Option (List (El ty))
 | 0,[]=>some []
 | 0,_=>none
 | n+1,cs=>match un ty (cs.take sz),uO ty sz n (cs.drop sz) with
  | some x,some l=>some (x::l)
  | _,_=>none
def Jd (P:Program) (ty:TypeId→Option Ty) (cR:Nat) (t:TypeId) (n:Nat) (ps:Option (List (Nat×List AV))):Option (XV×Option ai):=match QH P t,ps with
 | some (e,sz),some ps=>match ty e,uG P e with
  | some y,some z=>if sz=aK.sz (El y)∧sz=z.length∧0<n*sz∧n*sz≤16777216 then ((oc (fun i=>some (i*sz,sz)) (List.replicate n z).flatten ps).bind (uO y sz n)).map fun xs=>(.one (.own cR),some (.row y e xs.reverse))
   else none
  | _,_=>none
 | _,_=>none
section
variable {α β:Type} {R:α→β→Prop}
theorem F2.set {l:List α} {m:List β} (h:F2 R l m) {x:α} {y:β} (hr:R x y):∀i,F2 R (l.set i x) (m.set i y):=by
 induction h with
 | nil=>intro i;exact .nil
 | cons h k ih=>intro i;cases i with
  | zero=>exact .cons hr k
  | succ i=>exact .cons h (ih i)
theorem F2.fold {us:List α} {vs:List β} (h:F2 R us vs) (off:Nat):∀(k:Nat) {l:List α} {m:List β},F2 R l m→F2 R ((us.zipIdx k).foldl (fun cs (p:α×Nat)=>cs.set (off+p.2) p.1) l) ((vs.zipIdx k).foldl (fun cs (p:β×Nat)=>cs.set (off+p.2) p.1) m):=by
 induction h with
 | nil=>intro k l m h;exact h
 | cons h _ ih=>intro k l m hl;exact ih (k+1) (hl.set h _)
theorem F2.replicate {x:List α} {y:List β} (h:F2 R x y):∀n,F2 R (List.replicate n x).flatten (List.replicate n y).flatten
 | 0=>.nil
 | n+1=>by rw[List.replicate_succ,List.replicate_succ,List.flatten_cons,List.flatten_cons];exact h.append (F2.replicate h n)
end
theorem foldl_toList (off:Nat):∀(l:List (Value×Nat)) (cs:Array Value),(l.foldl (fun cs (p:Value×Nat)=>cs.setIfInBounds (off+p.2) p.1) cs).toList=l.foldl (fun cs (p:Value×Nat)=>cs.set (off+p.2) p.1) cs.toList
 | [],_=>rfl
 | p::l,cs=>by rw[adx,adx,foldl_toList off l,Array.toList_setIfInBounds]
section
variable {P:Program} {o:Oper} {cx:Cx} {bs:List Value} {w:World} {S:Nat→Prop} {H:List ai} {m:Nat} {env:Env} {a:Act} {cR:Nat}
theorem XV.cells_ok {x:XV} {cs:List AV} {v:Value} (h:XV.cells x=some cs) (hx:XR bs w S x v):F2 (VR bs w S) cs v.cells.toList:=by
 cases x with
 | one b=>
  injection h with h
  subst h;have h1:=VR.one hx;have:v.cells=#[v]:=by cases v<;>first|rfl|cases h1
  rw[this];exact .cons hx .nil
 | agg ds=>
  injection h with h
  subst h;obtain⟨vs,rfl,hf⟩:=hx;simpa[Value.cells] using hf
 | tup l=>cases h
theorem acg (hs:HS cx bs w S H) {t:TypeId} {cs:List AV} {v:Value} (hr:(execOp a.eval o).run P w=.ok (.value (.pointer (some ⟨w.heap.size,0,none⟩))) (w.alloc (.cells v.cells t))) (hf:F2 (VR bs w S) cs v.cells.toList):jM P o bs w S a cR (.one (.ptr cR 0),some (.cells t cs)):=by
 intro K Q h;unfold Oper.wp;rw[hr,Oper.upon_value];have hb:Below w.heap.size w (w.alloc (.cells v.cells t)):=oj _ _;refine h _ _ S (.pointer (some ⟨w.heap.size,0,none⟩)) hb (fun _ h=>h) (fun _ h=>.inl h) (fun bm ha hn=>⟨⟨w.heap.size,hn rfl,rfl⟩,fun x hx=>?_⟩) fun x hx b qQ=>?_
 ·injection hx with hx
  subst hx;exact⟨w.heap.size,v.cells.toList,rfl,dy.new _ _ _,hf.mono fun _ _ q=>q.keep (fun _ h=>h) ((aA.of_below hb).sub fun b q=>(hs.s b q).1) ha⟩
 ·injection hx with hx
  subst hx;injection qQ with qQ
  subst qQ;exact⟨aaW _,fun q=>acQ _ (hs.s _ q).1⟩
theorem TD (hs:HS cx bs w S H) (he:ER m bs w S env a) {t:TypeId} {x:Operand} (hop:o.op=.box t x) {r:XV×Option ai} (h:Ky t cR (ev env x)=some r):jM P o bs w S a cR r:=by
 unfold Ky at h;cases e:ev env x with
 | none=>rw[e] at h;cases h
 | some y=>
  rw[e] at h;cases e2:XV.cells y with
  | none=>simp[e2] at h
  | some cs=>
   have h':some (XV.one (.ptr cR 0),some (ai.cells t cs))=some r:=by simpa[e2] using h
   injection h' with h'
   subst h';refine acg hs (v:=a.eval x) ?_ (XV.cells_ok e2 (cM he e));unfold execOp;simp[hop,Instr.box,newVar,newRow]
theorem JH {c:Bool} {v:Value} {x:XV} {cs:List AV} (h:Wn c v=some x) (hc:XV.cells x=some cs):F2 (VR bs w S) cs v.cells.toList:=XV.cells_ok hc (E0 h)
theorem TN (hs:HS cx bs w S H) {t:TypeId} (hop:o.op=.alloc t) {r:XV×Option ai} (h:Ky t cR (Lb P t)=some r):jM P o bs w S a cR r:=by
 unfold Ky Lb at h;cases hi:P.info? t with
 | none=>rw[hi] at h;cases h
 | some i=>
  cases hz:i.zero with
  | none=>simp[hi,hz] at h
  | some z=>
   cases hm:Wn true z with
   | none=>simp[hi,hz,hm] at h
   | some y=>
    cases e2:XV.cells y with
    | none=>simp[hi,hz,hm,e2] at h
    | some cs=>
     have h':some (XV.one (.ptr cR 0),some (ai.cells t cs))=some r:=by simpa[hi,hz,hm,e2] using h
     injection h' with h'
     subst h';refine acg hs (v:=z) ?_ (JH hm e2);unfold execOp;simp[hop,Instr.alloc,zeroValue,typeInfo,hi,hz,newVar,newRow]
theorem lF (he:ER m bs w S env a):∀{l:List (Nat×Operand)} {r:List (Nat×List AV)},lq env l=some r→F2 (fun p q=>p.1=q.1∧F2 (VR bs w S) p.2 q.2.cells.toList) r (l.map fun p=>(p.1,a.eval p.2))
 | [],r,h=>by injection h with h;subst h;exact .nil
 | (i,x)::l,r,h=>by
  unfold lq at h;split at h
  ·rename_i cs r' h1 h2;injection h with h
   subst h;cases e:ev env x with
   | none=>rw[e] at h1;cases h1
   | some y=>
    rw[e] at h1;exact .cons ⟨rfl,XV.cells_ok h1 (cM he e)⟩ (lF he h2)
  ·cases h
theorem qR {place:Nat→Option (Nat×Nat)}:∀{ps:List (Nat×List AV)} {qs:List (Nat×Value)} {cs r:List AV} {vs:Array Value},oc place cs ps=some r→F2 (fun p q=>p.1=q.1∧F2 (VR bs w S) p.2 q.2.cells.toList) ps qs→F2 (VR bs w S) cs vs.toList→∃us,Instr.fill place vs qs=some us∧F2 (VR bs w S) r us.toList
 | [],_,cs,r,vs,h,hp,hc=>by cases hp;injection h with h;subst h;exact⟨vs,rfl,hc⟩
 | (i,v)::ps,_,cs,r,vs,h,hp,hc=>by
  cases hp with
  | @cons _ q _ qs h1 h2=>
   obtain⟨j,u⟩:=q;obtain⟨e,h1⟩:=h1;have e:i=j:=e;subst e;unfold oc at h;cases xD:place i with
   | none=>rw[xD] at h;cases h
   | some p=>
    obtain⟨off,size⟩:=p;rw[xD] at h;simp only at h;split at h
    ·cases h
    ·rename_i JY;have hl:v.length=u.cells.size:=h1.length.trans abI;have hl2:cs.length=vs.size:=hc.length.trans abI;obtain⟨us,h3,h4⟩:=qR (vs:=u.cells.zipIdx.foldl (fun cs (p:Value×Nat)=>cs.setIfInBounds (off+p.2) p.1) vs) h h2 (by
      rw[←Array.foldl_toList,foldl_toList,Array.toList_zipIdx];exact h1.fold off 0 hc)
     refine⟨us,?_,h4⟩;unfold Instr.fill;rw[xD];simp only;rw[if_neg (by rw[←hl,←hl2];simpa using JY)];exact h3
theorem oy {t:TypeId} {z:List AV} (h:uG P t=some z):∃i zv,P.info? t=some i∧i.zero=some zv∧F2 (VR bs w S) z zv.cells.toList:=by
 unfold uG at h;cases hi:P.info? t with
 | none=>rw[hi] at h;cases h
 | some i=>
  cases hz:i.zero with
  | none=>simp[hi,hz] at h
  | some zv=>
   rw[hi] at h;have h:(if zv.cells.all (·.oneCell') then some (zv.cells.toList.map AV.val) else none)=some z:=by simpa[hz] using h
   split at h
   ·rename_i h1;injection h with h
    subst h;exact⟨i,zv,rfl,hz,zY (c:=true) fun v hv=>adH.1 h1 v (by simpa using hv)⟩
   ·cases h
theorem TG (he:ER m bs w S env a) {t:TypeId} {ps:Array (Nat×Operand)} (hop:o.op=.build t ps) {y:XV} (h:Yp P t (lq env ps.toList)=some y):jM P o bs w S a cR (y,none):=by
 have fin:∀{cells:Array Value} {r:List AV},P.built t (ps.map fun(i,x)=>(i,a.eval x)).toList=some cells→F2 (VR bs w S) r cells.toList→XV.agg r=y→jM P o bs w S a cR (y,none):=by
  intro cells r hb hf e;subst e;refine iV (v:=.agg cells) ?_ ⟨cells.toList,rfl,hf⟩;unfold execOp;simp only[hop,Sem.run_bind,run_build w t _ cells hb,Result.andThen_ok,Sem.run_pure]
 have Sp:(ps.map fun(i,x)=>(i,a.eval x)).toList=ps.toList.map fun p=>(p.1,a.eval p.2):=by rw[adv]
 unfold Yp at h;split at h
 ·rename_i n e z YY hu hz hp;obtain⟨i,zv,hi,fA,hf⟩:=oy (bs:=bs) (w:=w) (S:=S) hz;cases hie:P.info? e with
  | none=>rw[hie] at h;cases h
  | some ie=>
   rw[hie] at h;cases yF:oc (fun i=>some (i*ie.size,ie.size)) z YY with
   | none=>simp[yF] at h
   | some r=>
    have h:XV.agg r=y:=by simpa[yF] using h
    obtain⟨us,h1,h2⟩:=qR yF (lF he hp) hf;refine fin (cells:=us) (r:=r) ?_ h2 h;unfold Program.built;simp only[Sp,hi,hu,fA,hie];exact h1
 ·rename_i fs z YY hu hz hp;obtain⟨i,zv,hi,fA,hf⟩:=oy (bs:=bs) (w:=w) (S:=S) hz;cases xD:fs.toList.mapM (fun f=>(P.info? f.type).map fun i=>(f.offset,i.size)) with
  | none=>rw[xD] at h;cases h
  | some places=>
   rw[xD] at h;cases yF:oc (places.toArray[·]?) z YY with
   | none=>
    have h:(oc (places.toArray[·]?) z YY).map XV.agg=some y:=h;rw[yF] at h;cases h
   | some r=>
    have h:(oc (places.toArray[·]?) z YY).map XV.agg=some y:=h;rw[yF] at h;injection h with h
    obtain⟨us,h1,h2⟩:=qR yF (lF he hp) hf;refine fin (cells:=us) (r:=r) ?_ h2 h;unfold Program.built;simp only[Sp,hi,hu,fA,xD];exact h1
 ·cases h
theorem Bo {ty:Ty} {sz:Nat}:∀{n:Nat} {cs:List AV} {vs:List Value} {xs:List (El ty)},uO ty sz n cs=some xs→F2 (VR bs w S) cs vs→Flat w S vs xs∧xs.length=n
 | 0,[],_,xs,h,hf=>by cases hf;injection h with h;subst h;exact⟨.nil,rfl⟩
 | 0,_::_,_,xs,h,_=>by cases h
 | n+1,cs,vs,xs,h,hf=>by
  unfold uO at h;split at h
  ·rename_i x l h1 h2;injection h with h
   subst h;obtain⟨q1,q2⟩:=Bo h2 (hf.drop sz);have:=Flat.cons (lh h1 (hf.take sz)) q1;rw[List.take_append_drop] at this;exact⟨this,by simp[q2]⟩
  ·cases h
theorem tD (z:List Value) (hz:0<z.length) (n:Nat):((Array.range (n*z.length)).map (z.toArray[·%z.toArray.size]!)).toList=(List.replicate n z).flatten:=by
 apply acW;intro i;rw[adv,Array.toList_range,acX];by_cases hi:i<n*z.length
 ·rw[adr hi];have h1:i/z.length<n:=Nat.div_lt_of_lt_mul (by rw[ady];exact hi);have h2:i%z.length<z.length:=Nat.mod_lt _ hz;have h3:i=i/z.length*z.length+i%z.length:=by rw[ady];exact(Nat.div_add_mod _ _).symm
  have key:∀(n q r:Nat),q<n→r<z.length→(List.replicate n z).flatten[q*z.length+r]?=z[r]?:=by
   intro n;induction n with
   | zero=>intro q r h;omega
   | succ n ih=>
    intro q r hq hr;rw[List.replicate_succ,List.flatten_cons];cases q with
    | zero=>rw[Nat.zero_mul,ace,aaK hr]
    | succ q=>
     rw[aag (by rw[Nat.succ_mul];omega),show(q+1)*z.length+r-z.length=q*z.length+r by rw[Nat.succ_mul];omega];exact ih q r (by omega) hr
  have hk:=key n (i/z.length) (i%z.length) h1 h2;rw[←h3] at hk;rw[hk];simp[h2]
 ·rw[abL (by simpa using hi),abL (by simp[List.length_flatten];omega)];rfl
theorem Gr (hs:HS cx bs w S H) {ty:TypeId→Option Ty} {t:TypeId} {n:Nat} {ps:Array (Nat×Operand)} {l:List (Nat×List AV)} (Fg:F2 (fun p q=>p.1=q.1∧F2 (VR bs w S) p.2 q.2.cells.toList) l (ps.toList.map fun p=>(p.1,a.eval p.2))) (hop:o.op=.buildSlice t n ps) {r:XV×Option ai} (h:Jd P ty cR t n (some l)=some r):jM P o bs w S a cR r:=by
 unfold Jd at h;split at h
 ·rename_i e sz YY fJ hp;injection hp with hp
  subst hp;split at h
  ·rename_i y z hy hz;split at h
   ·rename_i hc;obtain⟨c1,c2,c3,c4⟩:=hc;cases yF:oc (fun i=>some (i*sz,sz)) (List.replicate n z).flatten l with
    | none=>rw[yF] at h;cases h
    | some cs=>
     rw[yF] at h;cases hur:uO y sz n cs with
     | none=>have h:(uO y sz n cs).map _=some r:=h;rw[hur] at h;cases h
     | some xs=>
      have h:(uO y sz n cs).map _=some r:=h;rw[hur] at h;injection h with h
      subst h;obtain⟨i,zv,hi,fA,hf⟩:=oy (bs:=bs) (w:=w) (S:=S) hz;unfold QH at fJ;cases hu:P.underlying t with
      | none=>rw[hu] at fJ;cases fJ
      | some d=>
       rw[hu] at fJ;cases d with
       | slice e'=>
        have fJ:(P.info? e').map (fun i=>(e',i.size))=some (e,sz):=fJ;cases Qc:P.info? e' with
        | none=>rw[Qc] at fJ;cases fJ
        | some i2=>
         rw[Qc] at fJ;injection fJ with fJ
         injection fJ with e1 e2
         subst e1;rw[hi] at Qc;injection Qc with Qc
         subst Qc;have yB:z.length=zv.cells.size:=hf.length.trans abI;have kr:0<zv.cells.toList.length:=by
          rw[abI,←yB,←c2];rcases adg sz with q|q
          ·rw[q] at c3;simp at c3
          ·exact q
         have Sp:(ps.map fun(i,x)=>(i,a.eval x)).toList=ps.toList.map fun p=>(p.1,a.eval p.2):=by rw[adv]
         obtain⟨us,h1,h2⟩:=qR (vs:=(Array.range (n*i.size)).map (zv.cells[·%zv.cells.size]!)) yF Fg (by
          have hzs:zv.cells.size=sz:=by omega
          have hq:=tD zv.cells.toList kr n;rw[abI,show zv.cells.toList.toArray=zv.cells from acj] at hq;rw[e2,←hzs,hq];exact hf.replicate n)
         obtain⟨q1,q2⟩:=Bo hur h2;have lu:=run_buildSlice (P:=P) w t e' n (ps.map fun(i,x)=>(i,a.eval x)) us i zv hu hi fA (by rw[e2];omega) (by rw[e2];omega) (by rw[Sp,e2];rw[e2] at h1;exact h1);intro K Q hk;unfold Oper.wp execOp;simp only[hop,Sem.run_bind,lu,Result.andThen_ok,Sem.run_pure,Oper.upon_value];have hb:Below w.heap.size w (w.alloc (.cells us e')):=oj _ _;have bS:aA S w (w.alloc (.cells us e')):=(aA.of_below hb).sub fun b q=>(hs.s b q).1;have bM:us.toList.length=n*sz:=by rw[q1.length,q2,c1]
         refine hk _ _ S (.slice (some ⟨w.heap.size,0,none⟩) n n) hb (fun _ h=>h) (fun _ h=>.inl h) (fun bm ha hn=>⟨⟨hn rfl,_,_,_,rfl⟩,fun x hx=>?_⟩) fun x hx b qQ=>?_
         ·injection hx with hx
          subst hx;show Own (α:=El y) _ S 0 e' _ xs.reverse.reverse;rw[aal];have KX:n≤maxLen:=by
           have:n≤n*sz:=Nat.le_mul_of_pos_right _ (by rcases adg sz with q|q;(· rw[q] at c3;simp at c3);exact q);unfold maxLen;omega
          refine⟨us.toList,⟨by rw[bM,q2,c1],.inr ⟨w.heap.size,n,us,by rw[q2],abS _,heap_alloc_new w _,by omega,KX,?_,?_⟩⟩,q1.keep (fun _ h=>h) bS,fun b q=>⟨abw (hs.s b q).1 hb.size,fun e=>?_⟩⟩
          ·rw[abI] at bM;rw[bM,c1]
          ·rw[q2,acV (by rw[bM,c1];exact aaW _)]
          ·have e':b=w.heap.size:=aae e;have:=(hs.s b q).1;omega
         ·injection hx with hx
          subst hx;injection qQ with qQ
          subst qQ;exact⟨aaW _,fun q=>acQ _ (hs.s _ q).1⟩
       | _=>cases fJ
   ·cases h
  ·cases h
 ·cases h
theorem QL (hs:HS cx bs w S H) (he:ER m bs w S env a) {ty:TypeId→Option Ty} {t:TypeId} {n:Nat} {ps:Array (Nat×Operand)} (hop:o.op=.buildSlice t n ps) {r:XV×Option ai} (h:Jd P ty cR t n (lq env ps.toList)=some r):jM P o bs w S a cR r:=by
 cases hp:lq env ps.toList with
 | none=>rw[hp] at h;unfold Jd at h;cases hq:QH P t<;>rw[hq] at h<;>cases h
 | some l=>rw[hp] at h;exact Gr hs (lF he hp) hop h
end
end Go.Proofs.YtjlhbfbdcfajfaaGreatDoor
