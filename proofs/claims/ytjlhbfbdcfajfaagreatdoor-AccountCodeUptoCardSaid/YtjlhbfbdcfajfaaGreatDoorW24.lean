/- MOp2 MOp3 MOp4 -/
import Derived.Test.YtjlhbfbdcfajfaaGreatDoorW00
import Derived.Test.YtjlhbfbdcfajfaaGreatDoorW23
set_option maxHeartbeats 8000000
set_option maxRecDepth 100000
namespace Go.Proofs.YtjlhbfbdcfajfaaGreatDoor
open Go Go.RowKit
def Y3 (P:Program) (t:TypeId):Option (Bool×Nat):=match Rw P t with
 | some true=>(P.info? t).map fun i=>(true,i.size)
 | some false=>some (false,1)
 | none=>none
def WH (q:Bool×Nat) (cs:List AV):Option XV:=if cs.length=q.2 then(if q.1 then some (.agg cs) else match cs with
 | [a]=>some (.one a)
 | _=>none) else none
def vz (H:List aj):AV→Option (List AV)
 | .ptr o off=>match H[o]? with
  | some (.cells _ cs)=>some (cs.drop off)
  | _=>none
 | .ref t x off=>some ((lJ t x).drop off)
 | .elo o i sz off=>match H[o]? with
  | some (.row t _ rs)=>if sz=aG.sz (El t) then some ((lJ t (rs.reverse.getD i (Cw t))).drop off) else none
  | _=>none
 | .sub o o2 off=>match H[o]? with
  | some (.zip R2 _ _ _ _ _ cur _)=>if o2=R2 then some (cur.drop off) else none
  | _=>none
 | _=>none
def Y2 (P:Program) (H:List aj) (t:TypeId) (x:Option XV):Option XV:=match Y3 P t,x with
 | some q,some (.one a)=>(vz H a).bind fun cs=>WH q (cs.take q.2)
 | _,_=>none
def Gb (a:AV) (k:Nat):Option AV:=match a with
 | .ptr o f=>some (.ptr o (f+k))
 | .ref t x f=>some (.ref t x (f+k))
 | .elo o i s f=>some (.elo o i s (f+k))
 | .sub o o2 f=>some (.sub o o2 (f+k))
 | _=>none
def aff (P:Program) (s:TypeId) (i:Nat):Option Nat:=match P.underlying s with
 | some (.struct fs)=>(fs[i]?).bind fun f=>(P.info? f.type).bind fun j=>if j.size=0 then none else some f.offset
 | _=>none
def Xh (P:Program) (s:TypeId) (i:Nat):Option (Nat×TypeId):=match P.underlying s with
 | some (.struct fs)=>(fs[i]?).map fun f=>(f.offset,f.type)
 | _=>none
def S8 (P:Program) (t:TypeId):Option (TypeId×Nat):=match P.underlying t with
 | some (.slice e)=>(P.info? e).map fun i=>(e,i.size)
 | _=>none
def ow:Option XV→Option (IntKind×Int×Bool)
 | some (.one (.val (.int k n)))=>some (k,n,true)
 | some (.one (.sym (.int k n)))=>some (k,n,false)
 | _=>none
section
variable {P:Program} {o:Oper} {cx:Cx} {bs:List Value} {w:World} {S:Nat→Prop} {H:List aj} {m:Nat} {env:Env} {a:Act} {cX:Nat}
theorem CR.agg {cs:List AV} {vs:List Value} (h:F2 (VR bs w S) cs vs):XR bs w S (.agg cs) (.agg vs.toArray):=⟨vs,rfl,h⟩
theorem aav (hs:HS cx bs w S H) {ob i off g n c:Nat} {t:Ty} {e:TypeId} {rs:List (El t)} (hH:H[ob]?=some (.row t e rs)) (hb:bs[ob]?=some (.slice (some ⟨g,0,none⟩) n c)) (hi:i<n):∃ds,aG.rep w S ds (rs.reverse.getD i (Cw t))∧cP w ⟨g,i*aG.sz (El t)+off,none⟩ (ds.drop off):=by
 have ho:Own (α:=El t) w S 0 e (.slice (some ⟨g,0,none⟩) n c) rs.reverse:=hs.o ob _ _ hH hb;obtain⟨A',n',c',Pj,hn⟩:=ho.slice;injection Pj with _ vn _
 subst vn;obtain⟨cs,q1,q2,_⟩:=ho;have hx:rs.reverse[i]?=some (rs.reverse.getD i (Cw t)):=by rw[aaQ,aac (by omega)];rfl
 obtain⟨ds,hr,hc⟩:=q2.get i _ hx;refine⟨ds,hr,fun j u hj=>?_⟩;rw[ab5] at hj;have h1:=q1.cells (g:=g) rfl _ _ (hc _ u hj);have nO:(⟨g,i*aG.sz (El t)+off,none⟩:Addr).add j=(⟨g,0,none⟩:Addr).add (i*aG.sz (El t)+(off+j)):=by unfold Addr.add;split<;>simp_all [ab3]
 rw[nO];exact h1
theorem Nb (hs:HS cx bs w S H) {ob o2 g p:Nat} {e:TypeId} {t tn:Ty} {iu:Nat} {done:List (El t)} {cur:List AV} {rest:List (El tn)} {v:Value} (hH:H[ob]?=some (.zip o2 e t tn iu done cur rest)) (hb:bs[ob]?=some v) (h2:bs[o2]?=some (.pointer (some ⟨g,p,none⟩))):∃(bQ:List (km (aG.sz (El t)))) (n c:Nat) (r:km (aG.sz (El t))),v=.slice (some ⟨g,0,none⟩) n c∧p=done.length*aG.sz (El t)∧Own w S 0 e v bQ∧ZR bs w S (tn:=tn) iu done cur rest bQ∧bQ[done.length]?=some r∧cP w ⟨g,p,none⟩ r.cells:=by
 obtain⟨bQ,ho,hz,hl,u,hu,_,hv⟩:=hs.o ob _ _ hH hb;rw[h2] at hu;obtain rfl:=aaZ hu;have hlt:=hl;have hr:bQ[done.length]?=some (bQ[done.length]'(by rw[hz.1];exact hlt)):=aac _;have ho0:=ho;obtain⟨cs,q1,q2,_⟩:=ho;have q1':=q1;obtain⟨_,h3⟩:=q1';rcases h3 with⟨_,hn⟩|⟨g',cap,afr,lm,_⟩
 ·rw[hz.1] at hn;omega
 ·have hp:=hv g' _ _ lm;injection hp with hp
  injection hp with hp
  injection hp with e1 e2
  subst e1 e2;obtain⟨ds,hd,hc⟩:=q2.get _ _ hr;have hd:ds=_:=hd;subst hd;refine⟨bQ,_,_,_,lm,rfl,ho0,hz,hr,fun j u hj=>?_⟩;have h1:=q1.cells (g:=g) (by rw[lm];rfl) _ _ (hc _ u hj);have nO:(⟨g,done.length*aG.sz (El t),none⟩:Addr).add j=(⟨g,0,none⟩:Addr).add (done.length*aG.sz (km (aG.sz (El t)))+j):=by
   show(⟨g,done.length*aG.sz (El t),none⟩:Addr).add j=(⟨g,0,none⟩:Addr).add (done.length*aG.sz (El t)+j);unfold Addr.add;split<;>simp_all
  rw[nO];exact h1
theorem xR (hs:HS cx bs w S H) {p:AV} {cs:List AV} {v:Value} (h:vz H p=some cs) (hv:VR bs w S p v):∃ad vs,v=.pointer (some ad)∧cP w ad vs∧F2 (VR bs w S) cs vs:=by
 cases p with
 | ptr o off=>
  obtain⟨g,h1,rfl⟩:=hv;have h:(match H[o]? with|some (aj.cells _ cs)=>some (cs.drop off)|_=>none)=some cs:=h;cases e:H[o]? with
  | none=>rw[e] at h;cases h
  | some x=>
   rw[e] at h;cases x with
   | cells ty ds=>
    injection h with h
    subst h;obtain⟨g',vs,e2,h2,h3⟩:=hs.o o _ _ e h1;injection e2 with e2
    injection e2 with e2
    injection e2 with e2
    subst e2;refine⟨_,vs.drop off,rfl,fun j u hj=>?_,h3.drop off⟩;rw[ab5] at hj;have nO:(⟨g,off,none⟩:Addr).add j=⟨g,off+j,none⟩:=by unfold Addr.add;split<;>simp_all
    rw[nO,h2.cell];simpa using hj
   | _=>cases h
 | ref t x off=>
  obtain⟨b,p,vs,_,rfl,h2,h3⟩:=hv;injection h with h
  subst h;refine⟨_,vs.drop off,rfl,fun j u hj=>?_,(kh h2).drop off⟩;rw[ab5] at hj;have:=h3 _ _ hj;rw[←gM] at this;have nO:(⟨b,p,none⟩:Addr).add off=⟨b,p+off,none⟩:=by unfold Addr.add;split<;>simp_all
  rw[←nO];exact this
 | elo o i sz off=>
  obtain⟨g,n,c,h1,h2,rfl⟩:=hv;have h:(match H[o]? with|some (aj.row t _ rs)=>if sz=aG.sz (El t) then some ((lJ t (rs.reverse.getD i (Cw t))).drop off) else none|_=>none)=some cs:=h;cases e:H[o]? with
  | none=>rw[e] at h;cases h
  | some x=>
   rw[e] at h;cases x with
   | row t te rs=>
    simp only at h;split at h
    ·rename_i jN;injection h with h
     subst h jN;obtain⟨ds,q1,q2⟩:=aav hs e h1 h2 (off:=off);exact⟨_,_,rfl,q2,(kh q1).drop off⟩
    ·cases h
   | _=>cases h
 | sub o o2 off=>
  obtain⟨g,p,h2,rfl⟩:=hv;have h:(match H[o]? with|some (aj.zip R2 _ _ _ _ _ cur _)=>if o2=R2 then some (cur.drop off) else none|_=>none)=some cs:=h;split at h
  ·rename_i R2 e t tn iu done cur rest hH;split at h
   ·rename_i e2;subst e2;injection h with h
    subst h;have yG:o<bs.length:=by rw[hs.len];exact(aad.1 hH).1
    obtain⟨bQ,n,c,r,_,_,_,hz,hr,hc⟩:=Nb hs hH (aac yG) h2;refine⟨_,r.cells.drop off,rfl,fun j u hj=>?_,((hz.2 _ _ hr).2.1 rfl).drop off⟩;rw[ab5] at hj;have:=hc _ _ hj;rw[←gM] at this;have nO:(⟨g,p,none⟩:Addr).add off=⟨g,p+off,none⟩:=by unfold Addr.add;split<;>simp_all
    rw[←nO];exact this
   ·cases h
  ·cases h
 | _=>cases h
theorem cP.take {ad:Addr} {vs:List Value} (h:cP w ad vs) (n:Nat):cP w ad (vs.take n):=fun j u hj=>by
 rw[ab6] at hj;split at hj
 ·exact h j u hj
 ·cases hj
theorem Y1 (hs:HS cx bs w S H) (he:ER m bs w S env a) {t:TypeId} {x:Operand} (hop:o.op=.load t x) {y:XV} (h:Y2 P H t (ev env x)=some y):jS P o bs w S a cX (y,none):=by
 unfold Y2 at h;split at h
 ·rename_i q z hq hz;have hv:=cR he hz;cases e:vz H z with
  | none=>rw[e] at h;cases h
  | some cs=>
   rw[e] at h;have h:WH q (cs.take q.2)=some y:=h;obtain⟨ad,vs,hv,hc,hf⟩:=xR hs e hv;have BH:=hf.take q.2;have Z1:=hc.take q.2;have hl:=BH.length;unfold WH at h;split at h
   ·rename_i bO;rw[bO] at hl;unfold Y3 at hq;split at hq
    ·rename_i P7;cases hi:P.info? t with
     | none=>rw[hi] at hq;cases hq
     | some i=>
      rw[hi] at hq;injection hq with hq
      subst hq;simp only[if_true] at h;injection h with h
      subst h;refine jf (v:=.agg (vs.take i.size).toArray) ?_ (CR.agg BH);have:=Wz Z1 P7 (by rw[hi];exact congrArg some hl);unfold execOp;simp only[hop,hv,Sem.run_bind,this,Result.andThen_ok,Sem.run_pure]
    ·rename_i P7;injection hq with hq
     subst hq;simp only[abx,if_false] at h;split at h
     ·rename_i b hb;injection h with h
      subst h;have BI:=BH;rw[hb] at BI;cases UA:vs.take 1 with
      | nil=>rw[UA] at BI;cases BI
      | cons v r=>
       rw[UA] at BI Z1;cases BI with
       | cons h1 h2=>
        refine jf (v:=v) ?_ h1;have h0:=Z1 0 v rfl;have:ad.add 0=ad:=by unfold Addr.add;simp
        rw[this] at h0;have hl:=WA (P:=P) (t:=t) h0 P7;unfold execOp;simp only[hop,hv,Sem.run_bind,hl,Result.andThen_ok,Sem.run_pure]
     ·cases h
    ·cases hq
   ·cases h
 ·cases h
theorem Bg {x y:AV} {k:Nat} {v:Value} (h:Gb x k=some y) (hv:VR bs w S x v):∃ad:Addr,v=.pointer (some ad)∧VR bs w S y (.pointer (some (ad.add k))):=by
 cases x with
 | ptr o f=>
  injection h with h;subst h
  obtain⟨g,h1,rfl⟩:=hv;exact⟨_,rfl,g,h1,by unfold Addr.add;split<;>simp_all⟩
 | ref t x f=>
  injection h with h;subst h
  obtain⟨b,p,cs,h1,rfl,h2,h3⟩:=hv;exact⟨_,rfl,b,p,cs,h1,by unfold Addr.add;split<;>simp_all [ab3],h2,h3⟩
 | elo o i s f=>
  injection h with h;subst h
  obtain⟨g,n,c,h1,h2,rfl⟩:=hv;exact⟨_,rfl,g,n,c,h1,h2,by unfold Addr.add;split<;>simp_all [ab3]⟩
 | sub o o2 f=>
  injection h with h;subst h
  obtain⟨g,p,h1,rfl⟩:=hv;exact⟨_,rfl,g,p,h1,by unfold Addr.add;split<;>simp_all [ab3]⟩
 | _=>cases h
end
def aai (P:Program) (s:TypeId) (i:Nat) (x:Option XV):Option XV:=match aff P s i,x with
 | some k,some (.one p)=>(Gb p k).map .one
 | _,_=>none
def aah (P:Program) (s:TypeId) (i:Nat) (x:Option XV):Option XV:=match Xh P s i,x with
 | some (k,t),some (.agg cs)=>(Y3 P t).bind fun q=>WH q ((cs.drop k).take q.2)
 | _,_=>none
def ixX (P:Program) (H:List aj) (t:TypeId) (x i:Option XV):T XV:=match x,ow i with
 | some (.one (.list ty xs _)),some (_,n,_)=>if(S8 P t).map (·.2)==some (aG.sz (El ty)) then .nd (0≤n∧n<(xs.length:Int)) (.lf (.one (.ref ty (xs.getD n.toNat (Cw ty)) 0))) else .bad
 | some (.one (.own o)),some (_,n,_)=>match H[o]? with
  | some (.row ty _ rs)=>if(S8 P t).map (·.2)==some (aG.sz (El ty)) then .nd (0≤n∧n<(rs.length:Int)) (.lf (.one (.elo o n.toNat (aG.sz (El ty)) 0))) else .bad
  | some (.zip o2 _ ty _ _ done _ _)=>if(S8 P t).map (·.2)==some (aG.sz (El ty)) then .nd (n=(done.length:Int)) (.lf (.one (.sub o o2 0))) else .bad
  | _=>.bad
 | some (.one p),some (_,n,true)=>match P.underlying t with
  | some (.array l e)=>match P.info? e with
   | some j=>if 0≤n∧n<(l:Int) then T.op ((Gb p (n.toNat*j.size)).map .one) else .bad
   | none=>.bad
  | _=>.bad
 | _,_=>.bad
section
variable {P:Program} {o:Oper} {cx:Cx} {bs:List Value} {w:World} {S:Nat→Prop} {H:List aj} {m:Nat} {env:Env} {a:Act} {cX:Nat}
theorem zJ {t:TypeId} {b:Bool} (h:Rw P t=some b) (w:World):(isAgg t).run P w=.ok b w:=by
 unfold Rw at h;cases hd:P.underlying t with
 | none=>rw[hd] at h;cases h
 | some d=>
  rw[hd] at h;injection h with h
  subst h;unfold isAgg;rw[Sem.run_bind,run_underlying hd w];cases d<;>rfl
theorem U8 (he:ER m bs w S env a) {s:TypeId} {i:Nat} {x:Operand} (hop:o.op=.fieldAddr s x i) {y:XV} (h:aai P s i (ev env x)=some y):jS P o bs w S a cX (y,none):=by
 unfold aai at h;split at h
 ·rename_i k p hk hp;cases e:Gb p k with
  | none=>rw[e] at h;cases h
  | some q=>
   rw[e] at h;injection h with h
   subst h;obtain⟨ad,hv,hr⟩:=Bg e (cR he hp);refine jf (v:=.pointer (some (ad.add k))) ?_ hr;unfold aff at hk;split at hk
   ·rename_i fs hu;cases ef:fs[i]? with
    | none=>rw[ef] at hk;cases hk
    | some f=>
     rw[ef] at hk;have hk:((P.info? f.type).bind fun j=>if j.size=0 then none else some f.offset)=some k:=hk;cases ei:P.info? f.type with
     | none=>rw[ei] at hk;cases hk
     | some j=>
      rw[ei] at hk;have hk:(if j.size=0 then none else some f.offset)=some k:=hk;split at hk
      ·cases hk
      ·rename_i hj;injection hk with hk
       subst hk;unfold execOp;simp[hop,hv,Instr.fieldAt,Instr.sureAddr,Sem.run_bind,run_underlying hu w,ef,fieldPlace,sizeOf,typeInfo,ei,hj]
   ·cases hk
 ·cases h
theorem U6 (he:ER m bs w S env a) {s:TypeId} {i:Nat} {x:Operand} (hop:o.op=.field s x i) {y:XV} (h:aah P s i (ev env x)=some y):jS P o bs w S a cX (y,none):=by
 unfold aah at h;split at h
 ·rename_i k t cs hk hp;obtain⟨vs,hv,hf⟩:=cR he hp;cases e:Y3 P t with
  | none=>rw[e] at h;cases h
  | some q=>
   rw[e] at h;have h:WH q ((cs.drop k).take q.2)=some y:=h;have BH:=(hf.drop k).take q.2;have hl:=BH.length;unfold Xh at hk;split at hk
   ·rename_i fs hu;cases ef:fs[i]? with
    | none=>rw[ef] at hk;cases hk
    | some f=>
     rw[ef] at hk;injection hk with hk
     injection hk with ui eX
     subst ui eX;unfold WH at h;split at h
     ·rename_i bO;unfold Y3 at e;split at e
      ·rename_i P7;cases hi:P.info? f.type with
       | none=>rw[hi] at e;cases e
       | some j=>
        rw[hi] at e;injection e with e
        subst e;simp only[if_true] at h;injection h with h
        subst h;refine jf (v:=.agg ((vs.drop f.offset).take j.size).toArray) ?_ (CR.agg BH);unfold execOp;simp[hop,hv,Instr.field,Sem.run_bind,run_underlying hu w,ef,part,asAgg,zJ P7,sizeOf,typeInfo,hi]
      ·rename_i P7;injection e with e
       subst e;simp only[abx,if_false] at h;split at h
       ·rename_i b hb;injection h with h
        subst h;rw[hb] at BH;cases UA:(vs.drop f.offset).take 1 with
        | nil=>rw[UA] at BH;cases BH
        | cons v r=>
         rw[UA] at BH;cases BH with
         | cons h1 h2=>
          refine jf (v:=v) ?_ h1;have gR:vs[f.offset]?=some v:=by
           have:((vs.drop f.offset).take 1)[0]?=some v:=by rw[UA];rfl
           rw[ab6,if_pos (by omega),ab5] at this;simpa using this
          unfold execOp;simp[hop,hv,Instr.field,Sem.run_bind,run_underlying hu w,ef,part,asAgg,zJ P7,gR]
       ·cases h
      ·cases e
     ·cases h
   ·cases hk
 ·cases h
end
def cN (n:Int):Prop:= -9223372036854775808≤n∧n≤9223372036854775807
def arI (k:BinOp) (x y:Int):Option Int:=match k with
 | .add=>some (x+y)
 | .sub=>some (x-y)
 | .mul=>some (x*y)
 | _=>none
def arX (k:BinOp) (x y:Option XV):T XV:=match ow x,ow y with
 | some (.i64,n,false),some (.i64,q,_)|some (.i64,n,_),some (.i64,q,false)=>match arI k n q with
  | some r=>.nd (cN r) (.lf (.one (.sym (.int .i64 r))))
  | none=>.bad
 | _,_=>.bad
def Ui (H:List aj) (x:Option XV):Option XV:=match x with
 | some (.one (.list _ xs _))=>some (.one (.sym (.int .i64 (xs.length:Int))))
 | some (.one (.own o))=>match H[o]? with
  | some (.row _ _ rs)=>some (.one (.sym (.int .i64 (rs.length:Int))))
  | _=>none
 | _=>none
def xtX (x:Option XV) (i:Nat):Option XV:=match x with
 | some (.tup l)=>match l[i]? with
  | some (true,cs)=>some (.agg cs)
  | some (false,[a])=>some (.one a)
  | _=>none
 | _=>none
section
variable {P:Program} {o:Oper} {cx:Cx} {bs:List Value} {w:World} {S:Nat→Prop} {H:List aj} {m:Nat} {env:Env} {a:Act} {cX:Nat}
theorem jS.of_hit {t:T XV} {r:XV×Option aj} (h:(t.bind fun x=>.lf (x,none)).hit r) (hk:∀x,t.hit x→jS P o bs w S a cX (x,none)):jS P o bs w S a cX r:=by
 obtain⟨x,h1,h2⟩:=T.hit_bind h;have h2:(x,none)=r:=h2;rw[←h2];exact hk x h1
theorem jd (he:ER m bs w S env a) {x:Operand} {k:IntKind} {n:Int} {c:Bool} (h:ow (ev env x)=some (k,n,c)):a.eval x=.int k n:=by
 unfold ow at h;split at h
 ·rename_i j q e;injection h with h;injection h with h1 h;injection h with h2 h3
  subst h1 h2;exact(cR he e).1
 ·rename_i j q e;injection h with h;injection h with h1 h;injection h with h2 h3
  subst h1 h2;exact(cR he e).1
 ·cases h
theorem AQ {t:TypeId} {k:Nat} (h:((S8 P t).map (·.2)==some k)=true):∃e i,P.underlying t=some (.slice e)∧P.info? e=some i∧i.size=k:=by
 unfold S8 at h;cases hu:P.underlying t with
 | none=>rw[hu] at h;cases h
 | some d=>
  rw[hu] at h;cases d with
  | slice e=>
   cases hi:P.info? e with
   | none=>simp[hi] at h
   | some i=>exact⟨e,i,rfl,hi,by simpa[hi] using h⟩
  | _=>cases h
theorem Zb (hs:HS cx bs w S H) (he:ER m bs w S env a) {t:TypeId} {x i:Operand} (hop:o.op=.indexAddr t x i) {y:XV} (h:(ixX P H t (ev env x) (ev env i)).hit y):jS P o bs w S a cX (y,none):=by
 unfold ixX at h;split at h
 ·rename_i ty xs _ k n c hx hi;split at h
  ·rename_i fU;obtain⟨⟨h0,h1⟩,h⟩:=h;have h:XV.one _=y:=h;subst h;obtain⟨e,j,hu,hj,jN⟩:=AQ fU;obtain⟨A,q,c2,hv,hr,_⟩:=cR he hx;have hlt:n.toNat<q:=by have:=hr.len;omega
   obtain⟨g,p,x',cs,rfl,hS,hx',Zs,hc⟩:=hr.at_ hlt;refine jf (v:=.pointer (some ⟨g,p+n.toNat*aG.sz (El ty),none⟩)) ?_ ⟨g,p+n.toNat*aG.sz (El ty),cs,hS,rfl,?_,?_⟩
   ·have Jf:=jd he hi;have hn:n<(q:Int):=by have:=hr.len;omega
    unfold execOp;simp[hop,hv,Jf,Instr.indexAt,asIntOf,Sem.run_bind,run_underlying hu w,h0,hn,sizeOf,typeInfo,hj,jN,Addr.add]
   ·rw[aaQ,hx'];exact Zs
   ·intro j' u hj';have:=hc j' u hj';have nO:(⟨g,p+n.toNat*aG.sz (El ty),none⟩:Addr).add j'=⟨g,p+(n.toNat*aG.sz (El ty)+j'),none⟩:=by unfold Addr.add;split<;>simp_all [ab3]
    rw[nO];exact this
  ·exact h.elim
 ·rename_i ob k n c hx hi;split at h
  ·rename_i ty e' rs hH;split at h
   ·rename_i fU;obtain⟨⟨h0,h1⟩,h⟩:=h;have h:XV.one _=y:=h;subst h;obtain⟨e,j,hu,hj,jN⟩:=AQ fU;obtain⟨hb,A,q,c2,hv⟩:=cR he hx;have ho:=hs.o ob _ _ hH hb;have ho:Own (α:=El ty) w S 0 e' (a.eval x) rs.reverse:=ho;obtain⟨cs,⟨_,h2⟩,_⟩:=ho;rcases h2 with⟨_,hn⟩|⟨g,cap,cur,lm,_,_,oC,_⟩
    ·rw[aa9] at hn;omega
    ·rw[lm] at hb;refine jf (v:=.pointer (some ⟨g,n.toNat*aG.sz (El ty),none⟩)) ?_ ⟨g,_,_,hb,(by rw[aa9];omega),rfl⟩;have Jf:=jd he hi;have hn:n<(rs.reverse.length:Int):=by rw[aa9];exact h1
     unfold execOp;simp[hop,lm,Jf,Instr.indexAt,asIntOf,Sem.run_bind,run_underlying hu w,h0,h1,sizeOf,typeInfo,hj,jN,Addr.add];exact fun h=>h.symm
   ·exact h.elim
  ·rename_i o2 e' ty tn iu done cur rest hH;split at h
   ·rename_i fU;obtain⟨h0,h⟩:=h;have h:XV.one _=y:=h;subst h;obtain⟨e,j,hu,hj,jN⟩:=AQ fU;obtain⟨hb,A,q,c2,hv⟩:=cR he hx;obtain⟨bQ,ho,hz,hl,u,tH,sH,hv3⟩:=hs.o ob _ _ hH hb;have hlt:=hl;have ho:Own (α:=km (aG.sz (El ty))) w S 0 e' (a.eval x) bQ:=ho;obtain⟨cs,⟨_,h2⟩,_⟩:=ho;rcases h2 with⟨_,hn⟩|⟨g,cap,cur,lm,_⟩
    ·rw[hz.1] at hn;omega
    ·rw[hv3 g _ _ lm] at tH;refine jf (v:=.pointer (some ⟨g,done.length*aG.sz (El ty)+0,none⟩)) ?_ ⟨g,_,tH,rfl⟩;have Jf:=jd he hi;have h1:done.length<bQ.length:=by rw[hz.1];exact hlt
     unfold execOp;simp[hop,lm,Jf,Instr.indexAt,asIntOf,Sem.run_bind,run_underlying hu w,h0,h1,sizeOf,typeInfo,hj,jN,Addr.add];exact fun h=>h.symm
   ·exact h.elim
  ·exact h.elim
 ·rename_i ob _ n _ _ hx hi;split at h
  ·rename_i l e hu;split at h
   ·rename_i j hj;split at h
    ·rename_i hb;cases hq:Gb ob (n.toNat*j.size) with
     | none=>rw[hq] at h;exact absurd (T.hit_op h) (by simp)
     | some z=>
      rw[hq] at h;obtain rfl:=aaZ (T.hit_op h);obtain⟨ad,hv,hz⟩:=Bg hq (cR he hx);refine jf (v:=.pointer (some (ad.add (n.toNat*j.size)))) ?_ hz;have Jf:=jd he hi;unfold execOp;simp[hop,hv,Jf,Instr.indexAt,Instr.sureAddr,asIntOf,Sem.run_bind,run_underlying hu w,hb.1,hb.2,sizeOf,typeInfo,hj]
    ·exact h.elim
   ·exact h.elim
  ·exact h.elim
 ·exact h.elim
theorem aa2 (he:ER m bs w S env a) {k:BinOp} {t u:TypeId} {x y:Operand} (hop:o.op=.binOp k t x y u) {z:XV} (h:(arX k (ev env x) (ev env y)).hit z):jS P o bs w S a cX (z,none):=by
 have key:∀{n q:Int} {c c':Bool},ow (ev env x)=some (.i64,n,c)→ow (ev env y)=some (.i64,q,c')→(match arI k n q with|some r=>T.nd (cN r) (.lf (XV.one (.sym (.int .i64 r))))|none=>.bad).hit z→jS P o bs w S a cX (z,none):=by
  intro n q c c' hx hy h;cases e:arI k n q with
  | none=>rw[e] at h;exact h.elim
  | some r=>
   rw[e] at h;obtain⟨hr,h⟩:=h;have h:XV.one _=z:=h;subst h;refine jf (v:=.int .i64 r) ?_ ⟨rfl,rfl⟩;have hx':=jd he hx;have Ml:=jd he hy;have hw:IntKind.i64.wrap r=r:=by obtain⟨h1,h2⟩:=hr;rw[IntKind.wrap_i64]<;>omega
   unfold execOp;cases k<;>first|(injection e with e;subst e;simp[hop,hx',Ml,eqGuard,binOp,Op.intArith,hw])|cases e
 unfold arX at h;split at h
 ·rename_i n q c hx hy;exact key hx hy h
 ·rename_i n c q _ hx hy;exact key hx hy h
 ·exact h.elim
theorem IY {x:Operand} {t:TypeId} {ts:Array TypeId} (hop:o.op=.call { callee:=.builtin .len,args:=#[x],argTypes:=ts }) (ht:ts[0]?=some t) (hu:((P.underlying t).map fun d=>match d with|.slice _=>true|_=>false)=some true) {A:Option Addr} {n c:Nat} (hv:a.eval x=.slice A n c):(execOp a.eval o).run P w=.ok (.value (.int .i64 (n:Int))) w:=by
 cases hd:P.underlying t with
 | none=>rw[hd] at hu;cases hu
 | some d=>
  rw[hd] at hu;cases d with
  | slice e=>
   unfold execOp;simp[hop,resolve,invoke,builtin,Builtin.len_,ht,hv,Sem.run_bind,run_underlying hd w,goInt]
  | _=>cases hu
theorem Uh (hs:HS cx bs w S H) (he:ER m bs w S env a) {x:Operand} {t:TypeId} {ts:Array TypeId} (hop:o.op=.call { callee:=.builtin .len,args:=#[x],argTypes:=ts }) (ht:ts[0]?=some t) (hu:((P.underlying t).map fun d=>match d with|.slice _=>true|_=>false)=some true) {y:XV} (h:Ui H (ev env x)=some y):jS P o bs w S a cX (y,none):=by
 have key:∀{A:Option Addr} {n c:Nat},a.eval x=.slice A n c→(execOp a.eval o).run P w=.ok (.value (.int .i64 (n:Int))) w:=IY hop ht hu;unfold Ui at h;split at h
 ·rename_i ty xs _ hx;injection h with h
  subst h;obtain⟨A,n,c,hv,hr,_⟩:=cR he hx;refine jf (key hv) ⟨by rw[hr.len],rfl⟩
 ·rename_i ob hx;split at h
  ·rename_i ty e rs hH;injection h with h
   subst h;obtain⟨hb,A,n,c,hv⟩:=cR he hx;have ho:Own (α:=El ty) w S 0 e (a.eval x) rs.reverse:=hs.o ob _ _ hH hb;obtain⟨A',n',c',Pj,hn⟩:=ho.slice;refine jf (key Pj) ⟨by rw[hn,aa9],rfl⟩
  ·cases h
 ·cases h
def By:Option XV→Bool
 | some (.one (.val (.slice none 0 0)))=>true
 | _=>false
def TI (k:BinOp) (x y:Option XV):Option XV:=match k,x,By y with
 | .eql,some (.one (.list _ xs true)),true=>some (.one (.sym (.bool xs.isEmpty)))
 | .neq,some (.one (.list _ xs true)),true=>some (.one (.sym (.bool !xs.isEmpty)))
 | _,_,_=>none
theorem Lb (he:ER m bs w S env a) {x:Operand} (h:By (ev env x)=true):a.eval x=.slice none 0 0:=by
 unfold By at h;split at h
 ·rename_i e;exact(cR he e).1
 ·cases h
theorem TH (he:ER m bs w S env a) {k:BinOp} {t u:TypeId} {x y:Operand} (hop:o.op=.binOp k t x y u) (hu:((P.underlying t).map fun d=>match d with|.slice _=>true|_=>false)=some true) {z:XV} (h:TI k (ev env x) (ev env y)=some z):jS P o bs w S a cX (z,none):=by
 have key:∀{ty:Ty} {xs:List (El ty)},ev env x=some (.one (.list ty xs true))→By (ev env y)=true→∃A n c,a.eval x=.slice A n c∧A.isNone=xs.isEmpty∧a.eval y=.slice none 0 0:=by
  intro ty xs hx hy;obtain⟨A,n,c,hv,hr,hq⟩:=cR he hx;refine⟨A,n,c,hv,?_,Lb he hy⟩;cases xs with
  | nil=>rw[hq rfl rfl];rfl
  | cons x l=>
   obtain⟨h1,_,_,h3⟩:=hr;obtain⟨b,p,rfl,_⟩:=h3 (by rw[h1];exact Nat.succ_pos _);rfl
 have run:∀{A:Option Addr} {n c:Nat},(Op.equal t (.slice A n c) (.slice none 0 0)).run P w=.ok A.isNone w:=by
  intro A n c;cases hd:P.underlying t with
  | none=>rw[hd] at hu;cases hu
  | some d=>
   rw[hd] at hu;cases d with
   | slice e=>
    unfold Op.equal Op.maxDepth Op.equalIn;rw[Sem.run_bind,run_underlying hd w];cases A<;>rfl
   | _=>cases hu
 unfold TI at h;split at h
 ·rename_i ty xs hx hy;injection h with h
  subst h;obtain⟨A,n,c,h1,h2,h3⟩:=key hx hy;refine jf (v:=.bool xs.isEmpty) ?_ ⟨rfl,rfl⟩;unfold execOp;simp only[hop,h1,h3,eqGuard,ite_self,binOp,Sem.run_bind,run,h2,Result.andThen_ok,Sem.run_pure]
 ·rename_i ty xs hx hy;injection h with h
  subst h;obtain⟨A,n,c,h1,h2,h3⟩:=key hx hy;refine jf (v:=.bool !xs.isEmpty) ?_ ⟨rfl,rfl⟩;unfold execOp;simp only[hop,h1,h3,eqGuard,ite_self,binOp,Sem.run_bind,run,h2,Result.andThen_ok,Sem.run_pure]
 ·cases h
theorem XG (he:ER m bs w S env a) {x:Operand} {i:Nat} (hop:o.op=.extract x i) {y:XV} (h:xtX (ev env x) i=some y):jS P o bs w S a cX (y,none):=by
 unfold xtX at h;split at h
 ·rename_i l hx;obtain⟨vs,hv,hf⟩:=cR he hx;have key:∀{v:Value},vs[i]?=some v→(execOp a.eval o).run P w=.ok (.value v) w:=by
   intro v hg;unfold execOp;simp[hop,hv,Instr.extract,hg]
  split at h
  ·rename_i cs e;injection h with h
   subst h;obtain⟨v,h1,h2⟩:=hf.get e;exact jf (key h1) h2
  ·rename_i b e;injection h with h
   subst h;obtain⟨v,h1,h2⟩:=hf.get e;obtain⟨b',e2,h2⟩:=h2;injection e2 with e2
   subst e2;exact jf (key h1) h2
  ·cases h
 ·cases h
theorem Ou (he:ER m bs w S env a) {x:Operand} (hop:o.op=.move x∨o.op=.assign x) {y:XV} (h:ev env x=some y):jS P o bs w S a cX (y,none):=by
 refine jf (v:=a.eval x) ?_ (cR he h);unfold execOp;rcases hop with hop|hop<;>simp[hop]
def ncX (x:Option XV):Option XV:=match x with
 | some (.one p)=>(Gb p 0).map fun _=>.one p
 | _=>none
theorem YI (he:ER m bs w S env a) {x:Operand} (hop:o.op=.nilCheck x) {y:XV} (h:ncX (ev env x)=some y):jS P o bs w S a cX (y,none):=by
 unfold ncX at h;split at h
 ·rename_i p hp;cases e:Gb p 0 with
  | none=>rw[e] at h;cases h
  | some q=>
   rw[e] at h;injection h with h
   subst h;have hv:=cR he hp;obtain⟨ad,h1,_⟩:=Bg e hv;refine jf (v:=a.eval x) ?_ hv;unfold execOp;simp[hop,h1]
 ·cases h
end
def XV.cells:XV→Option (List AV)
 | .one a=>some [a]
 | .agg cs=>some cs
 | .tup _=>none
def LV (t:TypeId) (cX:Nat) (x:Option XV):Option (XV×Option aj):=(x.bind XV.cells).map fun cs=>(.one (.ptr cX 0),some (.cells t cs))
def Mz (P:Program) (t:TypeId):Option XV:=((P.info? t).bind (·.zero)).bind (YL true)
def oF (place:Nat→Option (Nat×Nat)) (cells:List AV):List (Nat×List AV)→Option (List AV)
 | []=>some cells
 | (i,v)::rest=>match place i with
  | none=>none
  | some (off,size)=>if v.length≠size||decide (off+v.length>cells.length) then none else oF place ((v.zipIdx).foldl (fun cs (p:AV×Nat)=>cs.set (off+p.2) p.1) cells) rest
def lH (env:Env):List (Nat×Operand)→Option (List (Nat×List AV))
 | []=>some []
 | (i,x)::l=>match (ev env x).bind XV.cells,lH env l with
  | some cs,some r=>some ((i,cs)::r)
  | _,_=>none
def vG (P:Program) (t:TypeId):Option (List AV):=((P.info? t).bind (·.zero)).bind fun z=>if z.cells.all (·.oneCell') then some (z.cells.toList.map .val) else none
def aaW (P:Program) (t:TypeId) (ps:Option (List (Nat×List AV))):Option XV:=match P.underlying t,vG P t,ps with
 | some (.array _ e),some z,some ps=>(P.info? e).bind fun ie=>(oF (fun i=>some (i*ie.size,ie.size)) z ps).map .agg
 | some (.struct fields),some z,some ps=>(fields.toList.mapM (fun f=>(P.info? f.type).map fun i=>(f.offset,i.size))).bind fun places=>(oF (places.toArray[·]?) z ps).map .agg
 | _,_,_=>none
def vQ (ty:Ty) (sz:Nat):Nat→List AV→Option (List (El ty))
 | 0,[]=>some []
 | 0,_=>none
 | n+1,cs=>match un ty (cs.take sz),vQ ty sz n (cs.drop sz) with
  | some x,some l=>some (x::l)
  | _,_=>none
def Kp (P:Program) (ty:TypeId→Option Ty) (cX:Nat) (t:TypeId) (n:Nat) (ps:Option (List (Nat×List AV))):Option (XV×Option aj):=match S8 P t,ps with
 | some (e,sz),some ps=>match ty e,vG P e with
  | some y,some z=>if sz=aG.sz (El y)∧sz=z.length∧0<n*sz∧n*sz≤16777216 then ((oF (fun i=>some (i*sz,sz)) (List.replicate n z).flatten ps).bind (vQ y sz n)).map fun xs=>(.one (.own cX),some (.row y e xs.reverse))
   else none
  | _,_=>none
 | _,_=>none
section
variable {α β:Type} {R:α→β→Prop}
theorem F2.set {l:List α} {m:List β} (h:F2 R l m) {x:α} {y:β} (hr:R x y):∀i,F2 R (l.set i x) (m.set i y):=by
 induction h with
 | nil=>intro i;exact .nil
 | cons h k ih=>intro i;cases i with
  | zero=>exact .cons hr k
  | succ i=>exact .cons h (ih i)
theorem F2.fold {us:List α} {vs:List β} (h:F2 R us vs) (off:Nat):∀(k:Nat) {l:List α} {m:List β},F2 R l m→F2 R ((us.zipIdx k).foldl (fun cs (p:α×Nat)=>cs.set (off+p.2) p.1) l) ((vs.zipIdx k).foldl (fun cs (p:β×Nat)=>cs.set (off+p.2) p.1) m):=by
 induction h with
 | nil=>intro k l m h;exact h
 | cons h _ ih=>intro k l m hl;exact ih (k+1) (hl.set h _)
theorem F2.replicate {x:List α} {y:List β} (h:F2 R x y):∀n,F2 R (List.replicate n x).flatten (List.replicate n y).flatten
 | 0=>.nil
 | n+1=>by rw[List.replicate_succ,List.replicate_succ,List.flatten_cons,List.flatten_cons];exact h.append (F2.replicate h n)
end
theorem foldl_toList (off:Nat):∀(l:List (Value×Nat)) (cs:Array Value),(l.foldl (fun cs (p:Value×Nat)=>cs.setIfInBounds (off+p.2) p.1) cs).toList=l.foldl (fun cs (p:Value×Nat)=>cs.set (off+p.2) p.1) cs.toList
 | [],_=>rfl
 | p::l,cs=>by rw[adI,adI,foldl_toList off l,Array.toList_setIfInBounds]
section
variable {P:Program} {o:Oper} {cx:Cx} {bs:List Value} {w:World} {S:Nat→Prop} {H:List aj} {m:Nat} {env:Env} {a:Act} {cX:Nat}
theorem XV.cells_ok {x:XV} {cs:List AV} {v:Value} (h:XV.cells x=some cs) (hx:XR bs w S x v):F2 (VR bs w S) cs v.cells.toList:=by
 cases x with
 | one b=>
  injection h with h
  subst h;have h1:=VR.one hx;have:v.cells=#[v]:=by cases v<;>first|rfl|cases h1
  rw[this];exact .cons hx .nil
 | agg ds=>
  injection h with h
  subst h;obtain⟨vs,rfl,hf⟩:=hx;simpa[Value.cells] using hf
 | tup l=>cases h
theorem afb (hs:HS cx bs w S H) {t:TypeId} {cs:List AV} {v:Value} (hr:(execOp a.eval o).run P w=.ok (.value (.pointer (some ⟨w.heap.size,0,none⟩))) (w.alloc (.cells v.cells t))) (hf:F2 (VR bs w S) cs v.cells.toList):jS P o bs w S a cX (.one (.ptr cX 0),some (.cells t cs)):=by
 intro K Q h;unfold Oper.wp;rw[hr,Oper.upon_value];have hb:Below w.heap.size w (w.alloc (.cells v.cells t)):=oM _ _;refine h _ _ S (.pointer (some ⟨w.heap.size,0,none⟩)) hb (fun _ h=>h) (fun _ h=>.inl h) (fun bn ha hn=>⟨⟨w.heap.size,hn rfl,rfl⟩,fun x hx=>?_⟩) fun x hx b rR=>?_
 ·injection hx with hx
  subst hx;exact⟨w.heap.size,v.cells.toList,rfl,dE.new _ _ _,hf.mono fun _ _ q=>q.keep (fun _ h=>h) ((aA.of_below hb).sub fun b q=>(hs.s b q).1) ha⟩
 ·injection hx with hx
  subst hx;injection rR with rR
  subst rR;exact⟨abi _,fun q=>acf _ (hs.s _ q).1⟩
theorem VE (hs:HS cx bs w S H) (he:ER m bs w S env a) {t:TypeId} {x:Operand} (hop:o.op=.box t x) {r:XV×Option aj} (h:LV t cX (ev env x)=some r):jS P o bs w S a cX r:=by
 unfold LV at h;cases e:ev env x with
 | none=>rw[e] at h;cases h
 | some y=>
  rw[e] at h;cases e2:XV.cells y with
  | none=>simp[e2] at h
  | some cs=>
   have h':some (XV.one (.ptr cX 0),some (aj.cells t cs))=some r:=by simpa[e2] using h
   injection h' with h'
   subst h';refine afb hs (v:=a.eval x) ?_ (XV.cells_ok e2 (cR he e));unfold execOp;simp[hop,Instr.box,newVar,newRow]
theorem KZ {c:Bool} {v:Value} {x:XV} {cs:List AV} (h:YL c v=some x) (hc:XV.cells x=some cs):F2 (VR bs w S) cs v.cells.toList:=XV.cells_ok hc (Ge h)
theorem VO (hs:HS cx bs w S H) {t:TypeId} (hop:o.op=.alloc t) {r:XV×Option aj} (h:LV t cX (Mz P t)=some r):jS P o bs w S a cX r:=by
 unfold LV Mz at h;cases hi:P.info? t with
 | none=>rw[hi] at h;cases h
 | some i=>
  cases hz:i.zero with
  | none=>simp[hi,hz] at h
  | some z=>
   cases hm:YL true z with
   | none=>simp[hi,hz,hm] at h
   | some y=>
    cases e2:XV.cells y with
    | none=>simp[hi,hz,hm,e2] at h
    | some cs=>
     have h':some (XV.one (.ptr cX 0),some (aj.cells t cs))=some r:=by simpa[hi,hz,hm,e2] using h
     injection h' with h'
     subst h';refine afb hs (v:=z) ?_ (KZ hm e2);unfold execOp;simp[hop,Instr.alloc,zeroValue,typeInfo,hi,hz,newVar,newRow]
theorem lY (he:ER m bs w S env a):∀{l:List (Nat×Operand)} {r:List (Nat×List AV)},lH env l=some r→F2 (fun p q=>p.1=q.1∧F2 (VR bs w S) p.2 q.2.cells.toList) r (l.map fun p=>(p.1,a.eval p.2))
 | [],r,h=>by injection h with h;subst h;exact .nil
 | (i,x)::l,r,h=>by
  unfold lH at h;split at h
  ·rename_i cs r' h1 h2;injection h with h
   subst h;cases e:ev env x with
   | none=>rw[e] at h1;cases h1
   | some y=>
    rw[e] at h1;exact .cons ⟨rfl,XV.cells_ok h1 (cR he e)⟩ (lY he h2)
  ·cases h
theorem rU {place:Nat→Option (Nat×Nat)}:∀{ps:List (Nat×List AV)} {qs:List (Nat×Value)} {cs r:List AV} {vs:Array Value},oF place cs ps=some r→F2 (fun p q=>p.1=q.1∧F2 (VR bs w S) p.2 q.2.cells.toList) ps qs→F2 (VR bs w S) cs vs.toList→∃us,Instr.fill place vs qs=some us∧F2 (VR bs w S) r us.toList
 | [],_,cs,r,vs,h,hp,hc=>by cases hp;injection h with h;subst h;exact⟨vs,rfl,hc⟩
 | (i,v)::ps,_,cs,r,vs,h,hp,hc=>by
  cases hp with
  | @cons _ q _ qs h1 h2=>
   obtain⟨j,u⟩:=q;obtain⟨e,h1⟩:=h1;have e:i=j:=e;subst e;unfold oF at h;cases yE:place i with
   | none=>rw[yE] at h;cases h
   | some p=>
    obtain⟨off,size⟩:=p;rw[yE] at h;simp only at h;split at h
    ·cases h
    ·rename_i Fh;have hl:v.length=u.cells.size:=h1.length.trans abC;have hl2:cs.length=vs.size:=hc.length.trans abC;obtain⟨us,h3,h4⟩:=rU (vs:=u.cells.zipIdx.foldl (fun cs (p:Value×Nat)=>cs.setIfInBounds (off+p.2) p.1) vs) h h2 (by
      rw[←Array.foldl_toList,foldl_toList,Array.toList_zipIdx];exact h1.fold off 0 hc)
     refine⟨us,?_,h4⟩;unfold Instr.fill;rw[yE];simp only;rw[if_neg (by rw[←hl,←hl2];simpa using Fh)];exact h3
theorem oU {t:TypeId} {z:List AV} (h:vG P t=some z):∃i zv,P.info? t=some i∧i.zero=some zv∧F2 (VR bs w S) z zv.cells.toList:=by
 unfold vG at h;cases hi:P.info? t with
 | none=>rw[hi] at h;cases h
 | some i=>
  cases hz:i.zero with
  | none=>simp[hi,hz] at h
  | some zv=>
   rw[hi] at h;have h:(if zv.cells.all (·.oneCell') then some (zv.cells.toList.map AV.val) else none)=some z:=by simpa[hz] using h
   split at h
   ·rename_i h1;injection h with h
    subst h;exact⟨i,zv,rfl,hz,Bo (c:=true) fun v hv=>ad8.1 h1 v (by simpa using hv)⟩
   ·cases h
theorem VH (he:ER m bs w S env a) {t:TypeId} {ps:Array (Nat×Operand)} (hop:o.op=.build t ps) {y:XV} (h:aaW P t (lH env ps.toList)=some y):jS P o bs w S a cX (y,none):=by
 have fin:∀{cells:Array Value} {r:List AV},P.built t (ps.map fun(i,x)=>(i,a.eval x)).toList=some cells→F2 (VR bs w S) r cells.toList→XV.agg r=y→jS P o bs w S a cX (y,none):=by
  intro cells r hb hf e;subst e;refine jf (v:=.agg cells) ?_ ⟨cells.toList,rfl,hf⟩;unfold execOp;simp only[hop,Sem.run_bind,run_build w t _ cells hb,Result.andThen_ok,Sem.run_pure]
 have UI:(ps.map fun(i,x)=>(i,a.eval x)).toList=ps.toList.map fun p=>(p.1,a.eval p.2):=by rw[adq]
 unfold aaW at h;split at h
 ·rename_i n e z ps' hu hz hp;obtain⟨i,zv,hi,fM,hf⟩:=oU (bs:=bs) (w:=w) (S:=S) hz;cases hie:P.info? e with
  | none=>rw[hie] at h;cases h
  | some ie=>
   rw[hie] at h;cases zR:oF (fun i=>some (i*ie.size,ie.size)) z ps' with
   | none=>simp[zR] at h
   | some r=>
    have h:XV.agg r=y:=by simpa[zR] using h
    obtain⟨us,h1,h2⟩:=rU zR (lY he hp) hf;refine fin (cells:=us) (r:=r) ?_ h2 h;unfold Program.built;simp only[UI,hi,hu,fM,hie];exact h1
 ·rename_i fs z ps' hu hz hp;obtain⟨i,zv,hi,fM,hf⟩:=oU (bs:=bs) (w:=w) (S:=S) hz;cases yE:fs.toList.mapM (fun f=>(P.info? f.type).map fun i=>(f.offset,i.size)) with
  | none=>rw[yE] at h;cases h
  | some places=>
   rw[yE] at h;cases zR:oF (places.toArray[·]?) z ps' with
   | none=>
    have h:(oF (places.toArray[·]?) z ps').map XV.agg=some y:=h;rw[zR] at h;cases h
   | some r=>
    have h:(oF (places.toArray[·]?) z ps').map XV.agg=some y:=h;rw[zR] at h;injection h with h
    obtain⟨us,h1,h2⟩:=rU zR (lY he hp) hf;refine fin (cells:=us) (r:=r) ?_ h2 h;unfold Program.built;simp only[UI,hi,hu,fM,yE];exact h1
 ·cases h
theorem CG {ty:Ty} {sz:Nat}:∀{n:Nat} {cs:List AV} {vs:List Value} {xs:List (El ty)},vQ ty sz n cs=some xs→F2 (VR bs w S) cs vs→Flat w S vs xs∧xs.length=n
 | 0,[],_,xs,h,hf=>by cases hf;injection h with h;subst h;exact⟨.nil,rfl⟩
 | 0,_::_,_,xs,h,_=>by cases h
 | n+1,cs,vs,xs,h,hf=>by
  unfold vQ at h;split at h
  ·rename_i x l h1 h2;injection h with h
   subst h;obtain⟨q1,q2⟩:=CG h2 (hf.drop sz);have:=Flat.cons (lC h1 (hf.take sz)) q1;rw[List.take_append_drop] at this;exact⟨this,by simp[q2]⟩
  ·cases h
theorem uu (z:List Value) (hz:0<z.length) (n:Nat):((Array.range (n*z.length)).map (z.toArray[·%z.toArray.size]!)).toList=(List.replicate n z).flatten:=by
 apply acl;intro i;rw[adq,Array.toList_range,acn];by_cases hi:i<n*z.length
 ·rw[adc hi];have h1:i/z.length<n:=Nat.div_lt_of_lt_mul (by rw[adM];exact hi);have h2:i%z.length<z.length:=Nat.mod_lt _ hz;have h3:i=i/z.length*z.length+i%z.length:=by rw[adM];exact(Nat.div_add_mod _ _).symm
  have key:∀(n q r:Nat),q<n→r<z.length→(List.replicate n z).flatten[q*z.length+r]?=z[r]?:=by
   intro n;induction n with
   | zero=>intro q r h;omega
   | succ n ih=>
    intro q r hq hr;rw[List.replicate_succ,List.flatten_cons];cases q with
    | zero=>rw[Nat.zero_mul,abQ,abc hr]
    | succ q=>
     rw[aa8 (by rw[Nat.succ_mul];omega),show(q+1)*z.length+r-z.length=q*z.length+r by rw[Nat.succ_mul];omega];exact ih q r (by omega) hr
  have hk:=key n (i/z.length) (i%z.length) h1 h2;rw[←h3] at hk;rw[hk];simp[h2]
 ·rw[abE (by simpa using hi),abE (by simp[List.length_flatten];omega)];rfl
theorem Ij (hs:HS cx bs w S H) {ty:TypeId→Option Ty} {t:TypeId} {n:Nat} {ps:Array (Nat×Operand)} {l:List (Nat×List AV)} (Gu:F2 (fun p q=>p.1=q.1∧F2 (VR bs w S) p.2 q.2.cells.toList) l (ps.toList.map fun p=>(p.1,a.eval p.2))) (hop:o.op=.buildSlice t n ps) {r:XV×Option aj} (h:Kp P ty cX t n (some l)=some r):jS P o bs w S a cX r:=by
 unfold Kp at h;split at h
 ·rename_i e sz ps' fU hp;injection hp with hp
  subst hp;split at h
  ·rename_i y z hy hz;split at h
   ·rename_i hc;obtain⟨c1,c2,c3,c4⟩:=hc;cases zR:oF (fun i=>some (i*sz,sz)) (List.replicate n z).flatten l with
    | none=>rw[zR] at h;cases h
    | some cs=>
     rw[zR] at h;cases hur:vQ y sz n cs with
     | none=>have h:(vQ y sz n cs).map _=some r:=h;rw[hur] at h;cases h
     | some xs=>
      have h:(vQ y sz n cs).map _=some r:=h;rw[hur] at h;injection h with h
      subst h;obtain⟨i,zv,hi,fM,hf⟩:=oU (bs:=bs) (w:=w) (S:=S) hz;unfold S8 at fU;cases hu:P.underlying t with
      | none=>rw[hu] at fU;cases fU
      | some d=>
       rw[hu] at fU;cases d with
       | slice e'=>
        have fU:(P.info? e').map (fun i=>(e',i.size))=some (e,sz):=fU;cases Sn:P.info? e' with
        | none=>rw[Sn] at fU;cases fU
        | some i2=>
         rw[Sn] at fU;injection fU with fU
         injection fU with e1 e2
         subst e1;rw[hi] at Sn;injection Sn with Sn
         subst Sn;have zM:z.length=zv.cells.size:=hf.length.trans abC;have kG:0<zv.cells.toList.length:=by
          rw[abC,←zM,←c2];rcases acD sz with q|q
          ·rw[q] at c3;simp at c3
          ·exact q
         have UI:(ps.map fun(i,x)=>(i,a.eval x)).toList=ps.toList.map fun p=>(p.1,a.eval p.2):=by rw[adq]
         obtain⟨us,h1,h2⟩:=rU (vs:=(Array.range (n*i.size)).map (zv.cells[·%zv.cells.size]!)) zR Gu (by
          have hzs:zv.cells.size=sz:=by omega
          have hq:=uu zv.cells.toList kG n;rw[abC,show zv.cells.toList.toArray=zv.cells from abT] at hq;rw[e2,←hzs,hq];exact hf.replicate n)
         obtain⟨q1,q2⟩:=CG hur h2;have lI:=run_buildSlice (P:=P) w t e' n (ps.map fun(i,x)=>(i,a.eval x)) us i zv hu hi fM (by rw[e2];omega) (by rw[e2];omega) (by rw[UI,e2];rw[e2] at h1;exact h1);intro K Q hk;unfold Oper.wp execOp;simp only[hop,Sem.run_bind,lI,Result.andThen_ok,Sem.run_pure,Oper.upon_value];have hb:Below w.heap.size w (w.alloc (.cells us e')):=oM _ _;have bX:aA S w (w.alloc (.cells us e')):=(aA.of_below hb).sub fun b q=>(hs.s b q).1;have bO:us.toList.length=n*sz:=by rw[q1.length,q2,c1]
         refine hk _ _ S (.slice (some ⟨w.heap.size,0,none⟩) n n) hb (fun _ h=>h) (fun _ h=>.inl h) (fun bn ha hn=>⟨⟨hn rfl,_,_,_,rfl⟩,fun x hx=>?_⟩) fun x hx b rR=>?_
         ·injection hx with hx
          subst hx;show Own (α:=El y) _ S 0 e' _ xs.reverse.reverse;rw[aa7];have Mn:n≤maxLen:=by
           have:n≤n*sz:=Nat.le_mul_of_pos_right _ (by rcases acD sz with q|q;(· rw[q] at c3;simp at c3);exact q);unfold maxLen;omega
          refine⟨us.toList,⟨by rw[bO,q2,c1],.inr ⟨w.heap.size,n,us,by rw[q2],abK _,heap_alloc_new w _,by omega,Mn,?_,?_⟩⟩,q1.keep (fun _ h=>h) bX,fun b q=>⟨abw (hs.s b q).1 hb.size,fun e=>?_⟩⟩
          ·rw[abC] at bO;rw[bO,c1]
          ·rw[q2,acj (by rw[bO,c1];exact abi _)]
          ·have e':b=w.heap.size:=aaZ e;have:=(hs.s b q).1;omega
         ·injection hx with hx
          subst hx;injection rR with rR
          subst rR;exact⟨abi _,fun q=>acf _ (hs.s _ q).1⟩
       | _=>cases fU
   ·cases h
  ·cases h
 ·cases h
theorem Te (hs:HS cx bs w S H) (he:ER m bs w S env a) {ty:TypeId→Option Ty} {t:TypeId} {n:Nat} {ps:Array (Nat×Operand)} (hop:o.op=.buildSlice t n ps) {r:XV×Option aj} (h:Kp P ty cX t n (lH env ps.toList)=some r):jS P o bs w S a cX r:=by
 cases hp:lH env ps.toList with
 | none=>rw[hp] at h;unfold Kp at h;cases hq:S8 P t<;>rw[hq] at h<;>cases h
 | some l=>rw[hp] at h;exact Ij hs (lY he hp) hop h
end
end Go.Proofs.YtjlhbfbdcfajfaaGreatDoor
