/- MOp2 MOp3 MOp4 -/
import Derived.Test.YtdbpbfglhbiadaaGreatDoorL00
import Derived.Test.YtdbpbfglhbiadaaGreatDoorL23
set_option maxHeartbeats 8000000
set_option maxRecDepth 100000
namespace Go.Proofs.YtdbpbfglhbiadaaGreatDoor
open Go Go.RowKit
def Zo (P:Program) (t:TypeId):Option (Bool×Nat):=match RB P t with
 | some true=>(P.info? t).map fun i=>(true,i.size)
 | some false=>some (false,1)
 | none=>none
def WP (q:Bool×Nat) (cs:List AV):Option XV:=if cs.length=q.2 then(if q.1 then some (.agg cs) else match cs with
 | [a]=>some (.one a)
 | _=>none) else none
def vT (H:List ai):AV→Option (List AV)
 | .ptr o off=>match H[o]? with
  | some (.cells _ cs)=>some (cs.drop off)
  | _=>none
 | .ref t x off=>some ((kS t x).drop off)
 | .elo o i sz off=>match H[o]? with
  | some (.row t _ rs)=>if sz=aF.sz (El t) then some ((kS t (rs.reverse.getD i (CG t))).drop off) else none
  | _=>none
 | .sub o o2 off=>match H[o]? with
  | some (.zip Sb _ _ _ _ _ cur _)=>if o2=Sb then some (cur.drop off) else none
  | _=>none
 | _=>none
def Zn (P:Program) (H:List ai) (t:TypeId) (x:Option XV):Option XV:=match Zo P t,x with
 | some q,some (.one a)=>(vT H a).bind fun cs=>WP q (cs.take q.2)
 | _,_=>none
def Gk (a:AV) (k:Nat):Option AV:=match a with
 | .ptr o f=>some (.ptr o (f+k))
 | .ref t x f=>some (.ref t x (f+k))
 | .elo o i s f=>some (.elo o i s (f+k))
 | .sub o o2 f=>some (.sub o o2 (f+k))
 | _=>none
def afZ (P:Program) (s:TypeId) (i:Nat):Option Nat:=match P.underlying s with
 | some (.struct fs)=>(fs[i]?).bind fun f=>(P.info? f.type).bind fun j=>if j.size=0 then none else some f.offset
 | _=>none
def Xj (P:Program) (s:TypeId) (i:Nat):Option (Nat×TypeId):=match P.underlying s with
 | some (.struct fs)=>(fs[i]?).map fun f=>(f.offset,f.type)
 | _=>none
def Tg (P:Program) (t:TypeId):Option (TypeId×Nat):=match P.underlying t with
 | some (.slice e)=>(P.info? e).map fun i=>(e,i.size)
 | _=>none
def oC:Option XV→Option (IntKind×Int×Bool)
 | some (.one (.val (.int k n)))=>some (k,n,true)
 | some (.one (.sym (.int k n)))=>some (k,n,false)
 | _=>none
section
variable {P:Program} {o:Oper} {cx:Cx} {bs:List Value} {w:World} {S:Nat→Prop} {H:List ai} {m:Nat} {env:Env} {a:Act} {cZ:Nat}
theorem CR.agg {cs:List AV} {vs:List Value} (h:F2 (VR bs w S) cs vs):XR bs w S (.agg cs) (.agg vs.toArray):=⟨vs,rfl,h⟩
theorem aba (hs:HS cx bs w S H) {ob i off g n c:Nat} {t:Ty} {e:TypeId} {rs:List (El t)} (hH:H[ob]?=some (.row t e rs)) (hb:bs[ob]?=some (.slice (some ⟨g,0,none⟩) n c)) (hi:i<n):∃ds,aF.rep w S ds (rs.reverse.getD i (CG t))∧cL w ⟨g,i*aF.sz (El t)+off,none⟩ (ds.drop off):=by
 have ho:Own (α:=El t) w S 0 e (.slice (some ⟨g,0,none⟩) n c) rs.reverse:=hs.o ob _ _ hH hb;obtain⟨A',n',c',Ls,hn⟩:=ho.slice;injection Ls with _ vQ _
 subst vQ;obtain⟨cs,q1,q2,_⟩:=ho;have hx:rs.reverse[i]?=some (rs.reverse.getD i (CG t)):=by rw[aai,aae (by omega)];rfl
 obtain⟨ds,hr,hc⟩:=q2.get i _ hx;refine⟨ds,hr,fun j u hj=>?_⟩;rw[acl] at hj;have h1:=q1.cells (g:=g) rfl _ _ (hc _ u hj);have nR:(⟨g,i*aF.sz (El t)+off,none⟩:Addr).add j=(⟨g,0,none⟩:Addr).add (i*aF.sz (El t)+(off+j)):=by unfold Addr.add;split<;>simp_all [aci]
 rw[nR];exact h1
theorem Nr (hs:HS cx bs w S H) {ob o2 g p:Nat} {e:TypeId} {t tn:Ty} {im:Nat} {done:List (El t)} {cur:List AV} {rest:List (El tn)} {v:Value} (hH:H[ob]?=some (.zip o2 e t tn im done cur rest)) (hb:bs[ob]?=some v) (h2:bs[o2]?=some (.pointer (some ⟨g,p,none⟩))):∃(bS:List (ko (aF.sz (El t)))) (n c:Nat) (r:ko (aF.sz (El t))),v=.slice (some ⟨g,0,none⟩) n c∧p=done.length*aF.sz (El t)∧Own w S 0 e v bS∧ZR bs w S (tn:=tn) im done cur rest bS∧bS[done.length]?=some r∧cL w ⟨g,p,none⟩ r.cells:=by
 obtain⟨bS,ho,hz,hl,u,hu,_,hv⟩:=hs.o ob _ _ hH hb;rw[h2] at hu;obtain rfl:=aal hu;have hlt:=hl;have hr:bS[done.length]?=some (bS[done.length]'(by rw[hz.1];exact hlt)):=aae _;have ho0:=ho;obtain⟨cs,q1,q2,_⟩:=ho;have q1':=q1;obtain⟨_,h3⟩:=q1';rcases h3 with⟨_,hn⟩|⟨g',cap,af7,lv,_⟩
 ·rw[hz.1] at hn;omega
 ·have hp:=hv g' _ _ lv;injection hp with hp
  injection hp with hp
  injection hp with e1 e2
  subst e1 e2;obtain⟨ds,hd,hc⟩:=q2.get _ _ hr;have hd:ds=_:=hd;subst hd;refine⟨bS,_,_,_,lv,rfl,ho0,hz,hr,fun j u hj=>?_⟩;have h1:=q1.cells (g:=g) (by rw[lv];rfl) _ _ (hc _ u hj);have nR:(⟨g,done.length*aF.sz (El t),none⟩:Addr).add j=(⟨g,0,none⟩:Addr).add (done.length*aF.sz (ko (aF.sz (El t)))+j):=by
   show(⟨g,done.length*aF.sz (El t),none⟩:Addr).add j=(⟨g,0,none⟩:Addr).add (done.length*aF.sz (El t)+j);unfold Addr.add;split<;>simp_all
  rw[nR];exact h1
theorem yf (hs:HS cx bs w S H) {p:AV} {cs:List AV} {v:Value} (h:vT H p=some cs) (hv:VR bs w S p v):∃ad vs,v=.pointer (some ad)∧cL w ad vs∧F2 (VR bs w S) cs vs:=by
 cases p with
 | ptr o off=>
  obtain⟨g,h1,rfl⟩:=hv;have h:(match H[o]? with|some (ai.cells _ cs)=>some (cs.drop off)|_=>none)=some cs:=h;cases e:H[o]? with
  | none=>rw[e] at h;cases h
  | some x=>
   rw[e] at h;cases x with
   | cells ty ds=>
    injection h with h
    subst h;obtain⟨g',vs,e2,h2,h3⟩:=hs.o o _ _ e h1;injection e2 with e2
    injection e2 with e2
    injection e2 with e2
    subst e2;refine⟨_,vs.drop off,rfl,fun j u hj=>?_,h3.drop off⟩;rw[acl] at hj;have nR:(⟨g,off,none⟩:Addr).add j=⟨g,off+j,none⟩:=by unfold Addr.add;split<;>simp_all
    rw[nR,h2.cell];simpa using hj
   | _=>cases h
 | ref t x off=>
  obtain⟨b,p,vs,_,rfl,h2,h3⟩:=hv;injection h with h
  subst h;refine⟨_,vs.drop off,rfl,fun j u hj=>?_,(ki h2).drop off⟩;rw[acl] at hj;have:=h3 _ _ hj;rw[←gO] at this;have nR:(⟨b,p,none⟩:Addr).add off=⟨b,p+off,none⟩:=by unfold Addr.add;split<;>simp_all
  rw[←nR];exact this
 | elo o i sz off=>
  obtain⟨g,n,c,h1,h2,rfl⟩:=hv;have h:(match H[o]? with|some (ai.row t _ rs)=>if sz=aF.sz (El t) then some ((kS t (rs.reverse.getD i (CG t))).drop off) else none|_=>none)=some cs:=h;cases e:H[o]? with
  | none=>rw[e] at h;cases h
  | some x=>
   rw[e] at h;cases x with
   | row t te rs=>
    simp only at h;split at h
    ·rename_i jM;injection h with h
     subst h jM;obtain⟨ds,q1,q2⟩:=aba hs e h1 h2 (off:=off);exact⟨_,_,rfl,q2,(ki q1).drop off⟩
    ·cases h
   | _=>cases h
 | sub o o2 off=>
  obtain⟨g,p,h2,rfl⟩:=hv;have h:(match H[o]? with|some (ai.zip Sb _ _ _ _ _ cur _)=>if o2=Sb then some (cur.drop off) else none|_=>none)=some cs:=h;split at h
  ·rename_i Sb e t tn im done cur rest hH;split at h
   ·rename_i e2;subst e2;injection h with h
    subst h;have yU:o<bs.length:=by rw[hs.len];exact(aag.1 hH).1
    obtain⟨bS,n,c,r,_,_,_,hz,hr,hc⟩:=Nr hs hH (aae yU) h2;refine⟨_,r.cells.drop off,rfl,fun j u hj=>?_,((hz.2 _ _ hr).2.1 rfl).drop off⟩;rw[acl] at hj;have:=hc _ _ hj;rw[←gO] at this;have nR:(⟨g,p,none⟩:Addr).add off=⟨g,p+off,none⟩:=by unfold Addr.add;split<;>simp_all
    rw[←nR];exact this
   ·cases h
  ·cases h
 | _=>cases h
theorem cL.take {ad:Addr} {vs:List Value} (h:cL w ad vs) (n:Nat):cL w ad (vs.take n):=fun j u hj=>by
 rw[acm] at hj;split at hj
 ·exact h j u hj
 ·cases hj
theorem Zm (hs:HS cx bs w S H) (he:ER m bs w S env a) {t:TypeId} {x:Operand} (hop:o.op=.load t x) {y:XV} (h:Zn P H t (ev env x)=some y):jR P o bs w S a cZ (y,none):=by
 unfold Zn at h;split at h
 ·rename_i q z hq hz;have hv:=cN he hz;cases e:vT H z with
  | none=>rw[e] at h;cases h
  | some cs=>
   rw[e] at h;have h:WP q (cs.take q.2)=some y:=h;obtain⟨ad,vs,hv,hc,hf⟩:=yf hs e hv;have BS:=hf.take q.2;have hct:=hc.take q.2;have hl:=BS.length;unfold WP at h;split at h
   ·rename_i bG;rw[bG] at hl;unfold Zo at hq;split at hq
    ·rename_i Qq;cases hi:P.info? t with
     | none=>rw[hi] at hq;cases hq
     | some i=>
      rw[hi] at hq;injection hq with hq
      subst hq;simp only[if_true] at h;injection h with h
      subst h;refine jd (v:=.agg (vs.take i.size).toArray) ?_ (CR.agg BS);have:=WI hct Qq (by rw[hi];exact congrArg some hl);unfold execOp;simp only[hop,hv,Sem.run_bind,this,Result.andThen_ok,Sem.run_pure]
    ·rename_i Qq;injection hq with hq
     subst hq;simp only[abs,if_false] at h;split at h
     ·rename_i b hb;injection h with h
      subst h;have Ly:=BS;rw[hb] at Ly;cases UG:vs.take 1 with
      | nil=>rw[UG] at Ly;cases Ly
      | cons v r=>
       rw[UG] at Ly hct;cases Ly with
       | cons h1 h2=>
        refine jd (v:=v) ?_ h1;have h0:=hct 0 v rfl;have:ad.add 0=ad:=by unfold Addr.add;simp
        rw[this] at h0;have hl:=WJ (P:=P) (t:=t) h0 Qq;unfold execOp;simp only[hop,hv,Sem.run_bind,hl,Result.andThen_ok,Sem.run_pure]
     ·cases h
    ·cases hq
   ·cases h
 ·cases h
theorem Bs {x y:AV} {k:Nat} {v:Value} (h:Gk x k=some y) (hv:VR bs w S x v):∃ad:Addr,v=.pointer (some ad)∧VR bs w S y (.pointer (some (ad.add k))):=by
 cases x with
 | ptr o f=>
  injection h with h;subst h
  obtain⟨g,h1,rfl⟩:=hv;exact⟨_,rfl,g,h1,by unfold Addr.add;split<;>simp_all⟩
 | ref t x f=>
  injection h with h;subst h
  obtain⟨b,p,cs,h1,rfl,h2,h3⟩:=hv;exact⟨_,rfl,b,p,cs,h1,by unfold Addr.add;split<;>simp_all [aci],h2,h3⟩
 | elo o i s f=>
  injection h with h;subst h
  obtain⟨g,n,c,h1,h2,rfl⟩:=hv;exact⟨_,rfl,g,n,c,h1,h2,by unfold Addr.add;split<;>simp_all [aci]⟩
 | sub o o2 f=>
  injection h with h;subst h
  obtain⟨g,p,h1,rfl⟩:=hv;exact⟨_,rfl,g,p,h1,by unfold Addr.add;split<;>simp_all [aci]⟩
 | _=>cases h
end
def aaW (P:Program) (s:TypeId) (i:Nat) (x:Option XV):Option XV:=match afZ P s i,x with
 | some k,some (.one p)=>(Gk p k).map .one
 | _,_=>none
def aaV (P:Program) (s:TypeId) (i:Nat) (x:Option XV):Option XV:=match Xj P s i,x with
 | some (k,t),some (.agg cs)=>(Zo P t).bind fun q=>WP q ((cs.drop k).take q.2)
 | _,_=>none
def ixX (P:Program) (H:List ai) (t:TypeId) (x i:Option XV):T XV:=match x,oC i with
 | some (.one (.list ty xs _)),some (_,n,_)=>if(Tg P t).map (·.2)==some (aF.sz (El ty)) then .nd (0≤n∧n<(xs.length:Int)) (.lf (.one (.ref ty (xs.getD n.toNat (CG ty)) 0))) else .bad
 | some (.one (.own o)),some (_,n,_)=>match H[o]? with
  | some (.row ty _ rs)=>if(Tg P t).map (·.2)==some (aF.sz (El ty)) then .nd (0≤n∧n<(rs.length:Int)) (.lf (.one (.elo o n.toNat (aF.sz (El ty)) 0))) else .bad
  | some (.zip o2 _ ty _ _ done _ _)=>if(Tg P t).map (·.2)==some (aF.sz (El ty)) then .nd (n=(done.length:Int)) (.lf (.one (.sub o o2 0))) else .bad
  | _=>.bad
 | some (.one p),some (_,n,true)=>match P.underlying t with
  | some (.array l e)=>match P.info? e with
   | some j=>if 0≤n∧n<(l:Int) then T.op ((Gk p (n.toNat*j.size)).map .one) else .bad
   | none=>.bad
  | _=>.bad
 | _,_=>.bad
section
variable {P:Program} {o:Oper} {cx:Cx} {bs:List Value} {w:World} {S:Nat→Prop} {H:List ai} {m:Nat} {env:Env} {a:Act} {cZ:Nat}
theorem z7 {t:TypeId} {b:Bool} (h:RB P t=some b) (w:World):(isAgg t).run P w=.ok b w:=by
 unfold RB at h;cases hd:P.underlying t with
 | none=>rw[hd] at h;cases h
 | some d=>
  rw[hd] at h;injection h with h
  subst h;unfold isAgg;rw[Sem.run_bind,run_underlying hd w];cases d<;>rfl
theorem Vf (he:ER m bs w S env a) {s:TypeId} {i:Nat} {x:Operand} (hop:o.op=.fieldAddr s x i) {y:XV} (h:aaW P s i (ev env x)=some y):jR P o bs w S a cZ (y,none):=by
 unfold aaW at h;split at h
 ·rename_i k p hk hp;cases e:Gk p k with
  | none=>rw[e] at h;cases h
  | some q=>
   rw[e] at h;injection h with h
   subst h;obtain⟨ad,hv,hr⟩:=Bs e (cN he hp);refine jd (v:=.pointer (some (ad.add k))) ?_ hr;unfold afZ at hk;split at hk
   ·rename_i fs hu;cases ef:fs[i]? with
    | none=>rw[ef] at hk;cases hk
    | some f=>
     rw[ef] at hk;have hk:((P.info? f.type).bind fun j=>if j.size=0 then none else some f.offset)=some k:=hk;cases ei:P.info? f.type with
     | none=>rw[ei] at hk;cases hk
     | some j=>
      rw[ei] at hk;have hk:(if j.size=0 then none else some f.offset)=some k:=hk;split at hk
      ·cases hk
      ·rename_i hj;injection hk with hk
       subst hk;unfold execOp;simp[hop,hv,Instr.fieldAt,Instr.sureAddr,Sem.run_bind,run_underlying hu w,ef,fieldPlace,sizeOf,typeInfo,ei,hj]
   ·cases hk
 ·cases h
theorem Vd (he:ER m bs w S env a) {s:TypeId} {i:Nat} {x:Operand} (hop:o.op=.field s x i) {y:XV} (h:aaV P s i (ev env x)=some y):jR P o bs w S a cZ (y,none):=by
 unfold aaV at h;split at h
 ·rename_i k t cs hk hp;obtain⟨vs,hv,hf⟩:=cN he hp;cases e:Zo P t with
  | none=>rw[e] at h;cases h
  | some q=>
   rw[e] at h;have h:WP q ((cs.drop k).take q.2)=some y:=h;have BS:=(hf.drop k).take q.2;have hl:=BS.length;unfold Xj at hk;split at hk
   ·rename_i fs hu;cases ef:fs[i]? with
    | none=>rw[ef] at hk;cases hk
    | some f=>
     rw[ef] at hk;injection hk with hk
     injection hk with oF hZ
     subst oF hZ;unfold WP at h;split at h
     ·rename_i bG;unfold Zo at e;split at e
      ·rename_i Qq;cases hi:P.info? f.type with
       | none=>rw[hi] at e;cases e
       | some j=>
        rw[hi] at e;injection e with e
        subst e;simp only[if_true] at h;injection h with h
        subst h;refine jd (v:=.agg ((vs.drop f.offset).take j.size).toArray) ?_ (CR.agg BS);unfold execOp;simp[hop,hv,Instr.field,Sem.run_bind,run_underlying hu w,ef,part,asAgg,z7 Qq,sizeOf,typeInfo,hi]
      ·rename_i Qq;injection e with e
       subst e;simp only[abs,if_false] at h;split at h
       ·rename_i b hb;injection h with h
        subst h;rw[hb] at BS;cases UG:(vs.drop f.offset).take 1 with
        | nil=>rw[UG] at BS;cases BS
        | cons v r=>
         rw[UG] at BS;cases BS with
         | cons h1 h2=>
          refine jd (v:=v) ?_ h1;have gS:vs[f.offset]?=some v:=by
           have:((vs.drop f.offset).take 1)[0]?=some v:=by rw[UG];rfl
           rw[acm,if_pos (by omega),acl] at this;simpa using this
          unfold execOp;simp[hop,hv,Instr.field,Sem.run_bind,run_underlying hu w,ef,part,asAgg,z7 Qq,gS]
       ·cases h
      ·cases e
     ·cases h
   ·cases hk
 ·cases h
end
def cf (n:Int):Prop:= -9223372036854775808≤n∧n≤9223372036854775807
def arI (k:BinOp) (x y:Int):Option Int:=match k with
 | .add=>some (x+y)
 | .sub=>some (x-y)
 | .mul=>some (x*y)
 | _=>none
def arX (k:BinOp) (x y:Option XV):T XV:=match oC x,oC y with
 | some (.i64,n,false),some (.i64,q,_)|some (.i64,n,_),some (.i64,q,false)=>match arI k n q with
  | some r=>.nd (cf r) (.lf (.one (.sym (.int .i64 r))))
  | none=>.bad
 | _,_=>.bad
def Um (H:List ai) (x:Option XV):Option XV:=match x with
 | some (.one (.list _ xs _))=>some (.one (.sym (.int .i64 (xs.length:Int))))
 | some (.one (.own o))=>match H[o]? with
  | some (.row _ _ rs)=>some (.one (.sym (.int .i64 (rs.length:Int))))
  | _=>none
 | _=>none
def xtX (x:Option XV) (i:Nat):Option XV:=match x with
 | some (.tup l)=>match l[i]? with
  | some (true,cs)=>some (.agg cs)
  | some (false,[a])=>some (.one a)
  | _=>none
 | _=>none
section
variable {P:Program} {o:Oper} {cx:Cx} {bs:List Value} {w:World} {S:Nat→Prop} {H:List ai} {m:Nat} {env:Env} {a:Act} {cZ:Nat}
theorem jR.of_hit {t:T XV} {r:XV×Option ai} (h:(t.bind fun x=>.lf (x,none)).hit r) (hk:∀x,t.hit x→jR P o bs w S a cZ (x,none)):jR P o bs w S a cZ r:=by
 obtain⟨x,h1,h2⟩:=T.hit_bind h;have h2:(x,none)=r:=h2;rw[←h2];exact hk x h1
theorem jb (he:ER m bs w S env a) {x:Operand} {k:IntKind} {n:Int} {c:Bool} (h:oC (ev env x)=some (k,n,c)):a.eval x=.int k n:=by
 unfold oC at h;split at h
 ·rename_i j q e;injection h with h;injection h with h1 h;injection h with h2 h3
  subst h1 h2;exact(cN he e).1
 ·rename_i j q e;injection h with h;injection h with h1 h;injection h with h2 h3
  subst h1 h2;exact(cN he e).1
 ·cases h
theorem Bb {t:TypeId} {k:Nat} (h:((Tg P t).map (·.2)==some k)=true):∃e i,P.underlying t=some (.slice e)∧P.info? e=some i∧i.size=k:=by
 unfold Tg at h;cases hu:P.underlying t with
 | none=>rw[hu] at h;cases h
 | some d=>
  rw[hu] at h;cases d with
  | slice e=>
   cases hi:P.info? e with
   | none=>simp[hi] at h
   | some i=>exact⟨e,i,rfl,hi,by simpa[hi] using h⟩
  | _=>cases h
theorem ZE (hs:HS cx bs w S H) (he:ER m bs w S env a) {t:TypeId} {x i:Operand} (hop:o.op=.indexAddr t x i) {y:XV} (h:(ixX P H t (ev env x) (ev env i)).hit y):jR P o bs w S a cZ (y,none):=by
 unfold ixX at h;split at h
 ·rename_i ty xs _ k n c hx hi;split at h
  ·rename_i fU;obtain⟨⟨h0,h1⟩,h⟩:=h;have h:XV.one _=y:=h;subst h;obtain⟨e,j,hu,hj,jM⟩:=Bb fU;obtain⟨A,q,c2,hv,hr,_⟩:=cN he hx;have hlt:n.toNat<q:=by have:=hr.len;omega
   obtain⟨g,p,x',cs,rfl,hS,hx',ZY,hc⟩:=hr.at_ hlt;refine jd (v:=.pointer (some ⟨g,p+n.toNat*aF.sz (El ty),none⟩)) ?_ ⟨g,p+n.toNat*aF.sz (El ty),cs,hS,rfl,?_,?_⟩
   ·have Jo:=jb he hi;have hn:n<(q:Int):=by have:=hr.len;omega
    unfold execOp;simp[hop,hv,Jo,Instr.indexAt,asIntOf,Sem.run_bind,run_underlying hu w,h0,hn,sizeOf,typeInfo,hj,jM,Addr.add]
   ·rw[aai,hx'];exact ZY
   ·intro j' u hj';have:=hc j' u hj';have nR:(⟨g,p+n.toNat*aF.sz (El ty),none⟩:Addr).add j'=⟨g,p+(n.toNat*aF.sz (El ty)+j'),none⟩:=by unfold Addr.add;split<;>simp_all [aci]
    rw[nR];exact this
  ·exact h.elim
 ·rename_i ob k n c hx hi;split at h
  ·rename_i ty e' rs hH;split at h
   ·rename_i fU;obtain⟨⟨h0,h1⟩,h⟩:=h;have h:XV.one _=y:=h;subst h;obtain⟨e,j,hu,hj,jM⟩:=Bb fU;obtain⟨hb,A,q,c2,hv⟩:=cN he hx;have ho:=hs.o ob _ _ hH hb;have ho:Own (α:=El ty) w S 0 e' (a.eval x) rs.reverse:=ho;obtain⟨cs,⟨_,h2⟩,_⟩:=ho;rcases h2 with⟨_,hn⟩|⟨g,cap,cur,lv,_,_,lP,_⟩
    ·rw[aaH] at hn;omega
    ·rw[lv] at hb;refine jd (v:=.pointer (some ⟨g,n.toNat*aF.sz (El ty),none⟩)) ?_ ⟨g,_,_,hb,(by rw[aaH];omega),rfl⟩;have Jo:=jb he hi;have hn:n<(rs.reverse.length:Int):=by rw[aaH];exact h1
     unfold execOp;simp[hop,lv,Jo,Instr.indexAt,asIntOf,Sem.run_bind,run_underlying hu w,h0,h1,sizeOf,typeInfo,hj,jM,Addr.add];exact fun h=>h.symm
   ·exact h.elim
  ·rename_i o2 e' ty tn im done cur rest hH;split at h
   ·rename_i fU;obtain⟨h0,h⟩:=h;have h:XV.one _=y:=h;subst h;obtain⟨e,j,hu,hj,jM⟩:=Bb fU;obtain⟨hb,A,q,c2,hv⟩:=cN he hx;obtain⟨bS,ho,hz,hl,u,tX,ti,hv3⟩:=hs.o ob _ _ hH hb;have hlt:=hl;have ho:Own (α:=ko (aF.sz (El ty))) w S 0 e' (a.eval x) bS:=ho;obtain⟨cs,⟨_,h2⟩,_⟩:=ho;rcases h2 with⟨_,hn⟩|⟨g,cap,cur,lv,_⟩
    ·rw[hz.1] at hn;omega
    ·rw[hv3 g _ _ lv] at tX;refine jd (v:=.pointer (some ⟨g,done.length*aF.sz (El ty)+0,none⟩)) ?_ ⟨g,_,tX,rfl⟩;have Jo:=jb he hi;have h1:done.length<bS.length:=by rw[hz.1];exact hlt
     unfold execOp;simp[hop,lv,Jo,Instr.indexAt,asIntOf,Sem.run_bind,run_underlying hu w,h0,h1,sizeOf,typeInfo,hj,jM,Addr.add];exact fun h=>h.symm
   ·exact h.elim
  ·exact h.elim
 ·rename_i ob _ n _ _ hx hi;split at h
  ·rename_i l e hu;split at h
   ·rename_i j hj;split at h
    ·rename_i hb;cases hq:Gk ob (n.toNat*j.size) with
     | none=>rw[hq] at h;exact absurd (T.hit_op h) (by simp)
     | some z=>
      rw[hq] at h;obtain rfl:=aal (T.hit_op h);obtain⟨ad,hv,hz⟩:=Bs hq (cN he hx);refine jd (v:=.pointer (some (ad.add (n.toNat*j.size)))) ?_ hz;have Jo:=jb he hi;unfold execOp;simp[hop,hv,Jo,Instr.indexAt,Instr.sureAddr,asIntOf,Sem.run_bind,run_underlying hu w,hb.1,hb.2,sizeOf,typeInfo,hj]
    ·exact h.elim
   ·exact h.elim
  ·exact h.elim
 ·exact h.elim
theorem abI (he:ER m bs w S env a) {k:BinOp} {t u:TypeId} {x y:Operand} (hop:o.op=.binOp k t x y u) {z:XV} (h:(arX k (ev env x) (ev env y)).hit z):jR P o bs w S a cZ (z,none):=by
 have key:∀{n q:Int} {c c':Bool},oC (ev env x)=some (.i64,n,c)→oC (ev env y)=some (.i64,q,c')→(match arI k n q with|some r=>T.nd (cf r) (.lf (XV.one (.sym (.int .i64 r))))|none=>.bad).hit z→jR P o bs w S a cZ (z,none):=by
  intro n q c c' hx hy h;cases e:arI k n q with
  | none=>rw[e] at h;exact h.elim
  | some r=>
   rw[e] at h;obtain⟨hr,h⟩:=h;have h:XV.one _=z:=h;subst h;refine jd (v:=.int .i64 r) ?_ ⟨rfl,rfl⟩;have hx':=jb he hx;have MA:=jb he hy;have hw:IntKind.i64.wrap r=r:=by obtain⟨h1,h2⟩:=hr;rw[IntKind.wrap_i64]<;>omega
   unfold execOp;cases k<;>first|(injection e with e;subst e;simp[hop,hx',MA,eqGuard,binOp,Op.intArith,hw])|cases e
 unfold arX at h;split at h
 ·rename_i n q c hx hy;exact key hx hy h
 ·rename_i n c q _ hx hy;exact key hx hy h
 ·exact h.elim
theorem I6 {x:Operand} {t:TypeId} {ts:Array TypeId} (hop:o.op=.call { callee:=.builtin .len,args:=#[x],argTypes:=ts }) (ht:ts[0]?=some t) (hu:((P.underlying t).map fun d=>match d with|.slice _=>true|_=>false)=some true) {A:Option Addr} {n c:Nat} (hv:a.eval x=.slice A n c):(execOp a.eval o).run P w=.ok (.value (.int .i64 (n:Int))) w:=by
 cases hd:P.underlying t with
 | none=>rw[hd] at hu;cases hu
 | some d=>
  rw[hd] at hu;cases d with
  | slice e=>
   unfold execOp;simp[hop,resolve,invoke,builtin,Builtin.len_,ht,hv,Sem.run_bind,run_underlying hd w,goInt]
  | _=>cases hu
theorem Ul (hs:HS cx bs w S H) (he:ER m bs w S env a) {x:Operand} {t:TypeId} {ts:Array TypeId} (hop:o.op=.call { callee:=.builtin .len,args:=#[x],argTypes:=ts }) (ht:ts[0]?=some t) (hu:((P.underlying t).map fun d=>match d with|.slice _=>true|_=>false)=some true) {y:XV} (h:Um H (ev env x)=some y):jR P o bs w S a cZ (y,none):=by
 have key:∀{A:Option Addr} {n c:Nat},a.eval x=.slice A n c→(execOp a.eval o).run P w=.ok (.value (.int .i64 (n:Int))) w:=I6 hop ht hu;unfold Um at h;split at h
 ·rename_i ty xs _ hx;injection h with h
  subst h;obtain⟨A,n,c,hv,hr,_⟩:=cN he hx;refine jd (key hv) ⟨by rw[hr.len],rfl⟩
 ·rename_i ob hx;split at h
  ·rename_i ty e rs hH;injection h with h
   subst h;obtain⟨hb,A,n,c,hv⟩:=cN he hx;have ho:Own (α:=El ty) w S 0 e (a.eval x) rs.reverse:=hs.o ob _ _ hH hb;obtain⟨A',n',c',Ls,hn⟩:=ho.slice;refine jd (key Ls) ⟨by rw[hn,aaH],rfl⟩
  ·cases h
 ·cases h
def BK:Option XV→Bool
 | some (.one (.val (.slice none 0 0)))=>true
 | _=>false
def TM (k:BinOp) (x y:Option XV):Option XV:=match k,x,BK y with
 | .eql,some (.one (.list _ xs true)),true=>some (.one (.sym (.bool xs.isEmpty)))
 | .neq,some (.one (.list _ xs true)),true=>some (.one (.sym (.bool !xs.isEmpty)))
 | _,_,_=>none
theorem Lp (he:ER m bs w S env a) {x:Operand} (h:BK (ev env x)=true):a.eval x=.slice none 0 0:=by
 unfold BK at h;split at h
 ·rename_i e;exact(cN he e).1
 ·cases h
theorem TL (he:ER m bs w S env a) {k:BinOp} {t u:TypeId} {x y:Operand} (hop:o.op=.binOp k t x y u) (hu:((P.underlying t).map fun d=>match d with|.slice _=>true|_=>false)=some true) {z:XV} (h:TM k (ev env x) (ev env y)=some z):jR P o bs w S a cZ (z,none):=by
 have key:∀{ty:Ty} {xs:List (El ty)},ev env x=some (.one (.list ty xs true))→BK (ev env y)=true→∃A n c,a.eval x=.slice A n c∧A.isNone=xs.isEmpty∧a.eval y=.slice none 0 0:=by
  intro ty xs hx hy;obtain⟨A,n,c,hv,hr,hq⟩:=cN he hx;refine⟨A,n,c,hv,?_,Lp he hy⟩;cases xs with
  | nil=>rw[hq rfl rfl];rfl
  | cons x l=>
   obtain⟨h1,_,_,h3⟩:=hr;obtain⟨b,p,rfl,_⟩:=h3 (by rw[h1];exact Nat.succ_pos _);rfl
 have run:∀{A:Option Addr} {n c:Nat},(Op.equal t (.slice A n c) (.slice none 0 0)).run P w=.ok A.isNone w:=by
  intro A n c;cases hd:P.underlying t with
  | none=>rw[hd] at hu;cases hu
  | some d=>
   rw[hd] at hu;cases d with
   | slice e=>
    unfold Op.equal Op.maxDepth Op.equalIn;rw[Sem.run_bind,run_underlying hd w];cases A<;>rfl
   | _=>cases hu
 unfold TM at h;split at h
 ·rename_i ty xs hx hy;injection h with h
  subst h;obtain⟨A,n,c,h1,h2,h3⟩:=key hx hy;refine jd (v:=.bool xs.isEmpty) ?_ ⟨rfl,rfl⟩;unfold execOp;simp only[hop,h1,h3,eqGuard,ite_self,binOp,Sem.run_bind,run,h2,Result.andThen_ok,Sem.run_pure]
 ·rename_i ty xs hx hy;injection h with h
  subst h;obtain⟨A,n,c,h1,h2,h3⟩:=key hx hy;refine jd (v:=.bool !xs.isEmpty) ?_ ⟨rfl,rfl⟩;unfold execOp;simp only[hop,h1,h3,eqGuard,ite_self,binOp,Sem.run_bind,run,h2,Result.andThen_ok,Sem.run_pure]
 ·cases h
theorem XK (he:ER m bs w S env a) {x:Operand} {i:Nat} (hop:o.op=.extract x i) {y:XV} (h:xtX (ev env x) i=some y):jR P o bs w S a cZ (y,none):=by
 unfold xtX at h;split at h
 ·rename_i l hx;obtain⟨vs,hv,hf⟩:=cN he hx;have key:∀{v:Value},vs[i]?=some v→(execOp a.eval o).run P w=.ok (.value v) w:=by
   intro v hg;unfold execOp;simp[hop,hv,Instr.extract,hg]
  split at h
  ·rename_i cs e;injection h with h
   subst h;obtain⟨v,h1,h2⟩:=hf.get e;exact jd (key h1) h2
  ·rename_i b e;injection h with h
   subst h;obtain⟨v,h1,h2⟩:=hf.get e;obtain⟨b',e2,h2⟩:=h2;injection e2 with e2
   subst e2;exact jd (key h1) h2
  ·cases h
 ·cases h
theorem OJ (he:ER m bs w S env a) {x:Operand} (hop:o.op=.move x∨o.op=.assign x) {y:XV} (h:ev env x=some y):jR P o bs w S a cZ (y,none):=by
 refine jd (v:=a.eval x) ?_ (cN he h);unfold execOp;rcases hop with hop|hop<;>simp[hop]
def ncX (x:Option XV):Option XV:=match x with
 | some (.one p)=>(Gk p 0).map fun _=>.one p
 | _=>none
theorem Y2 (he:ER m bs w S env a) {x:Operand} (hop:o.op=.nilCheck x) {y:XV} (h:ncX (ev env x)=some y):jR P o bs w S a cZ (y,none):=by
 unfold ncX at h;split at h
 ·rename_i p hp;cases e:Gk p 0 with
  | none=>rw[e] at h;cases h
  | some q=>
   rw[e] at h;injection h with h
   subst h;have hv:=cN he hp;obtain⟨ad,h1,_⟩:=Bs e hv;refine jd (v:=a.eval x) ?_ hv;unfold execOp;simp[hop,h1]
 ·cases h
end
def XV.cells:XV→Option (List AV)
 | .one a=>some [a]
 | .agg cs=>some cs
 | .tup _=>none
def Md (t:TypeId) (cZ:Nat) (x:Option XV):Option (XV×Option ai):=(x.bind XV.cells).map fun cs=>(.one (.ptr cZ 0),some (.cells t cs))
def MN (P:Program) (t:TypeId):Option XV:=((P.info? t).bind (·.zero)).bind (Y6 true)
def oH (place:Nat→Option (Nat×Nat)) (cells:List AV):List (Nat×List AV)→Option (List AV)
 | []=>some cells
 | (i,v)::rest=>match place i with
  | none=>none
  | some (off,size)=>if v.length≠size||decide (off+v.length>cells.length) then none else oH place ((v.zipIdx).foldl (fun cs (p:AV×Nat)=>cs.set (off+p.2) p.1) cells) rest
def lL (env:Env):List (Nat×Operand)→Option (List (Nat×List AV))
 | []=>some []
 | (i,x)::l=>match (ev env x).bind XV.cells,lL env l with
  | some cs,some r=>some ((i,cs)::r)
  | _,_=>none
def vY (P:Program) (t:TypeId):Option (List AV):=((P.info? t).bind (·.zero)).bind fun z=>if z.cells.all (·.oneCell') then some (z.cells.toList.map .val) else none
def abB (P:Program) (t:TypeId) (ps:Option (List (Nat×List AV))):Option XV:=match P.underlying t,vY P t,ps with
 | some (.array _ e),some z,some ps=>(P.info? e).bind fun ie=>(oH (fun i=>some (i*ie.size,ie.size)) z ps).map .agg
 | some (.struct fields),some z,some ps=>(fields.toList.mapM (fun f=>(P.info? f.type).map fun i=>(f.offset,i.size))).bind fun places=>(oH (places.toArray[·]?) z ps).map .agg
 | _,_,_=>none
def wo (ty:Ty) (sz:Nat):Nat→List AV→Option (List (El ty))
 | 0,[]=>some []
 | 0,_=>none
 | n+1,cs=>match un ty (cs.take sz),wo ty sz n (cs.drop sz) with
  | some x,some l=>some (x::l)
  | _,_=>none
def KC (P:Program) (ty:TypeId→Option Ty) (cZ:Nat) (t:TypeId) (n:Nat) (ps:Option (List (Nat×List AV))):Option (XV×Option ai):=match Tg P t,ps with
 | some (e,sz),some ps=>match ty e,vY P e with
  | some y,some z=>if sz=aF.sz (El y)∧sz=z.length∧0<n*sz∧n*sz≤16777216 then ((oH (fun i=>some (i*sz,sz)) (List.replicate n z).flatten ps).bind (wo y sz n)).map fun xs=>(.one (.own cZ),some (.row y e xs.reverse))
   else none
  | _,_=>none
 | _,_=>none
section
variable {α β:Type} {R:α→β→Prop}
theorem F2.set {l:List α} {m:List β} (h:F2 R l m) {x:α} {y:β} (hr:R x y):∀i,F2 R (l.set i x) (m.set i y):=by
 induction h with
 | nil=>intro i;exact .nil
 | cons h k ih=>intro i;cases i with
  | zero=>exact .cons hr k
  | succ i=>exact .cons h (ih i)
theorem F2.fold {us:List α} {vs:List β} (h:F2 R us vs) (off:Nat):∀(k:Nat) {l:List α} {m:List β},F2 R l m→F2 R ((us.zipIdx k).foldl (fun cs (p:α×Nat)=>cs.set (off+p.2) p.1) l) ((vs.zipIdx k).foldl (fun cs (p:β×Nat)=>cs.set (off+p.2) p.1) m):=by
 induction h with
 | nil=>intro k l m h;exact h
 | cons h _ ih=>intro k l m hl;exact ih (k+1) (hl.set h _)
theorem F2.replicate {x:List α} {y:List β} (h:F2 R x y):∀n,F2 R (List.replicate n x).flatten (List.replicate n y).flatten
 | 0=>.nil
 | n+1=>by rw[List.replicate_succ,List.replicate_succ,List.flatten_cons,List.flatten_cons];exact h.append (F2.replicate h n)
end
theorem foldl_toList (off:Nat):∀(l:List (Value×Nat)) (cs:Array Value),(l.foldl (fun cs (p:Value×Nat)=>cs.setIfInBounds (off+p.2) p.1) cs).toList=l.foldl (fun cs (p:Value×Nat)=>cs.set (off+p.2) p.1) cs.toList
 | [],_=>rfl
 | p::l,cs=>by rw[ac4,ac4,foldl_toList off l,Array.toList_setIfInBounds]
section
variable {P:Program} {o:Oper} {cx:Cx} {bs:List Value} {w:World} {S:Nat→Prop} {H:List ai} {m:Nat} {env:Env} {a:Act} {cZ:Nat}
theorem XV.cells_ok {x:XV} {cs:List AV} {v:Value} (h:XV.cells x=some cs) (hx:XR bs w S x v):F2 (VR bs w S) cs v.cells.toList:=by
 cases x with
 | one b=>
  injection h with h
  subst h;have h1:=VR.one hx;have:v.cells=#[v]:=by cases v<;>first|rfl|cases h1
  rw[this];exact .cons hx .nil
 | agg ds=>
  injection h with h
  subst h;obtain⟨vs,rfl,hf⟩:=hx;simpa[Value.cells] using hf
 | tup l=>cases h
theorem afU (hs:HS cx bs w S H) {t:TypeId} {cs:List AV} {v:Value} (hr:(execOp a.eval o).run P w=.ok (.value (.pointer (some ⟨w.heap.size,0,none⟩))) (w.alloc (.cells v.cells t))) (hf:F2 (VR bs w S) cs v.cells.toList):jR P o bs w S a cZ (.one (.ptr cZ 0),some (.cells t cs)):=by
 intro K Q h;unfold Oper.wp;rw[hr,Oper.upon_value];have hb:Below w.heap.size w (w.alloc (.cells v.cells t)):=oO _ _;refine h _ _ S (.pointer (some ⟨w.heap.size,0,none⟩)) hb (fun _ h=>h) (fun _ h=>.inl h) (fun bn ha hn=>⟨⟨w.heap.size,hn rfl,rfl⟩,fun x hx=>?_⟩) fun x hx b sk=>?_
 ·injection hx with hx
  subst hx;exact⟨w.heap.size,v.cells.toList,rfl,dI.new _ _ _,hf.mono fun _ _ q=>q.keep (fun _ h=>h) ((aA.of_below hb).sub fun b q=>(hs.s b q).1) ha⟩
 ·injection hx with hx
  subst hx;injection sk with sk
  subst sk;exact⟨aaJ _,fun q=>act _ (hs.s _ q).1⟩
theorem VG (hs:HS cx bs w S H) (he:ER m bs w S env a) {t:TypeId} {x:Operand} (hop:o.op=.box t x) {r:XV×Option ai} (h:Md t cZ (ev env x)=some r):jR P o bs w S a cZ r:=by
 unfold Md at h;cases e:ev env x with
 | none=>rw[e] at h;cases h
 | some y=>
  rw[e] at h;cases e2:XV.cells y with
  | none=>simp[e2] at h
  | some cs=>
   have h':some (XV.one (.ptr cZ 0),some (ai.cells t cs))=some r:=by simpa[e2] using h
   injection h' with h'
   subst h';refine afU hs (v:=a.eval x) ?_ (XV.cells_ok e2 (cN he e));unfold execOp;simp[hop,Instr.box,newVar,newRow]
theorem La {c:Bool} {v:Value} {x:XV} {cs:List AV} (h:Y6 c v=some x) (hc:XV.cells x=some cs):F2 (VR bs w S) cs v.cells.toList:=XV.cells_ok hc (Gn h)
theorem VQ (hs:HS cx bs w S H) {t:TypeId} (hop:o.op=.alloc t) {r:XV×Option ai} (h:Md t cZ (MN P t)=some r):jR P o bs w S a cZ r:=by
 unfold Md MN at h;cases hi:P.info? t with
 | none=>rw[hi] at h;cases h
 | some i=>
  cases hz:i.zero with
  | none=>simp[hi,hz] at h
  | some z=>
   cases hm:Y6 true z with
   | none=>simp[hi,hz,hm] at h
   | some y=>
    cases e2:XV.cells y with
    | none=>simp[hi,hz,hm,e2] at h
    | some cs=>
     have h':some (XV.one (.ptr cZ 0),some (ai.cells t cs))=some r:=by simpa[hi,hz,hm,e2] using h
     injection h' with h'
     subst h';refine afU hs (v:=z) ?_ (La hm e2);unfold execOp;simp[hop,Instr.alloc,zeroValue,typeInfo,hi,hz,newVar,newRow]
theorem l9 (he:ER m bs w S env a):∀{l:List (Nat×Operand)} {r:List (Nat×List AV)},lL env l=some r→F2 (fun p q=>p.1=q.1∧F2 (VR bs w S) p.2 q.2.cells.toList) r (l.map fun p=>(p.1,a.eval p.2))
 | [],r,h=>by injection h with h;subst h;exact .nil
 | (i,x)::l,r,h=>by
  unfold lL at h;split at h
  ·rename_i cs r' h1 h2;injection h with h
   subst h;cases e:ev env x with
   | none=>rw[e] at h1;cases h1
   | some y=>
    rw[e] at h1;exact .cons ⟨rfl,XV.cells_ok h1 (cN he e)⟩ (l9 he h2)
  ·cases h
theorem sn {place:Nat→Option (Nat×Nat)}:∀{ps:List (Nat×List AV)} {qs:List (Nat×Value)} {cs r:List AV} {vs:Array Value},oH place cs ps=some r→F2 (fun p q=>p.1=q.1∧F2 (VR bs w S) p.2 q.2.cells.toList) ps qs→F2 (VR bs w S) cs vs.toList→∃us,Instr.fill place vs qs=some us∧F2 (VR bs w S) r us.toList
 | [],_,cs,r,vs,h,hp,hc=>by cases hp;injection h with h;subst h;exact⟨vs,rfl,hc⟩
 | (i,v)::ps,_,cs,r,vs,h,hp,hc=>by
  cases hp with
  | @cons _ q _ qs h1 h2=>
   obtain⟨j,u⟩:=q;obtain⟨e,h1⟩:=h1;have e:i=j:=e;subst e;unfold oH at h;cases yS:place i with
   | none=>rw[yS] at h;cases h
   | some p=>
    obtain⟨off,size⟩:=p;rw[yS] at h;simp only at h;split at h
    ·cases h
    ·rename_i Lw;have hl:v.length=u.cells.size:=h1.length.trans abM;have hl2:cs.length=vs.size:=hc.length.trans abM;obtain⟨us,h3,h4⟩:=sn (vs:=u.cells.zipIdx.foldl (fun cs (p:Value×Nat)=>cs.setIfInBounds (off+p.2) p.1) vs) h h2 (by
      rw[←Array.foldl_toList,foldl_toList,Array.toList_zipIdx];exact h1.fold off 0 hc)
     refine⟨us,?_,h4⟩;unfold Instr.fill;rw[yS];simp only;rw[if_neg (by rw[←hl,←hl2];simpa using Lw)];exact h3
theorem oW {t:TypeId} {z:List AV} (h:vY P t=some z):∃i zv,P.info? t=some i∧i.zero=some zv∧F2 (VR bs w S) z zv.cells.toList:=by
 unfold vY at h;cases hi:P.info? t with
 | none=>rw[hi] at h;cases h
 | some i=>
  cases hz:i.zero with
  | none=>simp[hi,hz] at h
  | some zv=>
   rw[hi] at h;have h:(if zv.cells.all (·.oneCell') then some (zv.cells.toList.map AV.val) else none)=some z:=by simpa[hz] using h
   split at h
   ·rename_i h1;injection h with h
    subst h;exact⟨i,zv,rfl,hz,BB (c:=true) fun v hv=>adx.1 h1 v (by simpa using hv)⟩
   ·cases h
theorem VJ (he:ER m bs w S env a) {t:TypeId} {ps:Array (Nat×Operand)} (hop:o.op=.build t ps) {y:XV} (h:abB P t (lL env ps.toList)=some y):jR P o bs w S a cZ (y,none):=by
 have fin:∀{cells:Array Value} {r:List AV},P.built t (ps.map fun(i,x)=>(i,a.eval x)).toList=some cells→F2 (VR bs w S) r cells.toList→XV.agg r=y→jR P o bs w S a cZ (y,none):=by
  intro cells r hb hf e;subst e;refine jd (v:=.agg cells) ?_ ⟨cells.toList,rfl,hf⟩;unfold execOp;simp only[hop,Sem.run_bind,run_build w t _ cells hb,Result.andThen_ok,Sem.run_pure]
 have UO:(ps.map fun(i,x)=>(i,a.eval x)).toList=ps.toList.map fun p=>(p.1,a.eval p.2):=by rw[acZ]
 unfold abB at h;split at h
 ·rename_i n e z ps' hu hz hp;obtain⟨i,zv,hi,fL,hf⟩:=oW (bs:=bs) (w:=w) (S:=S) hz;cases hie:P.info? e with
  | none=>rw[hie] at h;cases h
  | some ie=>
   rw[hie] at h;cases Ah:oH (fun i=>some (i*ie.size,ie.size)) z ps' with
   | none=>simp[Ah] at h
   | some r=>
    have h:XV.agg r=y:=by simpa[Ah] using h
    obtain⟨us,h1,h2⟩:=sn Ah (l9 he hp) hf;refine fin (cells:=us) (r:=r) ?_ h2 h;unfold Program.built;simp only[UO,hi,hu,fL,hie];exact h1
 ·rename_i fs z ps' hu hz hp;obtain⟨i,zv,hi,fL,hf⟩:=oW (bs:=bs) (w:=w) (S:=S) hz;cases yS:fs.toList.mapM (fun f=>(P.info? f.type).map fun i=>(f.offset,i.size)) with
  | none=>rw[yS] at h;cases h
  | some places=>
   rw[yS] at h;cases Ah:oH (places.toArray[·]?) z ps' with
   | none=>
    have h:(oH (places.toArray[·]?) z ps').map XV.agg=some y:=h;rw[Ah] at h;cases h
   | some r=>
    have h:(oH (places.toArray[·]?) z ps').map XV.agg=some y:=h;rw[Ah] at h;injection h with h
    obtain⟨us,h1,h2⟩:=sn Ah (l9 he hp) hf;refine fin (cells:=us) (r:=r) ?_ h2 h;unfold Program.built;simp only[UO,hi,hu,fL,yS];exact h1
 ·cases h
theorem CN {ty:Ty} {sz:Nat}:∀{n:Nat} {cs:List AV} {vs:List Value} {xs:List (El ty)},wo ty sz n cs=some xs→F2 (VR bs w S) cs vs→Flat w S vs xs∧xs.length=n
 | 0,[],_,xs,h,hf=>by cases hf;injection h with h;subst h;exact⟨.nil,rfl⟩
 | 0,_::_,_,xs,h,_=>by cases h
 | n+1,cs,vs,xs,h,hf=>by
  unfold wo at h;split at h
  ·rename_i x l h1 h2;injection h with h
   subst h;obtain⟨q1,q2⟩:=CN h2 (hf.drop sz);have:=Flat.cons (kz h1 (hf.take sz)) q1;rw[List.take_append_drop] at this;exact⟨this,by simp[q2]⟩
  ·cases h
theorem uK (z:List Value) (hz:0<z.length) (n:Nat):((Array.range (n*z.length)).map (z.toArray[·%z.toArray.size]!)).toList=(List.replicate n z).flatten:=by
 apply acy;intro i;rw[acZ,Array.toList_range,acz];by_cases hi:i<n*z.length
 ·rw[acT hi];have h1:i/z.length<n:=Nat.div_lt_of_lt_mul (by rw[ac5];exact hi);have h2:i%z.length<z.length:=Nat.mod_lt _ hz;have h3:i=i/z.length*z.length+i%z.length:=by rw[ac5];exact(Nat.div_add_mod _ _).symm
  have key:∀(n q r:Nat),q<n→r<z.length→(List.replicate n z).flatten[q*z.length+r]?=z[r]?:=by
   intro n;induction n with
   | zero=>intro q r h;omega
   | succ n ih=>
    intro q r hq hr;rw[List.replicate_succ,List.flatten_cons];cases q with
    | zero=>rw[adY,ab7,aaz hr]
    | succ q=>
     rw[aam (by rw[Nat.succ_mul];omega),show(q+1)*z.length+r-z.length=q*z.length+r by rw[Nat.succ_mul];omega];exact ih q r (by omega) hr
  have hk:=key n (i/z.length) (i%z.length) h1 h2;rw[←h3] at hk;rw[hk];simp[h2]
 ·rw[abN (by simpa using hi),abN (by simp[List.length_flatten];omega)];rfl
theorem Iz (hs:HS cx bs w S H) {ty:TypeId→Option Ty} {t:TypeId} {n:Nat} {ps:Array (Nat×Operand)} {l:List (Nat×List AV)} (GH:F2 (fun p q=>p.1=q.1∧F2 (VR bs w S) p.2 q.2.cells.toList) l (ps.toList.map fun p=>(p.1,a.eval p.2))) (hop:o.op=.buildSlice t n ps) {r:XV×Option ai} (h:KC P ty cZ t n (some l)=some r):jR P o bs w S a cZ r:=by
 unfold KC at h;split at h
 ·rename_i e sz ps' fU hp;injection hp with hp
  subst hp;split at h
  ·rename_i y z hy hz;split at h
   ·rename_i hc;obtain⟨c1,c2,c3,c4⟩:=hc;cases Ah:oH (fun i=>some (i*sz,sz)) (List.replicate n z).flatten l with
    | none=>rw[Ah] at h;cases h
    | some cs=>
     rw[Ah] at h;cases hur:wo y sz n cs with
     | none=>have h:(wo y sz n cs).map _=some r:=h;rw[hur] at h;cases h
     | some xs=>
      have h:(wo y sz n cs).map _=some r:=h;rw[hur] at h;injection h with h
      subst h;obtain⟨i,zv,hi,fL,hf⟩:=oW (bs:=bs) (w:=w) (S:=S) hz;unfold Tg at fU;cases hu:P.underlying t with
      | none=>rw[hu] at fU;cases fU
      | some d=>
       rw[hu] at fU;cases d with
       | slice e'=>
        have fU:(P.info? e').map (fun i=>(e',i.size))=some (e,sz):=fU;cases Sy:P.info? e' with
        | none=>rw[Sy] at fU;cases fU
        | some i2=>
         rw[Sy] at fU;injection fU with fU
         injection fU with e1 e2
         subst e1;rw[hi] at Sy;injection Sy with Sy
         subst Sy;have z9:z.length=zv.cells.size:=hf.length.trans abM;have kI:0<zv.cells.toList.length:=by
          rw[abM,←z9,←c2];rcases acK sz with q|q
          ·rw[q] at c3;simp at c3
          ·exact q
         have UO:(ps.map fun(i,x)=>(i,a.eval x)).toList=ps.toList.map fun p=>(p.1,a.eval p.2):=by rw[acZ]
         obtain⟨us,h1,h2⟩:=sn (vs:=(Array.range (n*i.size)).map (zv.cells[·%zv.cells.size]!)) Ah GH (by
          have hzs:zv.cells.size=sz:=by omega
          have hq:=uK zv.cells.toList kI n;rw[abM,show zv.cells.toList.toArray=zv.cells from acd] at hq;rw[e2,←hzs,hq];exact hf.replicate n)
         obtain⟨q1,q2⟩:=CN hur h2;have lO:=run_buildSlice (P:=P) w t e' n (ps.map fun(i,x)=>(i,a.eval x)) us i zv hu hi fL (by rw[e2];omega) (by rw[e2];omega) (by rw[UO,e2];rw[e2] at h1;exact h1);intro K Q hk;unfold Oper.wp execOp;simp only[hop,Sem.run_bind,lO,Result.andThen_ok,Sem.run_pure,Oper.upon_value];have hb:Below w.heap.size w (w.alloc (.cells us e')):=oO _ _;have bX:aA S w (w.alloc (.cells us e')):=(aA.of_below hb).sub fun b q=>(hs.s b q).1;have bG:us.toList.length=n*sz:=by rw[q1.length,q2,c1]
         refine hk _ _ S (.slice (some ⟨w.heap.size,0,none⟩) n n) hb (fun _ h=>h) (fun _ h=>.inl h) (fun bn ha hn=>⟨⟨hn rfl,_,_,_,rfl⟩,fun x hx=>?_⟩) fun x hx b sk=>?_
         ·injection hx with hx
          subst hx;show Own (α:=El y) _ S 0 e' _ xs.reverse.reverse;rw[aap];have MC:n≤maxLen:=by
           have:n≤n*sz:=Nat.le_mul_of_pos_right _ (by rcases acK sz with q|q;(· rw[q] at c3;simp at c3);exact q);unfold maxLen;omega
          refine⟨us.toList,⟨by rw[bG,q2,c1],.inr ⟨w.heap.size,n,us,by rw[q2],ab0 _,heap_alloc_new w _,by omega,MC,?_,?_⟩⟩,q1.keep (fun _ h=>h) bX,fun b q=>⟨abc (hs.s b q).1 hb.size,fun e=>?_⟩⟩
          ·rw[abM] at bG;rw[bG,c1]
          ·rw[q2,acx (by rw[bG,c1];exact aaJ _)]
          ·have e':b=w.heap.size:=aal e;have:=(hs.s b q).1;omega
         ·injection hx with hx
          subst hx;injection sk with sk
          subst sk;exact⟨aaJ _,fun q=>act _ (hs.s _ q).1⟩
       | _=>cases fU
   ·cases h
  ·cases h
 ·cases h
theorem Tl (hs:HS cx bs w S H) (he:ER m bs w S env a) {ty:TypeId→Option Ty} {t:TypeId} {n:Nat} {ps:Array (Nat×Operand)} (hop:o.op=.buildSlice t n ps) {r:XV×Option ai} (h:KC P ty cZ t n (lL env ps.toList)=some r):jR P o bs w S a cZ r:=by
 cases hp:lL env ps.toList with
 | none=>rw[hp] at h;unfold KC at h;cases hq:Tg P t<;>rw[hq] at h<;>cases h
 | some l=>rw[hp] at h;exact Iz hs (l9 he hp) hop h
end
end Go.Proofs.YtdbpbfglhbiadaaGreatDoor
