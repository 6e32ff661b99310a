/- MOp2 MOp3 MOp4 -/
import Derived.Test.YtichkplomldgiaaGreatDoorJ17
set_option maxHeartbeats 4000000
set_option maxRecDepth 100000
namespace Go.Proofs.YtichkplomldgiaaGreatDoor
open Go Go.RowKit
def LD (P:Program) (t:TypeId):Option (Bool×Nat):=match Fw P t with
 | some true=>(P.info? t).map λi=>(true,i.size)
 | some false=>some (false,1)
 | none=>none
def JV (q:Bool×Nat) (cs:List AV):Option XV:=if cs.length=q.2 then(if q.1 then some (.agg cs) else match cs with
 | [a]=>some (.one a)
 | _=>none) else none
def mD (H:List aa):AV->Option (List AV)
 | .ptr o off=>match H[o]? with
  | some (.cells _ cs)=>some (cs.drop off)
  | _=>none
 | .ref t x off=>some ((kS t x).drop off)
 | .elo o i sz off=>match H[o]? with
  | some (.row t _ rs)=>if sz=ak.sz (El t) then some ((kS t (rs.reverse.getD i (sW t))).drop off) else none
  | _=>none
 | .sub o o2 off=>match H[o]? with
  | some (.zip FM _ _ _ _ _ cur _)=>if o2=FM then some (cur.drop off) else none
  | _=>none
 | _=>none
def LC (P:Program) (H:List aa) (t:TypeId) (x:Option XV):Option XV:=match LD P t,x with
 | some q,some (.one a)=>(mD H a).bind λcs=>JV q (cs.take q.2)
 | _,_=>none
def vK (a:AV) (k:Nat):Option AV:=match a with
 | .ptr o f=>some (.ptr o (f+k))
 | .ref t x f=>some (.ref t x (f+k))
 | .elo o i s f=>some (.elo o i s (f+k))
 | .sub o o2 f=>some (.sub o o2 (f+k))
 | _=>none
def Q5 (P:Program) (s:TypeId) (i:Nat):Option Nat:=match P.underlying s with
 | some (.struct fs)=>(fs[i]?).bind λf=>(P.info? f.type).bind λj=>if j.size=0 then none else some f.offset
 | _=>none
def Kj (P:Program) (s:TypeId) (i:Nat):Option (Nat×TypeId):=match P.underlying s with
 | some (.struct fs)=>(fs[i]?).map λf=>(f.offset,f.type)
 | _=>none
def Gw (P:Program) (t:TypeId):Option (TypeId×Nat):=match P.underlying t with
 | some (.slice e)=>(P.info? e).map λi=>(e,i.size)
 | _=>none
def iN:Option XV->Option (IntKind×Int×Bool)
 | some (.one (.val (.int k n)))=>some (k,n,true)
 | some (.one (.sym (.int k n)))=>some (k,n,false)
 | _=>none
section
variable {P:Program} {o:Oper} {cx:Cx} {bs:List Value} {w:World} {S:Nat->Prop} {H:List aa} {m:Nat} {env:Env} {a:Act} {bg:Nat}
theorem CR.agg {cs:List AV} {vs:List Value} (h:F2 (VR bs w S) cs vs):XR bs w S (.agg cs) (.agg vs.toArray):=⟨vs,rfl,h⟩
theorem MZ (hs:HS cx bs w S H) {ob i off g n c:Nat} {t:Ty} {e:TypeId} {rs:List (El t)} (hH:H[ob]?=some (.row t e rs)) (hb:bs[ob]?=some (.slice (some ⟨g,0,none⟩) n c)) (hi:i<n):∃ds,ak.rep w S ds (rs.reverse.getD i (sW t))/\bb w ⟨g,i*ak.sz (El t)+off,none⟩ (ds.drop off):=by
 have ho:Own (α:=El t) w S 0 e (.slice (some ⟨g,0,none⟩) n c) rs.reverse:=hs.o ob _ _ hH hb;obtain⟨A',n',c',DV,hn⟩:=ho.slice;injection DV with _ oT _
 subst oT;obtain⟨cs,q1,q2,_⟩:=ho;have hx:rs.reverse[i]?=some (rs.reverse.getD i (sW t)):=by rw[List.getD_eq_getElem?_getD,List.getElem?_eq_getElem (by omega)];rfl
 obtain⟨ds,hr,hc⟩:=q2.get i _ hx;refine⟨ds,hr,λj u hj=>?_⟩;rw[List.getElem?_drop] at hj;have h1:=q1.cells (g:=g) rfl _ _ (hc _ u hj);have iz:(⟨g,i*ak.sz (El t)+off,none⟩:Addr).add j=(⟨g,0,none⟩:Addr).add (i*ak.sz (El t)+(off+j)):=by unfold Addr.add;split<;>simp_all [Nat.add_assoc]
 rw[iz];exact h1
theorem Cm (hs:HS cx bs w S H) {ob o2 g p:Nat} {e:TypeId} {t tn:Ty} {dQ:Nat} {done:List (El t)} {cur:List AV} {rest:List (El tn)} {v:Value} (hH:H[ob]?=some (.zip o2 e t tn dQ done cur rest)) (hb:bs[ob]?=some v) (h2:bs[o2]?=some (.pointer (some ⟨g,p,none⟩))):∃(aO:List (fl (ak.sz (El t)))) (n c:Nat) (r:fl (ak.sz (El t))),v=.slice (some ⟨g,0,none⟩) n c/\p=done.length*ak.sz (El t)/\Own w S 0 e v aO/\ZR bs w S (tn:=tn) dQ done cur rest aO/\aO[done.length]?=some r/\bb w ⟨g,p,none⟩ r.cells:=by
 obtain⟨aO,ho,hz,hl,u,hu,_,hv⟩:=hs.o ob _ _ hH hb;rw[h2] at hu;obtain rfl:=Option.some.inj hu;have hlt:=hl;have hr:aO[done.length]?=some (aO[done.length]'(by rw[hz.1];exact hlt)):=List.getElem?_eq_getElem _;have ho0:=ho;obtain⟨cs,q1,q2,_⟩:=ho;have Sp:=q1;obtain⟨_,h3⟩:=Sp;rcases h3 with⟨_,hn⟩|⟨g',cap,Rb,fW,_⟩
 ·rw[hz.1] at hn;omega
 ·have hp:=hv g' _ _ fW;injection hp with hp
  injection hp with hp
  injection hp with e1 e2
  subst e1 e2;obtain⟨ds,hd,hc⟩:=q2.get _ _ hr;have hd:ds=_:=hd;subst hd;refine⟨aO,_,_,_,fW,rfl,ho0,hz,hr,λj u hj=>?_⟩;have h1:=q1.cells (g:=g) (by rw[fW];rfl) _ _ (hc _ u hj);have iz:(⟨g,done.length*ak.sz (El t),none⟩:Addr).add j=(⟨g,0,none⟩:Addr).add (done.length*ak.sz (fl (ak.sz (El t)))+j):=by
   show(⟨g,done.length*ak.sz (El t),none⟩:Addr).add j=(⟨g,0,none⟩:Addr).add (done.length*ak.sz (El t)+j);unfold Addr.add;split<;>simp_all
  rw[iz];exact h1
theorem oj (hs:HS cx bs w S H) {p:AV} {cs:List AV} {v:Value} (h:mD H p=some cs) (hv:VR bs w S p v):∃ad vs,v=.pointer (some ad)/\bb w ad vs/\F2 (VR bs w S) cs vs:=by
 cases p with
 | ptr o off=>
  obtain⟨g,h1,rfl⟩:=hv;have h:(match H[o]? with|some (aa.cells _ cs)=>some (cs.drop off)|_=>none)=some cs:=h;cases e:H[o]? with
  | none=>rw[e] at h;cases h
  | some x=>
   rw[e] at h;cases x with
   | cells ty ds=>
    injection h with h
    subst h;obtain⟨g',vs,e2,h2,h3⟩:=hs.o o _ _ e h1;injection e2 with e2
    injection e2 with e2
    injection e2 with e2
    subst e2;refine⟨_,vs.drop off,rfl,λj u hj=>?_,h3.drop off⟩;rw[List.getElem?_drop] at hj;have iz:(⟨g,off,none⟩:Addr).add j=⟨g,off+j,none⟩:=by unfold Addr.add;split<;>simp_all
    rw[iz,h2.cell];simpa using hj
   | _=>cases h
 | ref t x off=>
  obtain⟨b,p,vs,_,rfl,h2,h3⟩:=hv;injection h with h
  subst h;refine⟨_,vs.drop off,rfl,λj u hj=>?_,(fZ h2).drop off⟩;rw[List.getElem?_drop] at hj;have:=h3 _ _ hj;rw[<-dz] at this;have iz:(⟨b,p,none⟩:Addr).add off=⟨b,p+off,none⟩:=by unfold Addr.add;split<;>simp_all
  rw[<-iz];exact this
 | elo o i sz off=>
  obtain⟨g,n,c,h1,h2,rfl⟩:=hv;have h:(match H[o]? with|some (aa.row t _ rs)=>if sz=ak.sz (El t) then some ((kS t (rs.reverse.getD i (sW t))).drop off) else none|_=>none)=some cs:=h;cases e:H[o]? with
  | none=>rw[e] at h;cases h
  | some x=>
   rw[e] at h;cases x with
   | row t te rs=>
    simp only at h;split at h
    ·rename_i hsz;injection h with h
     subst h hsz;obtain⟨ds,q1,q2⟩:=MZ hs e h1 h2 (off:=off);exact⟨_,_,rfl,q2,(fZ q1).drop off⟩
    ·cases h
   | _=>cases h
 | sub o o2 off=>
  obtain⟨g,p,h2,rfl⟩:=hv;have h:(match H[o]? with|some (aa.zip FM _ _ _ _ _ cur _)=>if o2=FM then some (cur.drop off) else none|_=>none)=some cs:=h;split at h
  ·rename_i FM e t tn dQ done cur rest hH;split at h
   ·rename_i e2;subst e2;injection h with h
    subst h;have sU:o<bs.length:=by rw[hs.len];exact(List.getElem?_eq_some_iff.1 hH).1
    obtain⟨aO,n,c,r,_,_,_,hz,hr,hc⟩:=Cm hs hH (List.getElem?_eq_getElem sU) h2;refine⟨_,r.cells.drop off,rfl,λj u hj=>?_,((hz.2 _ _ hr).2.1 rfl).drop off⟩;rw[List.getElem?_drop] at hj;have:=hc _ _ hj;rw[<-dz] at this;have iz:(⟨g,p,none⟩:Addr).add off=⟨g,p+off,none⟩:=by unfold Addr.add;split<;>simp_all
    rw[<-iz];exact this
   ·cases h
  ·cases h
 | _=>cases h
theorem bb.take {ad:Addr} {vs:List Value} (h:bb w ad vs) (n:Nat):bb w ad (vs.take n):=λj u hj=>by
 rw[List.getElem?_take] at hj;split at hj
 ·exact h j u hj
 ·cases hj
theorem LB (hs:HS cx bs w S H) (he:ER m bs w S env a) {t:TypeId} {x:Operand} (hop:o.op=.load t x) {y:XV} (h:LC P H t (ev env x)=some y):eA P o bs w S a bg (y,none):=by
 unfold LC at h;split at h
 ·rename_i q z hq hz;have hv:=aZ he hz;cases e:mD H z with
  | none=>rw[e] at h;cases h
  | some cs=>
   rw[e] at h;have h:JV q (cs.take q.2)=some y:=h;obtain⟨ad,vs,hv,hc,hf⟩:=oj hs e hv;have rX:=hf.take q.2;have Ms:=hc.take q.2;have hl:=rX.length;unfold JV at h;split at h
   ·rename_i hlen;rw[hlen] at hl;unfold LD at hq;split at hq
    ·rename_i Ev;cases hi:P.info? t with
     | none=>rw[hi] at hq;cases hq
     | some i=>
      rw[hi] at hq;injection hq with hq
      subst hq;simp only[if_true] at h;injection h with h
      subst h;refine dW (v:=.agg (vs.take i.size).toArray) ?_ (CR.agg rX);have:=JR Ms Ev (by rw[hi];exact congrArg some hl);unfold execOp;simp only[hop,hv,Sem.run_bind,this,Result.andThen_ok,Sem.run_pure]
    ·rename_i Ev;injection hq with hq
     subst hq;simp only[Bool.false_eq_true,if_false] at h;split at h
     ·rename_i b hb;injection h with h
      subst h;have Mq:=rX;rw[hb] at Mq;cases Im:vs.take 1 with
      | nil=>rw[Im] at Mq;cases Mq
      | cons v r=>
       rw[Im] at Mq Ms;cases Mq with
       | cons h1 h2=>
        refine dW (v:=v) ?_ h1;have h0:=Ms 0 v rfl;have:ad.add 0=ad:=by unfold Addr.add;simp
        rw[this] at h0;have hl:=JS (P:=P) (t:=t) h0 Ev;unfold execOp;simp only[hop,hv,Sem.run_bind,hl,Result.andThen_ok,Sem.run_pure]
     ·cases h
    ·cases hq
   ·cases h
 ·cases h
theorem rj {x y:AV} {k:Nat} {v:Value} (h:vK x k=some y) (hv:VR bs w S x v):∃ad:Addr,v=.pointer (some ad)/\VR bs w S y (.pointer (some (ad.add k))):=by
 cases x with
 | ptr o f=>
  injection h with h;subst h
  obtain⟨g,h1,rfl⟩:=hv;exact⟨_,rfl,g,h1,by unfold Addr.add;split<;>simp_all⟩
 | ref t x f=>
  injection h with h;subst h
  obtain⟨b,p,cs,h1,rfl,h2,h3⟩:=hv;exact⟨_,rfl,b,p,cs,h1,by unfold Addr.add;split<;>simp_all [Nat.add_assoc],h2,h3⟩
 | elo o i s f=>
  injection h with h;subst h
  obtain⟨g,n,c,h1,h2,rfl⟩:=hv;exact⟨_,rfl,g,n,c,h1,h2,by unfold Addr.add;split<;>simp_all [Nat.add_assoc]⟩
 | sub o o2 f=>
  injection h with h;subst h
  obtain⟨g,p,h1,rfl⟩:=hv;exact⟨_,rfl,g,p,h1,by unfold Addr.add;split<;>simp_all [Nat.add_assoc]⟩
 | _=>cases h
end
def MS (P:Program) (s:TypeId) (i:Nat) (x:Option XV):Option XV:=match Q5 P s i,x with
 | some k,some (.one p)=>(vK p k).map .one
 | _,_=>none
def MQ (P:Program) (s:TypeId) (i:Nat) (x:Option XV):Option XV:=match Kj P s i,x with
 | some (k,t),some (.agg cs)=>(LD P t).bind λq=>JV q ((cs.drop k).take q.2)
 | _,_=>none
def UI (P:Program) (H:List aa) (t:TypeId) (x i:Option XV):T XV:=match x,iN i with
 | some (.one (.list ty xs _)),some (_,n,_)=>if(Gw P t).map (·.2)==some (ak.sz (El ty)) then .nd (0<=n/\n<(xs.length:Int)) (.lf (.one (.ref ty (xs.getD n.toNat (sW ty)) 0))) else .bad
 | some (.one (.own o)),some (_,n,_)=>match H[o]? with
  | some (.row ty _ rs)=>if(Gw P t).map (·.2)==some (ak.sz (El ty)) then .nd (0<=n/\n<(rs.length:Int)) (.lf (.one (.elo o n.toNat (ak.sz (El ty)) 0))) else .bad
  | some (.zip o2 _ ty _ _ done _ _)=>if(Gw P t).map (·.2)==some (ak.sz (El ty)) then .nd (n=(done.length:Int)) (.lf (.one (.sub o o2 0))) else .bad
  | _=>.bad
 | some (.one p),some (_,n,true)=>match P.underlying t with
  | some (.array l e)=>match P.info? e with
   | some j=>if 0<=n/\n<(l:Int) then T.op ((vK p (n.toNat*j.size)).map .one) else .bad
   | none=>.bad
  | _=>.bad
 | _,_=>.bad
section
variable {P:Program} {o:Oper} {cx:Cx} {bs:List Value} {w:World} {S:Nat->Prop} {H:List aa} {m:Nat} {env:Env} {a:Act} {bg:Nat}
theorem pN {t:TypeId} {b:Bool} (h:Fw P t=some b) (w:World):(isAgg t).run P w=.ok b w:=by
 unfold Fw at h;cases hd:P.underlying t with
 | none=>rw[hd] at h;cases h
 | some d=>
  rw[hd] at h;injection h with h
  subst h;unfold isAgg;rw[Sem.run_bind,run_underlying hd w];cases d<;>rfl
theorem IS (he:ER m bs w S env a) {s:TypeId} {i:Nat} {x:Operand} (hop:o.op=.fieldAddr s x i) {y:XV} (h:MS P s i (ev env x)=some y):eA P o bs w S a bg (y,none):=by
 unfold MS at h;split at h
 ·rename_i k p hk hp;cases e:vK p k with
  | none=>rw[e] at h;cases h
  | some q=>
   rw[e] at h;injection h with h
   subst h;obtain⟨ad,hv,hr⟩:=rj e (aZ he hp);refine dW (v:=.pointer (some (ad.add k))) ?_ hr;unfold Q5 at hk;split at hk
   ·rename_i fs hu;cases ef:fs[i]? with
    | none=>rw[ef] at hk;cases hk
    | some f=>
     rw[ef] at hk;have hk:((P.info? f.type).bind λj=>if j.size=0 then none else some f.offset)=some k:=hk;cases ei:P.info? f.type with
     | none=>rw[ei] at hk;cases hk
     | some j=>
      rw[ei] at hk;have hk:(if j.size=0 then none else some f.offset)=some k:=hk;split at hk
      ·cases hk
      ·rename_i hj;injection hk with hk
       subst hk;unfold execOp;simp[hop,hv,Instr.fieldAt,Instr.sureAddr,Sem.run_bind,run_underlying hu w,ef,fieldPlace,sizeOf,typeInfo,ei,hj]
   ·cases hk
 ·cases h
theorem IP (he:ER m bs w S env a) {s:TypeId} {i:Nat} {x:Operand} (hop:o.op=.field s x i) {y:XV} (h:MQ P s i (ev env x)=some y):eA P o bs w S a bg (y,none):=by
 unfold MQ at h;split at h
 ·rename_i k t cs hk hp;obtain⟨vs,hv,hf⟩:=aZ he hp;cases e:LD P t with
  | none=>rw[e] at h;cases h
  | some q=>
   rw[e] at h;have h:JV q ((cs.drop k).take q.2)=some y:=h;have rX:=(hf.drop k).take q.2;have hl:=rX.length;unfold Kj at hk;split at hk
   ·rename_i fs hu;cases ef:fs[i]? with
    | none=>rw[ef] at hk;cases hk
    | some f=>
     rw[ef] at hk;injection hk with hk
     injection hk with nJ fb
     subst nJ fb;unfold JV at h;split at h
     ·rename_i hlen;unfold LD at e;split at e
      ·rename_i Ev;cases hi:P.info? f.type with
       | none=>rw[hi] at e;cases e
       | some j=>
        rw[hi] at e;injection e with e
        subst e;simp only[if_true] at h;injection h with h
        subst h;refine dW (v:=.agg ((vs.drop f.offset).take j.size).toArray) ?_ (CR.agg rX);unfold execOp;simp[hop,hv,Instr.field,Sem.run_bind,run_underlying hu w,ef,part,asAgg,pN Ev,sizeOf,typeInfo,hi]
      ·rename_i Ev;injection e with e
       subst e;simp only[Bool.false_eq_true,if_false] at h;split at h
       ·rename_i b hb;injection h with h
        subst h;rw[hb] at rX;cases Im:(vs.drop f.offset).take 1 with
        | nil=>rw[Im] at rX;cases rX
        | cons v r=>
         rw[Im] at rX;cases rX with
         | cons h1 h2=>
          refine dW (v:=v) ?_ h1;have dE:vs[f.offset]?=some v:=by
           have:((vs.drop f.offset).take 1)[0]?=some v:=by rw[Im];rfl
           rw[List.getElem?_take,if_pos (by omega),List.getElem?_drop] at this;simpa using this
          unfold execOp;simp[hop,hv,Instr.field,Sem.run_bind,run_underlying hu w,ef,part,asAgg,pN Ev,dE]
       ·cases h
      ·cases e
     ·cases h
   ·cases hk
 ·cases h
end
def dD (n:Int):Prop:= -9223372036854775808<=n/\n<=9223372036854775807
def Xa (k:BinOp) (x y:Int):Option Int:=match k with
 | .add=>some (x+y)
 | .sub=>some (x-y)
 | .mul=>some (x*y)
 | _=>none
def W9 (k:BinOp) (x y:Option XV):T XV:=match iN x,iN y with
 | some (.i64,n,false),some (.i64,q,_)|some (.i64,n,_),some (.i64,q,false)=>match Xa k n q with
  | some r=>.nd (dD r) (.lf (.one (.sym (.int .i64 r))))
  | none=>.bad
 | _,_=>.bad
def Hw (H:List aa) (x:Option XV):Option XV:=match x with
 | some (.one (.list _ xs _))=>some (.one (.sym (.int .i64 (xs.length:Int))))
 | some (.one (.own o))=>match H[o]? with
  | some (.row _ _ rs)=>some (.one (.sym (.int .i64 (rs.length:Int))))
  | _=>none
 | _=>none
def Tv (x:Option XV) (i:Nat):Option XV:=match x with
 | some (.tup l)=>match l[i]? with
  | some (true,cs)=>some (.agg cs)
  | some (false,[a])=>some (.one a)
  | _=>none
 | _=>none
section
variable {P:Program} {o:Oper} {cx:Cx} {bs:List Value} {w:World} {S:Nat->Prop} {H:List aa} {m:Nat} {env:Env} {a:Act} {bg:Nat}
theorem eA.of_hit {t:T XV} {r:XV×Option aa} (h:(t.bind λx=>.lf (x,none)).hit r) (hk:∀x,t.hit x->eA P o bs w S a bg (x,none)):eA P o bs w S a bg r:=by
 obtain⟨x,h1,h2⟩:=T.hit_bind h;have h2:(x,none)=r:=h2;rw[<-h2];exact hk x h1
theorem d9 (he:ER m bs w S env a) {x:Operand} {k:IntKind} {n:Int} {c:Bool} (h:iN (ev env x)=some (k,n,c)):a.eval x=.int k n:=by
 unfold iN at h;split at h
 ·rename_i j q e;injection h with h;injection h with h1 h;injection h with h2 h3
  subst h1 h2;exact(aZ he e).1
 ·rename_i j q e;injection h with h;injection h with h1 h;injection h with h2 h3
  subst h1 h2;exact(aZ he e).1
 ·cases h
theorem qP {t:TypeId} {k:Nat} (h:((Gw P t).map (·.2)==some k)=true):∃e i,P.underlying t=some (.slice e)/\P.info? e=some i/\i.size=k:=by
 unfold Gw at h;cases hu:P.underlying t with
 | none=>rw[hu] at h;cases h
 | some d=>
  rw[hu] at h;cases d with
  | slice e=>
   cases hi:P.info? e with
   | none=>simp[hi] at h
   | some i=>exact⟨e,i,rfl,hi,by simpa[hi] using h⟩
  | _=>cases h
theorem LP (hs:HS cx bs w S H) (he:ER m bs w S env a) {t:TypeId} {x i:Operand} (hop:o.op=.indexAddr t x i) {y:XV} (h:(UI P H t (ev env x) (ev env i)).hit y):eA P o bs w S a bg (y,none):=by
 unfold UI at h;split at h
 ·rename_i ty xs _ k n c hx hi;split at h
  ·rename_i dh;obtain⟨⟨h0,h1⟩,h⟩:=h;have h:XV.one _=y:=h;subst h;obtain⟨e,j,hu,hj,hsz⟩:=qP dh;obtain⟨A,q,c2,hv,hr,_⟩:=aZ he hx;have hlt:n.toNat<q:=by have:=hr.len;omega
   obtain⟨g,p,x',cs,rfl,hS,hx',Ma,hc⟩:=hr.at_ hlt;refine dW (v:=.pointer (some ⟨g,p+n.toNat*ak.sz (El ty),none⟩)) ?_ ⟨g,p+n.toNat*ak.sz (El ty),cs,hS,rfl,?_,?_⟩
   ·have yE:=d9 he hi;have hn:n<(q:Int):=by have:=hr.len;omega
    unfold execOp;simp[hop,hv,yE,Instr.indexAt,asIntOf,Sem.run_bind,run_underlying hu w,h0,hn,sizeOf,typeInfo,hj,hsz,Addr.add]
   ·rw[List.getD_eq_getElem?_getD,hx'];exact Ma
   ·intro j' u hj';have:=hc j' u hj';have iz:(⟨g,p+n.toNat*ak.sz (El ty),none⟩:Addr).add j'=⟨g,p+(n.toNat*ak.sz (El ty)+j'),none⟩:=by unfold Addr.add;split<;>simp_all [Nat.add_assoc]
    rw[iz];exact this
  ·exact h.elim
 ·rename_i ob k n c hx hi;split at h
  ·rename_i ty e' rs hH;split at h
   ·rename_i dh;obtain⟨⟨h0,h1⟩,h⟩:=h;have h:XV.one _=y:=h;subst h;obtain⟨e,j,hu,hj,hsz⟩:=qP dh;obtain⟨hb,A,q,c2,hv⟩:=aZ he hx;have ho:=hs.o ob _ _ hH hb;have ho:Own (α:=El ty) w S 0 e' (a.eval x) rs.reverse:=ho;obtain⟨cs,⟨_,h2⟩,_⟩:=ho;rcases h2 with⟨_,hn⟩|⟨g,cap,cur,fW,_,_,hcap,_⟩
    ·rw[List.length_reverse] at hn;omega
    ·rw[fW] at hb;refine dW (v:=.pointer (some ⟨g,n.toNat*ak.sz (El ty),none⟩)) ?_ ⟨g,_,_,hb,(by rw[List.length_reverse];omega),rfl⟩;have yE:=d9 he hi;have hn:n<(rs.reverse.length:Int):=by rw[List.length_reverse];exact h1
     unfold execOp;simp[hop,fW,yE,Instr.indexAt,asIntOf,Sem.run_bind,run_underlying hu w,h0,h1,sizeOf,typeInfo,hj,hsz,Addr.add];exact λh=>h.symm
   ·exact h.elim
  ·rename_i o2 e' ty tn dQ done cur rest hH;split at h
   ·rename_i dh;obtain⟨h0,h⟩:=h;have h:XV.one _=y:=h;subst h;obtain⟨e,j,hu,hj,hsz⟩:=qP dh;obtain⟨hb,A,q,c2,hv⟩:=aZ he hx;obtain⟨aO,ho,hz,hl,u,nG,kR,hv3⟩:=hs.o ob _ _ hH hb;have hlt:=hl;have ho:Own (α:=fl (ak.sz (El ty))) w S 0 e' (a.eval x) aO:=ho;obtain⟨cs,⟨_,h2⟩,_⟩:=ho;rcases h2 with⟨_,hn⟩|⟨g,cap,cur,fW,_⟩
    ·rw[hz.1] at hn;omega
    ·rw[hv3 g _ _ fW] at nG;refine dW (v:=.pointer (some ⟨g,done.length*ak.sz (El ty)+0,none⟩)) ?_ ⟨g,_,nG,rfl⟩;have yE:=d9 he hi;have h1:done.length<aO.length:=by rw[hz.1];exact hlt
     unfold execOp;simp[hop,fW,yE,Instr.indexAt,asIntOf,Sem.run_bind,run_underlying hu w,h0,h1,sizeOf,typeInfo,hj,hsz,Addr.add];exact λh=>h.symm
   ·exact h.elim
  ·exact h.elim
 ·rename_i ob _ n _ _ hx hi;split at h
  ·rename_i l e hu;split at h
   ·rename_i j hj;split at h
    ·rename_i hb;cases hq:vK ob (n.toNat*j.size) with
     | none=>rw[hq] at h;exact absurd (T.hit_op h) (by simp)
     | some z=>
      rw[hq] at h;obtain rfl:=Option.some.inj (T.hit_op h);obtain⟨ad,hv,hz⟩:=rj hq (aZ he hx);refine dW (v:=.pointer (some (ad.add (n.toNat*j.size)))) ?_ hz;have yE:=d9 he hi;unfold execOp;simp[hop,hv,yE,Instr.indexAt,Instr.sureAddr,asIntOf,Sem.run_bind,run_underlying hu w,hb.1,hb.2,sizeOf,typeInfo,hj]
    ·exact h.elim
   ·exact h.elim
  ·exact h.elim
 ·exact h.elim
theorem Nn (he:ER m bs w S env a) {k:BinOp} {t u:TypeId} {x y:Operand} (hop:o.op=.binOp k t x y u) {z:XV} (h:(W9 k (ev env x) (ev env y)).hit z):eA P o bs w S a bg (z,none):=by
 have key:∀{n q:Int} {c c':Bool},iN (ev env x)=some (.i64,n,c)->iN (ev env y)=some (.i64,q,c')->(match Xa k n q with|some r=>T.nd (dD r) (.lf (XV.one (.sym (.int .i64 r))))|none=>.bad).hit z->eA P o bs w S a bg (z,none):=by
  intro n q c c' hx hy h;cases e:Xa k n q with
  | none=>rw[e] at h;exact h.elim
  | some r=>
   rw[e] at h;obtain⟨hr,h⟩:=h;have h:XV.one _=z:=h;subst h;refine dW (v:=.int .i64 r) ?_ ⟨rfl,rfl⟩;have hx':=d9 he hx;have Br:=d9 he hy;have hw:IntKind.i64.wrap r=r:=by obtain⟨h1,h2⟩:=hr;rw[IntKind.wrap_i64]<;>omega
   unfold execOp;cases k<;>first|(injection e with e;subst e;simp[hop,hx',Br,eqGuard,binOp,Op.intArith,hw])|cases e
 unfold W9 at h;split at h
 ·rename_i n q c hx hy;exact key hx hy h
 ·rename_i n c q _ hx hy;exact key hx hy h
 ·exact h.elim
theorem yp {x:Operand} {t:TypeId} {ts:Array TypeId} (hop:o.op=.call { callee:=.builtin .len,args:=#[x],argTypes:=ts }) (ht:ts[0]?=some t) (hu:((P.underlying t).map λd=>match d with|.slice _=>true|_=>false)=some true) {A:Option Addr} {n c:Nat} (hv:a.eval x=.slice A n c):(execOp a.eval o).run P w=.ok (.value (.int .i64 (n:Int))) w:=by
 cases hd:P.underlying t with
 | none=>rw[hd] at hu;cases hu
 | some d=>
  rw[hd] at hu;cases d with
  | slice e=>
   unfold execOp;simp[hop,resolve,invoke,builtin,Builtin.len_,ht,hv,Sem.run_bind,run_underlying hd w,goInt]
  | _=>cases hu
theorem Hu (hs:HS cx bs w S H) (he:ER m bs w S env a) {x:Operand} {t:TypeId} {ts:Array TypeId} (hop:o.op=.call { callee:=.builtin .len,args:=#[x],argTypes:=ts }) (ht:ts[0]?=some t) (hu:((P.underlying t).map λd=>match d with|.slice _=>true|_=>false)=some true) {y:XV} (h:Hw H (ev env x)=some y):eA P o bs w S a bg (y,none):=by
 have key:∀{A:Option Addr} {n c:Nat},a.eval x=.slice A n c->(execOp a.eval o).run P w=.ok (.value (.int .i64 (n:Int))) w:=yp hop ht hu;unfold Hw at h;split at h
 ·rename_i ty xs _ hx;injection h with h
  subst h;obtain⟨A,n,c,hv,hr,_⟩:=aZ he hx;refine dW (key hv) ⟨by rw[hr.len],rfl⟩
 ·rename_i ob hx;split at h
  ·rename_i ty e rs hH;injection h with h
   subst h;obtain⟨hb,A,n,c,hv⟩:=aZ he hx;have ho:Own (α:=El ty) w S 0 e (a.eval x) rs.reverse:=hs.o ob _ _ hH hb;obtain⟨A',n',c',DV,hn⟩:=ho.slice;refine dW (key DV) ⟨by rw[hn,List.length_reverse],rfl⟩
  ·cases h
 ·cases h
def rO:Option XV->Bool
 | some (.one (.val (.slice none 0 0)))=>true
 | _=>false
def G4 (k:BinOp) (x y:Option XV):Option XV:=match k,x,rO y with
 | .eql,some (.one (.list _ xs true)),true=>some (.one (.sym (.bool xs.isEmpty)))
 | .neq,some (.one (.list _ xs true)),true=>some (.one (.sym (.bool !xs.isEmpty)))
 | _,_,_=>none
theorem Aw (he:ER m bs w S env a) {x:Operand} (h:rO (ev env x)=true):a.eval x=.slice none 0 0:=by
 unfold rO at h;split at h
 ·rename_i e;exact(aZ he e).1
 ·cases h
theorem G3 (he:ER m bs w S env a) {k:BinOp} {t u:TypeId} {x y:Operand} (hop:o.op=.binOp k t x y u) (hu:((P.underlying t).map λd=>match d with|.slice _=>true|_=>false)=some true) {z:XV} (h:G4 k (ev env x) (ev env y)=some z):eA P o bs w S a bg (z,none):=by
 have key:∀{ty:Ty} {xs:List (El ty)},ev env x=some (.one (.list ty xs true))->rO (ev env y)=true->∃A n c,a.eval x=.slice A n c/\A.isNone=xs.isEmpty/\a.eval y=.slice none 0 0:=by
  intro ty xs hx hy;obtain⟨A,n,c,hv,hr,hq⟩:=aZ he hx;refine⟨A,n,c,hv,?_,Aw he hy⟩;cases xs with
  | nil=>rw[hq rfl rfl];rfl
  | cons x l=>
   obtain⟨h1,_,_,h3⟩:=hr;obtain⟨b,p,rfl,_⟩:=h3 (by rw[h1];exact Nat.succ_pos _);rfl
 have run:∀{A:Option Addr} {n c:Nat},(Op.equal t (.slice A n c) (.slice none 0 0)).run P w=.ok A.isNone w:=by
  intro A n c;cases hd:P.underlying t with
  | none=>rw[hd] at hu;cases hu
  | some d=>
   rw[hd] at hu;cases d with
   | slice e=>
    unfold Op.equal Op.maxDepth Op.equalIn;rw[Sem.run_bind,run_underlying hd w];cases A<;>rfl
   | _=>cases hu
 unfold G4 at h;split at h
 ·rename_i ty xs hx hy;injection h with h
  subst h;obtain⟨A,n,c,h1,h2,h3⟩:=key hx hy;refine dW (v:=.bool xs.isEmpty) ?_ ⟨rfl,rfl⟩;unfold execOp;simp only[hop,h1,h3,eqGuard,ite_self,binOp,Sem.run_bind,run,h2,Result.andThen_ok,Sem.run_pure]
 ·rename_i ty xs hx hy;injection h with h
  subst h;obtain⟨A,n,c,h1,h2,h3⟩:=key hx hy;refine dW (v:=.bool !xs.isEmpty) ?_ ⟨rfl,rfl⟩;unfold execOp;simp only[hop,h1,h3,eqGuard,ite_self,binOp,Sem.run_bind,run,h2,Result.andThen_ok,Sem.run_pure]
 ·cases h
theorem KC (he:ER m bs w S env a) {x:Operand} {i:Nat} (hop:o.op=.extract x i) {y:XV} (h:Tv (ev env x) i=some y):eA P o bs w S a bg (y,none):=by
 unfold Tv at h;split at h
 ·rename_i l hx;obtain⟨vs,hv,hf⟩:=aZ he hx;have key:∀{v:Value},vs[i]?=some v->(execOp a.eval o).run P w=.ok (.value v) w:=by
   intro v hg;unfold execOp;simp[hop,hv,Instr.extract,hg]
  split at h
  ·rename_i cs e;injection h with h
   subst h;obtain⟨v,h1,h2⟩:=hf.get e;exact dW (key h1) h2
  ·rename_i b e;injection h with h
   subst h;obtain⟨v,h1,h2⟩:=hf.get e;obtain⟨b',e2,h2⟩:=h2;injection e2 with e2
   subst e2;exact dW (key h1) h2
  ·cases h
 ·cases h
theorem Dg (he:ER m bs w S env a) {x:Operand} (hop:o.op=.move x\/o.op=.assign x) {y:XV} (h:ev env x=some y):eA P o bs w S a bg (y,none):=by
 refine dW (v:=a.eval x) ?_ (aZ he h);unfold execOp;rcases hop with hop|hop<;>simp[hop]
def Ut (x:Option XV):Option XV:=match x with
 | some (.one p)=>(vK p 0).map λ_=>.one p
 | _=>none
theorem Ls (he:ER m bs w S env a) {x:Operand} (hop:o.op=.nilCheck x) {y:XV} (h:Ut (ev env x)=some y):eA P o bs w S a bg (y,none):=by
 unfold Ut at h;split at h
 ·rename_i p hp;cases e:vK p 0 with
  | none=>rw[e] at h;cases h
  | some q=>
   rw[e] at h;injection h with h
   subst h;have hv:=aZ he hp;obtain⟨ad,h1,_⟩:=rj e hv;refine dW (v:=a.eval x) ?_ hv;unfold execOp;simp[hop,h1]
 ·cases h
end
def XV.cells:XV->Option (List AV)
 | .one a=>some [a]
 | .agg cs=>some cs
 | .tup _=>none
def Ba (t:TypeId) (bg:Nat) (x:Option XV):Option (XV×Option aa):=(x.bind XV.cells).map λcs=>(.one (.ptr bg 0),some (.cells t cs))
def BC (P:Program) (t:TypeId):Option XV:=((P.info? t).bind (·.zero)).bind (Lw true)
def iS (place:Nat->Option (Nat×Nat)) (cells:List AV):List (Nat×List AV)->Option (List AV)
 | []=>some cells
 | (i,v)::rest=>match place i with
  | none=>none
  | some (off,size)=>if v.length≠size||decide (off+v.length>cells.length) then none else iS place ((v.zipIdx).foldl (λcs (p:AV×Nat)=>cs.set (off+p.2) p.1) cells) rest
def gg (env:Env):List (Nat×Operand)->Option (List (Nat×List AV))
 | []=>some []
 | (i,x)::l=>match (ev env x).bind XV.cells,gg env l with
  | some cs,some r=>some ((i,cs)::r)
  | _,_=>none
def mI (P:Program) (t:TypeId):Option (List AV):=((P.info? t).bind (·.zero)).bind λz=>if z.cells.all (·.oneCell') then some (z.cells.toList.map .val) else none
def Nk (P:Program) (t:TypeId) (ps:Option (List (Nat×List AV))):Option XV:=match P.underlying t,mI P t,ps with
 | some (.array _ e),some z,some ps=>(P.info? e).bind λie=>(iS (λi=>some (i*ie.size,ie.size)) z ps).map .agg
 | some (.struct fields),some z,some ps=>(fields.toList.mapM (λf=>(P.info? f.type).map λi=>(f.offset,i.size))).bind λplaces=>(iS (places.toArray[·]?) z ps).map .agg
 | _,_,_=>none
def mS (ty:Ty) (sz:Nat):Nat->List AV->Option (List (El ty))
 | 0,[]=>some []
 | 0,_=>none
 | n+1,cs=>match un ty (cs.take sz),mS ty sz n (cs.drop sz) with
  | some x,some l=>some (x::l)
  | _,_=>none
def zO (P:Program) (ty:TypeId->Option Ty) (bg:Nat) (t:TypeId) (n:Nat) (ps:Option (List (Nat×List AV))):Option (XV×Option aa):=match Gw P t,ps with
 | some (e,sz),some ps=>match ty e,mI P e with
  | some y,some z=>if sz=ak.sz (El y)/\sz=z.length/\0<n*sz/\n*sz<=16777216 then ((iS (λi=>some (i*sz,sz)) (List.replicate n z).flatten ps).bind (mS y sz n)).map λxs=>(.one (.own bg),some (.row y e xs.reverse))
   else none
  | _,_=>none
 | _,_=>none
section
variable {α β:Type} {R:α->β->Prop}
theorem F2.set {l:List α} {m:List β} (h:F2 R l m) {x:α} {y:β} (hr:R x y):∀i,F2 R (l.set i x) (m.set i y):=by
 induction h with
 | nil=>intro i;exact .nil
 | cons h k ih=>intro i;cases i with
  | zero=>exact .cons hr k
  | succ i=>exact .cons h (ih i)
theorem F2.fold {us:List α} {vs:List β} (h:F2 R us vs) (off:Nat):∀(k:Nat) {l:List α} {m:List β},F2 R l m->F2 R ((us.zipIdx k).foldl (λcs (p:α×Nat)=>cs.set (off+p.2) p.1) l) ((vs.zipIdx k).foldl (λcs (p:β×Nat)=>cs.set (off+p.2) p.1) m):=by
 induction h with
 | nil=>intro k l m h;exact h
 | cons h _ ih=>intro k l m hl;exact ih (k+1) (hl.set h _)
theorem F2.replicate {x:List α} {y:List β} (h:F2 R x y):∀n,F2 R (List.replicate n x).flatten (List.replicate n y).flatten
 | 0=>.nil
 | n+1=>by rw[List.replicate_succ,List.replicate_succ,List.flatten_cons,List.flatten_cons];exact h.append (F2.replicate h n)
end
theorem foldl_toList (off:Nat):∀(l:List (Value×Nat)) (cs:Array Value),(l.foldl (λcs (p:Value×Nat)=>cs.setIfInBounds (off+p.2) p.1) cs).toList=l.foldl (λcs (p:Value×Nat)=>cs.set (off+p.2) p.1) cs.toList
 | [],_=>rfl
 | p::l,cs=>by rw[List.foldl_cons,List.foldl_cons,foldl_toList off l,Array.toList_setIfInBounds]
section
variable {P:Program} {o:Oper} {cx:Cx} {bs:List Value} {w:World} {S:Nat->Prop} {H:List aa} {m:Nat} {env:Env} {a:Act} {bg:Nat}
theorem XV.cells_ok {x:XV} {cs:List AV} {v:Value} (h:XV.cells x=some cs) (hx:XR bs w S x v):F2 (VR bs w S) cs v.cells.toList:=by
 cases x with
 | one b=>
  injection h with h
  subst h;have h1:=VR.one hx;have:v.cells=#[v]:=by cases v<;>first|rfl|cases h1
  rw[this];exact .cons hx .nil
 | agg ds=>
  injection h with h
  subst h;obtain⟨vs,rfl,hf⟩:=hx;simpa[Value.cells] using hf
 | tup l=>cases h
theorem QU (hs:HS cx bs w S H) {t:TypeId} {cs:List AV} {v:Value} (hr:(execOp a.eval o).run P w=.ok (.value (.pointer (some ⟨w.heap.size,0,none⟩))) (w.alloc (.cells v.cells t))) (hf:F2 (VR bs w S) cs v.cells.toList):eA P o bs w S a bg (.one (.ptr bg 0),some (.cells t cs)):=by
 intro K Q h;unfold Oper.wp;rw[hr,Oper.upon_value];have hb:Below w.heap.size w (w.alloc (.cells v.cells t)):=iZ _ _;refine h _ _ S (.pointer (some ⟨w.heap.size,0,none⟩)) hb (λ_ h=>h) (λ_ h=>.inl h) (λaD ha hn=>⟨⟨w.heap.size,hn rfl,rfl⟩,λx hx=>?_⟩) λx hx b hbk=>?_
 ·injection hx with hx
  subst hx;exact⟨w.heap.size,v.cells.toList,rfl,bS.new _ _ _,hf.mono λ_ _ q=>q.keep (λ_ h=>h) ((af.of_below hb).sub λb q=>(hs.s b q).1) ha⟩
 ·injection hx with hx
  subst hx;injection hbk with hbk
  subst hbk;exact⟨Nat.le_refl _,λq=>Nat.lt_irrefl _ (hs.s _ q).1⟩
theorem Jc (hs:HS cx bs w S H) (he:ER m bs w S env a) {t:TypeId} {x:Operand} (hop:o.op=.box t x) {r:XV×Option aa} (h:Ba t bg (ev env x)=some r):eA P o bs w S a bg r:=by
 unfold Ba at h;cases e:ev env x with
 | none=>rw[e] at h;cases h
 | some y=>
  rw[e] at h;cases e2:XV.cells y with
  | none=>simp[e2] at h
  | some cs=>
   have h':some (XV.one (.ptr bg 0),some (aa.cells t cs))=some r:=by simpa[e2] using h
   injection h' with h'
   subst h';refine QU hs (v:=a.eval x) ?_ (XV.cells_ok e2 (aZ he e));unfold execOp;simp[hop,Instr.box,newVar,newRow]
theorem Aj {c:Bool} {v:Value} {x:XV} {cs:List AV} (h:Lw c v=some x) (hc:XV.cells x=some cs):F2 (VR bs w S) cs v.cells.toList:=XV.cells_ok hc (vR h)
theorem Jo (hs:HS cx bs w S H) {t:TypeId} (hop:o.op=.alloc t) {r:XV×Option aa} (h:Ba t bg (BC P t)=some r):eA P o bs w S a bg r:=by
 unfold Ba BC at h;cases hi:P.info? t with
 | none=>rw[hi] at h;cases h
 | some i=>
  cases hz:i.zero with
  | none=>simp[hi,hz] at h
  | some z=>
   cases hm:Lw true z with
   | none=>simp[hi,hz,hm] at h
   | some y=>
    cases e2:XV.cells y with
    | none=>simp[hi,hz,hm,e2] at h
    | some cs=>
     have h':some (XV.one (.ptr bg 0),some (aa.cells t cs))=some r:=by simpa[hi,hz,hm,e2] using h
     injection h' with h'
     subst h';refine QU hs (v:=z) ?_ (Aj hm e2);unfold execOp;simp[hop,Instr.alloc,zeroValue,typeInfo,hi,hz,newVar,newRow]
theorem gv (he:ER m bs w S env a):∀{l:List (Nat×Operand)} {r:List (Nat×List AV)},gg env l=some r->F2 (λp q=>p.1=q.1/\F2 (VR bs w S) p.2 q.2.cells.toList) r (l.map λp=>(p.1,a.eval p.2))
 | [],r,h=>by injection h with h;subst h;exact .nil
 | (i,x)::l,r,h=>by
  unfold gg at h;split at h
  ·rename_i cs r' h1 h2;injection h with h
   subst h;cases e:ev env x with
   | none=>rw[e] at h1;cases h1
   | some y=>
    rw[e] at h1;exact .cons ⟨rfl,XV.cells_ok h1 (aZ he e)⟩ (gv he h2)
  ·cases h
theorem kG {place:Nat->Option (Nat×Nat)}:∀{ps:List (Nat×List AV)} {qs:List (Nat×Value)} {cs r:List AV} {vs:Array Value},iS place cs ps=some r->F2 (λp q=>p.1=q.1/\F2 (VR bs w S) p.2 q.2.cells.toList) ps qs->F2 (VR bs w S) cs vs.toList->∃us,Instr.fill place vs qs=some us/\F2 (VR bs w S) r us.toList
 | [],_,cs,r,vs,h,hp,hc=>by cases hp;injection h with h;subst h;exact⟨vs,rfl,hc⟩
 | (i,v)::ps,_,cs,r,vs,h,hp,hc=>by
  cases hp with
  | @cons _ q _ qs h1 h2=>
   obtain⟨j,u⟩:=q;obtain⟨e,h1⟩:=h1;have e:i=j:=e;subst e;unfold iS at h;cases AC:place i with
   | none=>rw[AC] at h;cases h
   | some p=>
    obtain⟨off,size⟩:=p;rw[AC] at h;simp only at h;split at h
    ·cases h
    ·rename_i It;have hl:v.length=u.cells.size:=h1.length.trans Array.length_toList;have hl2:cs.length=vs.size:=hc.length.trans Array.length_toList;obtain⟨us,h3,h4⟩:=kG (vs:=u.cells.zipIdx.foldl (λcs (p:Value×Nat)=>cs.setIfInBounds (off+p.2) p.1) vs) h h2 (by
      rw[<-Array.foldl_toList,foldl_toList,Array.toList_zipIdx];exact h1.fold off 0 hc)
     refine⟨us,?_,h4⟩;unfold Instr.fill;rw[AC];simp only;rw[if_neg (by rw[<-hl,<-hl2];simpa using It)];exact h3
theorem je {t:TypeId} {z:List AV} (h:mI P t=some z):∃i zv,P.info? t=some i/\i.zero=some zv/\F2 (VR bs w S) z zv.cells.toList:=by
 unfold mI at h;cases hi:P.info? t with
 | none=>rw[hi] at h;cases h
 | some i=>
  cases hz:i.zero with
  | none=>simp[hi,hz] at h
  | some zv=>
   rw[hi] at h;have h:(if zv.cells.all (·.oneCell') then some (zv.cells.toList.map AV.val) else none)=some z:=by simpa[hz] using h
   split at h
   ·rename_i h1;injection h with h
    subst h;exact⟨i,zv,rfl,hz,ru (c:=true) λv hv=>Array.all_eq_true'.1 h1 v (by simpa using hv)⟩
   ·cases h
theorem Jg (he:ER m bs w S env a) {t:TypeId} {ps:Array (Nat×Operand)} (hop:o.op=.build t ps) {y:XV} (h:Nk P t (gg env ps.toList)=some y):eA P o bs w S a bg (y,none):=by
 have fin:∀{cells:Array Value} {r:List AV},P.built t (ps.map λ(i,x)=>(i,a.eval x)).toList=some cells->F2 (VR bs w S) r cells.toList->XV.agg r=y->eA P o bs w S a bg (y,none):=by
  intro cells r hb hf e;subst e;refine dW (v:=.agg cells) ?_ ⟨cells.toList,rfl,hf⟩;unfold execOp;simp only[hop,Sem.run_bind,run_build w t _ cells hb,Result.andThen_ok,Sem.run_pure]
 have Iu:(ps.map λ(i,x)=>(i,a.eval x)).toList=ps.toList.map λp=>(p.1,a.eval p.2):=by rw[Array.toList_map]
 unfold Nk at h;split at h
 ·rename_i n e z NO hu hz hp;obtain⟨i,zv,hi,ew,hf⟩:=je (bs:=bs) (w:=w) (S:=S) hz;cases Vz:P.info? e with
  | none=>rw[Vz] at h;cases h
  | some ie=>
   rw[Vz] at h;cases pT:iS (λi=>some (i*ie.size,ie.size)) z NO with
   | none=>simp[pT] at h
   | some r=>
    have h:XV.agg r=y:=by simpa[pT] using h
    obtain⟨us,h1,h2⟩:=kG pT (gv he hp) hf;refine fin (cells:=us) (r:=r) ?_ h2 h;unfold Program.built;simp only[Iu,hi,hu,ew,Vz];exact h1
 ·rename_i fs z NO hu hz hp;obtain⟨i,zv,hi,ew,hf⟩:=je (bs:=bs) (w:=w) (S:=S) hz;cases AC:fs.toList.mapM (λf=>(P.info? f.type).map λi=>(f.offset,i.size)) with
  | none=>rw[AC] at h;cases h
  | some places=>
   rw[AC] at h;cases pT:iS (places.toArray[·]?) z NO with
   | none=>
    have h:(iS (places.toArray[·]?) z NO).map XV.agg=some y:=h;rw[pT] at h;cases h
   | some r=>
    have h:(iS (places.toArray[·]?) z NO).map XV.agg=some y:=h;rw[pT] at h;injection h with h
    obtain⟨us,h1,h2⟩:=kG pT (gv he hp) hf;refine fin (cells:=us) (r:=r) ?_ h2 h;unfold Program.built;simp only[Iu,hi,hu,ew,AC];exact h1
 ·cases h
theorem ta {ty:Ty} {sz:Nat}:∀{n:Nat} {cs:List AV} {vs:List Value} {xs:List (El ty)},mS ty sz n cs=some xs->F2 (VR bs w S) cs vs->Flat w S vs xs/\xs.length=n
 | 0,[],_,xs,h,hf=>by cases hf;injection h with h;subst h;exact⟨.nil,rfl⟩
 | 0,_::_,_,xs,h,_=>by cases h
 | n+1,cs,vs,xs,h,hf=>by
  unfold mS at h;split at h
  ·rename_i x l h1 h2;injection h with h
   subst h;obtain⟨q1,q2⟩:=ta h2 (hf.drop sz);have:=Flat.cons (gQ h1 (hf.take sz)) q1;rw[List.take_append_drop] at this;exact⟨this,by simp[q2]⟩
  ·cases h
theorem lS (z:List Value) (hz:0<z.length) (n:Nat):((Array.range (n*z.length)).map (z.toArray[·%z.toArray.size]!)).toList=(List.replicate n z).flatten:=by
 apply List.ext_getElem?;intro i;rw[Array.toList_map,Array.toList_range,List.getElem?_map];by_cases hi:i<n*z.length
 ·rw[List.getElem?_range hi];have h1:i/z.length<n:=Nat.div_lt_of_lt_mul (by rw[Nat.mul_comm];exact hi);have h2:i%z.length<z.length:=Nat.mod_lt _ hz;have h3:i=i/z.length*z.length+i%z.length:=by rw[Nat.mul_comm];exact(Nat.div_add_mod _ _).symm
  have key:∀(n q r:Nat),q<n->r<z.length->(List.replicate n z).flatten[q*z.length+r]?=z[r]?:=by
   intro n;induction n with
   | zero=>intro q r h;omega
   | succ n ih=>
    intro q r hq hr;rw[List.replicate_succ,List.flatten_cons];cases q with
    | zero=>rw[Nat.zero_mul,Nat.zero_add,List.getElem?_append_left hr]
    | succ q=>
     rw[List.getElem?_append_right (by rw[Nat.succ_mul];omega),show(q+1)*z.length+r-z.length=q*z.length+r by rw[Nat.succ_mul];omega];exact ih q r (by omega) hr
  have hk:=key n (i/z.length) (i%z.length) h1 h2;rw[<-h3] at hk;rw[hk];simp[h2]
 ·rw[List.getElem?_eq_none (by simpa using hi),List.getElem?_eq_none (by simp[List.length_flatten];omega)];rfl
theorem xF (hs:HS cx bs w S H) {ty:TypeId->Option Ty} {t:TypeId} {n:Nat} {ps:Array (Nat×Operand)} {l:List (Nat×List AV)} (wo:F2 (λp q=>p.1=q.1/\F2 (VR bs w S) p.2 q.2.cells.toList) l (ps.toList.map λp=>(p.1,a.eval p.2))) (hop:o.op=.buildSlice t n ps) {r:XV×Option aa} (h:zO P ty bg t n (some l)=some r):eA P o bs w S a bg r:=by
 unfold zO at h;split at h
 ·rename_i e sz NO dh hp;injection hp with hp
  subst hp;split at h
  ·rename_i y z hy hz;split at h
   ·rename_i hc;obtain⟨c1,c2,c3,c4⟩:=hc;cases pT:iS (λi=>some (i*sz,sz)) (List.replicate n z).flatten l with
    | none=>rw[pT] at h;cases h
    | some cs=>
     rw[pT] at h;cases UV:mS y sz n cs with
     | none=>have h:(mS y sz n cs).map _=some r:=h;rw[UV] at h;cases h
     | some xs=>
      have h:(mS y sz n cs).map _=some r:=h;rw[UV] at h;injection h with h
      subst h;obtain⟨i,zv,hi,ew,hf⟩:=je (bs:=bs) (w:=w) (S:=S) hz;unfold Gw at dh;cases hu:P.underlying t with
      | none=>rw[hu] at dh;cases dh
      | some d=>
       rw[hu] at dh;cases d with
       | slice e'=>
        have dh:(P.info? e').map (λi=>(e',i.size))=some (e,sz):=dh;cases FX:P.info? e' with
        | none=>rw[FX] at dh;cases dh
        | some i2=>
         rw[FX] at dh;injection dh with dh
         injection dh with e1 e2
         subst e1;rw[hi] at FX;injection FX with FX
         subst FX;have pP:z.length=zv.cells.size:=hf.length.trans Array.length_toList;have hz0:0<zv.cells.toList.length:=by
          rw[Array.length_toList,<-pP,<-c2];rcases Nat.eq_zero_or_pos sz with q|q
          ·rw[q] at c3;simp at c3
          ·exact q
         have Iu:(ps.map λ(i,x)=>(i,a.eval x)).toList=ps.toList.map λp=>(p.1,a.eval p.2):=by rw[Array.toList_map]
         obtain⟨us,h1,h2⟩:=kG (vs:=(Array.range (n*i.size)).map (zv.cells[·%zv.cells.size]!)) pT wo (by
          have hzs:zv.cells.size=sz:=by omega
          have hq:=lS zv.cells.toList hz0 n;rw[Array.length_toList,show zv.cells.toList.toArray=zv.cells from Array.toArray_toList] at hq;rw[e2,<-hzs,hq];exact hf.replicate n)
         obtain⟨q1,q2⟩:=ta UV h2;have iP:=run_buildSlice (P:=P) w t e' n (ps.map λ(i,x)=>(i,a.eval x)) us i zv hu hi ew (by rw[e2];omega) (by rw[e2];omega) (by rw[Iu,e2];rw[e2] at h1;exact h1);intro K Q hk;unfold Oper.wp execOp;simp only[hop,Sem.run_bind,iP,Result.andThen_ok,Sem.run_pure,Oper.upon_value];have hb:Below w.heap.size w (w.alloc (.cells us e')):=iZ _ _;have aV:af S w (w.alloc (.cells us e')):=(af.of_below hb).sub λb q=>(hs.s b q).1;have hlen:us.toList.length=n*sz:=by rw[q1.length,q2,c1]
         refine hk _ _ S (.slice (some ⟨w.heap.size,0,none⟩) n n) hb (λ_ h=>h) (λ_ h=>.inl h) (λaD ha hn=>⟨⟨hn rfl,_,_,_,rfl⟩,λx hx=>?_⟩) λx hx b hbk=>?_
         ·injection hx with hx
          subst hx;show Own (α:=El y) _ S 0 e' _ xs.reverse.reverse;rw[List.reverse_reverse];have hnm:n<=maxLen:=by
           have:n<=n*sz:=Nat.le_mul_of_pos_right _ (by rcases Nat.eq_zero_or_pos sz with q|q;(· rw[q] at c3;simp at c3);exact q);unfold maxLen;omega
          refine⟨us.toList,⟨by rw[hlen,q2,c1],.inr ⟨w.heap.size,n,us,by rw[q2],Nat.zero_le _,heap_alloc_new w _,by omega,hnm,?_,?_⟩⟩,q1.keep (λ_ h=>h) aV,λb q=>⟨Nat.lt_of_lt_of_le (hs.s b q).1 hb.size,λe=>?_⟩⟩
          ·rw[Array.length_toList] at hlen;rw[hlen,c1]
          ·rw[q2,List.take_of_length_le (by rw[hlen,c1];exact Nat.le_refl _)]
          ·have e':b=w.heap.size:=Option.some.inj e;have:=(hs.s b q).1;omega
         ·injection hx with hx
          subst hx;injection hbk with hbk
          subst hbk;exact⟨Nat.le_refl _,λq=>Nat.lt_irrefl _ (hs.s _ q).1⟩
       | _=>cases dh
   ·cases h
  ·cases h
 ·cases h
theorem GB (hs:HS cx bs w S H) (he:ER m bs w S env a) {ty:TypeId->Option Ty} {t:TypeId} {n:Nat} {ps:Array (Nat×Operand)} (hop:o.op=.buildSlice t n ps) {r:XV×Option aa} (h:zO P ty bg t n (gg env ps.toList)=some r):eA P o bs w S a bg r:=by
 cases hp:gg env ps.toList with
 | none=>rw[hp] at h;unfold zO at h;cases hq:Gw P t<;>rw[hq] at h<;>cases h
 | some l=>rw[hp] at h;exact xF hs (gv he hp) hop h
end
end Go.Proofs.YtichkplomldgiaaGreatDoor
