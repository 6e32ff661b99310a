/- MRun1 MRun2 MSpec -/
import Derived.Test.YtdbpbfglhbiadaaGreatDoorL00
import Derived.Test.YtdbpbfglhbiadaaGreatDoorL26
import Derived.Deep.LoopGhost
set_option maxHeartbeats 8000000
set_option maxRecDepth 100000
namespace Go.Proofs.YtdbpbfglhbiadaaGreatDoor
open Go Go.RowKit
structure anz (P:Program) where
 ty:TypeId→Option Ty
 D:List (Sm P)
 isP:IsP P
def Az (m:Nat) (o:Oper):Bool:=match o.dst with
 | some t=>decide (t<m)
 | none=>true
def yr (Hv Hf:List ai):Prop:=Hv.length=Hf.length∧∀(i:Nat) (x:ai),Hv[i]?=some x→x=.dead∨Hf[i]?=some x
structure ik (P:Program) extends anz P where
 eff:Oper→Bool
 x:Nat→Oper→eu→T eu
 xok:∀(m:Nat) (o:Oper) (cx:Cx) (st dK:eu) (a:Act) (w:World) (K:Act→World→Prop) (Q:Exit→Act→World→Prop),eff o=true→Az m o=true→(x m o st).hit dK→fJ m cx st a w→(∀a' w',fJ m cx dK a' w'→K a' w')→o.wp P a w K Q
 d:Oper→Env→List ai→T (XV×List (Nat×ai))
 dok:∀(m:Nat) (o:Oper) (cx:Cx) (bs:List Value) (S:Nat→Prop) (env:Env) (Hv Hf:List ai) (a:Act) (w:World) (r:XV×List (Nat×ai)) (K:Act→World→Prop) (Q:Exit→Act→World→Prop),eff o=true→yr Hv Hf→HS cx bs w S Hf→ER m bs w S env a→(d o env Hv).hit r→(∀v w' S',HS cx bs w' S' (jl r.2 Hf)→(∀b,S b→S' b)→aA S w w'→XR bs w' S' r.1 v→K (a.put o.dst v) w')→o.wp P a w K Q
def VV (H:List ai):Option ai→List ai
 | none=>H
 | some x=>H++[x]
def yM (o:Oper) (st:eu):eu:=match o.op with
 | .buildSlice _ _ ps=>match lL st.env ps.toList with
  | some l=>(wR l).foldl (fun st i=>Va i st) st
  | none=>st
 | _=>st
def sop {P:Program} (C:ik P) (m:Nat) (o:Oper) (st:eu):T eu:=if Az m o then if C.eff o then C.x m o st else(match o.op with
 | .store t x y=>match o.dst with
  | none=>(T.op (XQ P st.heap t (ev st.env x) (ev st.env y))).bind fun H=>.lf ⟨st.env,H⟩
  | some _=>.bad
 | .call { callee:=.builtin .append,args:=args,argTypes:=ts }=>match args.toList,ts.toList with
  | [s,x],[t,t']=>if t=t' then(agp P C.ty st.heap t (ev st.env s) (ev st.env x)).bind fun r=>.lf ⟨rF st.env o.dst (some r.1),r.2⟩ else .bad
  | _,_=>.bad
 | .mapUpdate t x k v=>match o.dst with
  | none=>(Y4 P C.ty st.heap.length (st.heap++[.dead]) t (ev st.env x) (ev st.env k) (ev st.env v)).bind fun r=>.lf ⟨st.env,jl (r.1++[(st.heap.length,r.2.getD .dead)]) (st.heap++[.dead])⟩
  | some _=>.bad
 | _=>(fun(st:eu)=>(Xi C.ty C.D st.heap.length st.env st.heap o).bind fun r=>.lf ⟨rF st.env o.dst (some r.1),VV st.heap r.2⟩) (yM o st)) else .bad
def zk (st:eu) (o:Oper):eu:=⟨rF st.env o.dst (some (.tup [])),st.heap⟩
def Gs (st:eu) (t:Nat) (b:Bool):eu:=⟨rF st.env (some t) (some (.one (.val (.bool b)))),st.heap⟩
def gdT (m:Nat) (ops:Array Oper) (o:Oper) (f:eu→T eu) (st:eu):T eu:=match o.guard with
 | none=>f st
 | some (j,want)=>if Az m o then(match dL ops j with
  | some t=>match st.env.lookup t with
   | some (.one (.val (.bool b)))=>if b==want then f st else .lf (zk st o)
   | some (.one (.sym (.bool b)))=>.br b (if want then f (Gs st t true) else .lf (zk (Gs st t true) o)) (if want then .lf (zk (Gs st t false) o) else f (Gs st t false))
   | some (.tup [])=>.lf (zk st o)
   | _=>.bad
  | none=>.bad) else .bad
def F5 {P:Program} (C:ik P) (m:Nat) (ops:Array Oper):List Oper→eu→T eu
 | [],st=>.lf st
 | o::l,st=>(gdT m ops o (sop C m o) st).bind (F5 C m ops l)
section
variable {P:Program} {o:Oper} {cx:Cx} {bs bn:List Value} {w w':World} {S:Nat→Prop} {H:List ai} {m:Nat} {env:Env} {a:Act} {cZ:Nat} {K:Act→World→Prop} {Q:Exit→Act→World→Prop} {ops:Array Oper} {C:ik P} {st dK:eu}
theorem U4 (hs:HS cx bs w S st.heap) (he:ER m bs w S st.env a) (hd:Az m o=true) {r:XV×Option ai} (h:jR P o bs w S a st.heap.length r) (hK:∀a' w',fJ m cx ⟨rF st.env o.dst (some r.1),VV st.heap r.2⟩ a' w'→K a' w'):o.wp P a w K Q:=by
 refine h K Q fun v w' S' u hb hS hn hx hf=>hK _ _ ?_;have fV:=hs.grow hb hS hn;have Ai:=he.grow hs hb hS;cases hr:r.2 with
 | none=>
  obtain⟨UD,_⟩:=hx bs (jB.refl _) (by rw[hr];intro h;cases h);exact⟨bs,S',fV,Ai.put o.dst (some r.1) v hd fun y hy=>by obtain rfl:=aal hy;exact UD⟩
 | some x=>
  obtain⟨UD,Cw⟩:=hx (bs++[u]) (oQ _ _) (by rw[hr];intro _;rw[←hs.len,aam (aaJ _)];simp);have nC:=hf x hr;have hj:(st.heap++[ai.dead])[st.heap.length]?=some .dead:=by rw[aam (aaJ _)];simp
  have xG:(bs++[undef])[st.heap.length]?=some undef:=by rw[←hs.len,aam (aaJ _)];simp
  have sg:(st.heap++[ai.dead]).set st.heap.length x=st.heap++[x]:=by rw[acq _ _ (aaJ _)];simp
  have Ae:(bs++[undef]).set st.heap.length u=bs++[u]:=by rw[←hs.len,acq _ _ (aaJ _)];simp
  have j5:=fV.pad.fill (x:=x) (v:=u) hj xG rfl (by rw[Ae];exact Cw x hr) (fun b gD=>⟨.inl (aaM hs.size (nC b gD).1),(nC b gD).2,fun i z q hz hq e=>by
   by_cases hi:i<st.heap.length
   ·rw[aaz hi] at hz;rw[aaz (by rw[hs.len];exact hi)] at hq;have:=(hs.o i z q hz hq).lt e;have:=(nC b gD).1;omega
   ·have h1:=(aag.1 hz).1;have e2:i=st.heap.length:=by simp at h1;omega
    subst e2;rw[hj] at hz;obtain rfl:=aal hz;cases e⟩)
  rw[sg,Ae] at j5;exact⟨bs++[u],S',j5,(Ai.keep (fun _ h=>h) (aA.refl _ _) (oQ _ _)).put o.dst (some r.1) v hd fun y hy=>by obtain rfl:=aal hy;exact UD⟩
theorem Jv:∀(l:List Nat) {st:eu},fJ m cx st a w→fJ m cx (l.foldl (fun st i=>Va i st) st) a w
 | [],_,h=>h
 | i::l,_,h=>Jv l (xP (i:=i) h)
theorem Tx (h:fJ m cx st a w):fJ m cx (yM o st) a w:=by
 unfold yM;split
 ·split
  ·exact Jv _ h
  ·exact h
 ·exact h
theorem NE (h:(sop C m o st).hit dK) (cA:fJ m cx st a w) (hK:∀a' w',fJ m cx dK a' w'→K a' w'):o.wp P a w K Q:=by
 unfold sop at h;split at h
 ·rename_i hd;split at h
  ·rename_i P9;exact C.xok m o cx st dK a w K Q P9 hd h cA hK
  obtain⟨bs,S,hs,he⟩:=cA;split at h
  ·rename_i t x y hop;split at h
   ·rename_i xK;obtain⟨H',h1,h2⟩:=T.hit_bind h;have h2:(⟨st.env,H'⟩:eu)=dK:=h2;subst h2;exact S7 hs he hop xK (T.hit_op h1) fun w' q1 q2=>hK _ _ ⟨bs,S,q1,he.keep (fun _ h=>h) q2 (jB.refl _)⟩
   ·exact h.elim
  ·rename_i args ts hop;split at h
   ·rename_i s x t t' ha ht;split at h
    ·rename_i e;subst e;obtain⟨r,h1,h2⟩:=T.hit_bind h;have h2:(⟨rF st.env o.dst (some r.1),r.2⟩:eu)=dK:=h2;subst h2;have ha':args=#[s,x]:=by rw[←acd (xs:=args),ha]
     have UI:ts=#[t,t]:=by rw[←acd (xs:=ts),ht]
     rw[ha',UI] at hop;exact VM hs he hop h1 fun v w' bn q1 q2 qa q3=>hK _ _ ⟨bn,S,q1,(he.keep (fun _ h=>h) q2 qa).put o.dst (some r.1) v hd fun y hy=>by obtain rfl:=aal hy;exact q3⟩
    ·exact h.elim
   ·exact h.elim
  ·rename_i t x k v hop;split at h
   ·rename_i xK;obtain⟨r,h1,h2⟩:=T.hit_bind h;have h2:(⟨st.env,_⟩:eu)=dK:=h2;subst h2;have hpe:ER m (bs++[undef]) w S st.env a:=he.keep (fun _ h=>h) (aA.refl _ _) (oQ _ _);exact OL hs.pad hpe C.isP hop xK (by rw[aam (aaJ _)];simp) (by rw[←hs.len,aam (aaJ _)];simp) h1 fun w' bn q1 q2 q3 _=>hK _ _ ⟨bn,S,q1,hpe.keep (fun _ h=>h) q2 q3⟩
   ·exact h.elim
  ·have nA:fJ m cx (yM o st) a w:=Tx ⟨bs,S,hs,he⟩;have h:((Xi C.ty C.D (yM o st).heap.length (yM o st).env (yM o st).heap o).bind fun r=>T.lf (⟨rF (yM o st).env o.dst (some r.1),VV (yM o st).heap r.2⟩:eu)).hit dK:=h;generalize yM o st=st1 at h nA;obtain⟨bs,S,hs,he⟩:=nA;obtain⟨r,h1,h2⟩:=T.hit_bind h;have h2:(⟨rF st1.env o.dst (some r.1),VV st1.heap r.2⟩:eu)=dK:=h2;subst h2;exact U4 hs he hd (B6 C.isP hs he h1) hK
 ·exact h.elim
theorem ER.lit (he:ER m bs w S env a) {t:Nat} {y:XV} {v:Value} (hv:a.tmps[t]?=some v) (hx:XR bs w S y v):ER m bs w S (rF env (some t) (some y)) a:=by
 refine⟨he.d,he.s,fun u z hz=>?_⟩;rcases aaP.1 hz with e|hz
 ·injection e with e1 e2
  subst e1 e2;exact⟨v,hv,hx⟩
 ·exact he.k u z (acO.1 hz).1
theorem fJ.lit (h:fJ m cx st a w) {t:Nat} {b c:Bool} (hl:st.env.lookup t=some (.one (.sym (.bool b)))) (hc:b=c):fJ m cx (Gs st t c) a w:=by
 obtain⟨bs,S,hs,he⟩:=h;obtain⟨v,hv,hx⟩:=he.k _ _ (ll hl);obtain⟨rfl,_⟩:=hx;subst hc;exact⟨bs,S,hs,he.lit hv ⟨rfl,rfl⟩⟩
theorem fJ.skip (h:fJ m cx st a w) (hd:Az m o=true):fJ m cx (zk st o) (a.put o.dst undef) w:=by
 obtain⟨bs,S,hs,he⟩:=h;exact⟨bs,S,hs,he.put o.dst (some (.tup [])) undef hd fun y hy=>by obtain rfl:=aal hy;exact⟨[],rfl,.nil⟩⟩
theorem tp {j t:Nat} {want:Bool} (hg:o.guard=some (j,want)) (ht:dL ops j=some t) (hv:a.tmps[t]?=some undef):Region.wanted o (yielded ops a.tmps)=false:=by
 unfold Region.wanted;rw[hg];have hy:yielded ops a.tmps j=none:=by
  unfold yielded;unfold dL at ht;cases ho:ops[j]? with
  | none=>rw[ho] at ht;cases ht
  | some q=>
   rw[ho] at ht;have UI:q.dst=some t:=ht;simp[UI,hv,undef]
 simp only[hy];rfl
theorem Ks (h:fJ m cx st a w) {t:Nat} (hl:st.env.lookup t=some (.tup [])):a.tmps[t]?=some undef:=by
 obtain⟨bs,S,hs,he⟩:=h;obtain⟨v,hv,vs,e1,e2⟩:=he.k _ _ (ll hl);cases e2
 rw[hv,e1];rfl
theorem oX {j t:Nat} {want b:Bool} (hg:o.guard=some (j,want)) (ht:dL ops j=some t) (hv:a.tmps[t]?=some (.bool b)):Region.wanted o (yielded ops a.tmps)=(b==want):=by
 unfold Region.wanted;rw[hg];have hy:yielded ops a.tmps j=some b:=by
  unfold yielded;unfold dL at ht;cases ho:ops[j]? with
  | none=>rw[ho] at ht;cases ht
  | some q=>
   rw[ho] at ht;have UI:q.dst=some t:=ht;simp[UI,hv]
 simp only[hy];cases b<;>cases want<;>rfl
theorem NG (h:fJ m cx st a w) {t:Nat} {b:Bool} (hl:st.env.lookup t=some (.one (.sym (.bool b)))):a.tmps[t]?=some (.bool b):=by
 obtain⟨bs,S,hs,he⟩:=h;obtain⟨v,hv,hx⟩:=he.k _ _ (ll hl);obtain⟨rfl,_⟩:=hx;exact hv
theorem NF (h:fJ m cx st a w) {t:Nat} {b:Bool} (hl:st.env.lookup t=some (.one (.val (.bool b)))):a.tmps[t]?=some (.bool b):=by
 obtain⟨bs,S,hs,he⟩:=h;obtain⟨v,hv,hx⟩:=he.k _ _ (ll hl);obtain⟨rfl,_⟩:=hx;exact hv
theorem Qv {f:eu→T eu} {i:Nat} (ho:ops[i]?=some o) (h:(gdT m ops o f st).hit dK) (cA:fJ m cx st a w) (hf:∀st,(f st).hit dK→fJ m cx st a w→o.wp P a w K Q) (hK:∀a' w',fJ m cx dK a' w'→K a' w'):wpOp P ops Q i K a w:=by
 have go:∀st,(f st).hit dK→fJ m cx st a w→Region.wanted o (yielded ops a.tmps)=true→wpOp P ops Q i K a w:=fun st h1 h2 h3=>vZ ho h3 (hf st h1 h2);have no:∀st,Az m o=true→zk st o=dK→fJ m cx st a w→Region.wanted o (yielded ops a.tmps)=false→wpOp P ops Q i K a w:=by
  intro st hd h1 h2 h3;unfold wpOp;rw[ho];simp only[h3,abs,if_false];subst h1;exact hK _ _ (h2.skip hd)
 unfold gdT at h;split at h
 ·rename_i hg;exact go st h cA (by simp[Region.wanted,hg])
 ·rename_i j want hg;split at h
  ·rename_i hd;split at h
   ·rename_i t ht;split at h
    ·rename_i b hl;have hw:=oX hg ht (NF cA hl);split at h
     ·rename_i e;rw[e] at hw;exact go st h cA hw
     ·rename_i e;rw[Bool.not_eq_true] at e;rw[e] at hw;exact no st hd h cA hw
    ·rename_i b hl;have hw:=oX hg ht (NG cA hl);cases b with
     | true=>
      have h:=h.1 rfl;have nA:=cA.lit hl (c:=true) rfl;cases want with
      | true=>exact go _ h nA hw
      | false=>exact no _ hd h nA hw
     | false=>
      have h:=h.2 rfl;have nA:=cA.lit hl (c:=false) rfl;cases want with
      | true=>exact no _ hd h nA hw
      | false=>exact go _ h nA hw
    ·rename_i hl;exact no st hd h cA (tp hg ht (Ks cA hl))
    ·exact h.elim
   ·exact h.elim
  ·exact h.elim
theorem Bd:∀(l:List Oper) (i:Nat) {st:eu} {a:Act} {w:World},ops.toList.drop i=l→(F5 C m ops l st).hit dK→fJ m cx st a w→(∀a' w',fJ m cx dK a' w'→Q .normal a' w')→wpOps P ops Q (List.range' i l.length) a w
 | [],i,st,a,w,hl,h,cA,hQ=>by
  have h:st=dK:=h;subst h;exact hQ a w cA
 | o::l,i,st,a,w,hl,h,cA,hQ=>by
  obtain⟨st1,h1,h2⟩:=T.hit_bind h;have ho:ops[i]?=some o:=by
   have:=congrArg (fun l:List Oper=>l[0]?) hl;simp only[acl,ac7,acV,Array.getElem?_toList] at this;exact this
  have yW:ops.toList.drop (i+1)=l:=by
   rw[←adW,hl];rfl
  rw[aaO,List.range'_succ,wpOps_cons];exact Qv ho h1 cA (fun st q1 q2=>NE q1 q2 fun a' w' q=>Bd l (i+1) yW h2 q hQ) fun a' w' q=>Bd l (i+1) yW h2 q hQ
theorem KL {id:Nat} (h:(F5 C m ops ops.toList st).hit dK) (cA:fJ m cx st a w) (hQ:∀a' w',fJ m cx dK a' w'→Q .normal a' w'):(Code.region id ops false).wp P Q a w:=by
 refine wp_region ?_;have:=Bd (C:=C) ops.toList 0 rfl h cA hQ;rw[abM] at this;rw[List.range_eq_range'];exact this
end
inductive Lf where
 | nrm (st:eu)
 | ext (id:Nat) (st:eu)
 | ret (r:XV) (st:eu)
inductive KI where
 | code (n:Nat) (c:Code)
 | blk (id:Nat)
def kQ:Code→List Code
 | .seq a b=>kQ a++kQ b
 | .cond _ a b=>kQ a++kQ b
 | .block _ b=>kQ b
 | .loop b=>.loop b::kQ b
 | _=>[]
def px (id:Nat):List KI→Option (List KI)
 | []=>none
 | .blk j::ks=>if id=j then some ks else px id ks
 | .code _ _::ks=>px id ks
def RtS (P:Program) (fn:Func) (m:Nat) (cx:Cx) (r:XV) (st:eu) (a:Act) (w:World):Prop:=
 ∃bs S S',HS cx bs w S st.heap∧ER m bs w S st.env a∧(∀b,S' b→(cx.S0 b∨cx.w0.heap.size≤b∨cx.M b)∧b<w.heap.size)∧(cx.pb=[]∨∀b,S' b→S b)∧∃v,(results fn a.tmps).run P w=.ok v w∧XR [] w S' r v
structure Rg (P:Program) (m:Nat) where
 fn:Func
 pb:List Nat
 reg:Nat→Array Oper→Bool→eu→T eu
 ok:∀id ops dr (cx:Cx) (st dK:eu) (a:Act) (w:World) (Q:Exit→Act→World→Prop),(reg id ops dr st).hit dK→fJ m cx st a w→(∀a' w',fJ m cx dK a' w'→Q .normal a' w')→(Code.region id ops dr).wp P Q a w
 res:eu→Option XV
 resOk:∀(cx:Cx) (st:eu) (a:Act) (w:World) (r:XV),cx.pb=pb→res st=some r→fJ m cx st a w→RtS P fn m cx r st a w
def LQ (P:Program) (fn:Func) (m:Nat) (cx:Cx) (l:Lf):Exit→Act→World→Prop
 | .normal,a,w=>∃st,Lf.nrm st=l∧fJ m cx st a w
 | .exit id,a,w=>∃st,Lf.ext id st=l∧fJ m cx st a w
 | .ret,a,w=>∃r st,Lf.ret r st=l∧RtS P fn m cx r st a w
 | _,_,_=>False
def Ct (P:Program) (fn:Func) (m:Nat) (pb:List Nat) (c:Code) (f:eu→T Lf):Prop:=∀(cx:Cx) (st:eu) (a:Act) (w:World) (l:Lf),cx.pb=pb→(f st).hit l→fJ m cx st a w→c.wp P (LQ P fn m cx l) a w
structure Cq (P:Program) (fn:Func) (m:Nat) (pb:List Nat) (loops:List Code) where
 f:Nat→Option (eu→T Lf)
 ok:∀(k:Nat) (g:eu→T Lf) (c:Code),f k=some g→loops[k]?=some c→Ct P fn m pb c g
def QZ (x:Operand) (st:eu) (f:Bool→eu→T Lf):T Lf:=match ev st.env x with
 | some (.one (.val (.bool v)))=>f v st
 | some (.one (.sym (.bool v)))=>match x with
  | .tmp t=>.br v (f true (Gs st t true)) (f false (Gs st t false))
  | _=>.bad
 | _=>.bad
section
variable {P:Program} {m:Nat} {loops:List Code} (R:Rg P m) (L:Cq P R.fn m R.pb loops)
def run:Nat→List KI→eu→T Lf
 | 0,_,_=>.bad
 | _+1,[],st=>.lf (.nrm st)
 | n+1,.blk _::ks,st=>run n ks st
 | n+1,.code i c::ks,st=>match c with
  | .skip=>run n ks st
  | .label _=>run n ks st
  | .seq a b=>run n (.code i a::.code (i+(kQ a).length) b::ks) st
  | .block id b=>run n (.code i b::.blk id::ks) st
  | .exit id=>match px id ks with
   | some Uv=>run n Uv st
   | none=>.lf (.ext id st)
  | .ret=>(T.op (R.res st)).bind fun r=>.lf (.ret r st)
  | .cond x a b=>QZ x st fun v st=>run n ((if v then .code i a else .code (i+(kQ a).length) b)::ks) st
  | .region id ops dr=>(R.reg id ops dr st).bind (run n ks)
  | .loop b=>match L.f i with
   | some g=>(g st).bind fun l=>match l with
    | .nrm dK=>run n ks dK
    | .ext id dK=>match px id ks with
     | some Uv=>run n Uv dK
     | none=>.lf (.ext id dK)
    | .ret r dK=>.lf (.ret r dK)
   | none=>run n (.code (i+1) b::.code i (.loop b)::ks) st
  | _=>.bad
end
def WK (P:Program) (Q:Exit→Act→World→Prop):List KI→Exit→Act→World→Prop
 | [],e,a,w=>Q e a w
 | .blk j::ks,e,a,w=>match e with
  | .exit id=>if id=j then WK P Q ks .normal a w else WK P Q ks (.exit id) a w
  | e=>WK P Q ks e a w
 | .code _ c::ks,e,a,w=>match e with
  | .normal=>c.wp P (WK P Q ks) a w
  | e=>WK P Q ks e a w
section
variable {P:Program} {Q Q':Exit→Act→World→Prop} {m:Nat} {cx:Cx} {loops:List Code} {R:Rg P m} {L:Cq P R.fn m R.pb loops}
theorem WK.mono (h:∀e a w,Q e a w→Q' e a w):∀{ks:List KI} {e:Exit} {a:Act} {w:World},WK P Q ks e a w→WK P Q' ks e a w
 | [],_,_,_,hq=>h _ _ _ hq
 | .blk j::ks,e,a,w,hq=>by
  cases e with
  | exit id=>
   have hq:if id=j then WK P Q ks .normal a w else WK P Q ks (.exit id) a w:=hq
   show if id=j then WK P Q' ks .normal a w else WK P Q' ks (.exit id) a w
   split
   ·rename_i e;rw[if_pos e] at hq;exact WK.mono h hq
   ·rename_i e;rw[if_neg e] at hq;exact WK.mono h hq
  | _=>exact WK.mono (ks:=ks) h hq
 | .code i c::ks,e,a,w,hq=>by
  cases e with
  | normal=>exact wp_mono (c:=c) hq fun e a w q=>WK.mono h q
  | _=>exact WK.mono (ks:=ks) h hq
theorem WK.ret:∀{ks:List KI} {a:Act} {w:World},Q .ret a w→WK P Q ks .ret a w
 | [],_,_,h=>h
 | .blk _::ks,_,_,h=>WK.ret (ks:=ks) h
 | .code _ _::ks,_,_,h=>WK.ret (ks:=ks) h
theorem WK.exit {id:Nat} {k2:List KI}:∀{k1:List KI} {a:Act} {w:World},(∀k3,px id (k1++k2)=some (k3++k2)→(∃k0,k1=k0++.blk id::k3)→WK P Q k3 .normal a w)→(px id (k1++k2)=px id k2→Q (.exit id) a w)→WK P Q k1 (.exit id) a w
 | [],_,_,_,h=>h rfl
 | .blk j::ks,a,w,h1,h2=>by
  show if id=j then WK P Q ks .normal a w else WK P Q ks (.exit id) a w
  split
  ·rename_i e;subst e;exact h1 ks (by show(if id=id then some (ks++k2) else _)=_;rw[if_pos rfl]) ⟨[],rfl⟩
  ·rename_i e;have hp:px id (.blk j::ks++k2)=px id (ks++k2):=if_neg e;rw[hp] at h1 h2;exact WK.exit (k1:=ks) (fun k3 q1 ⟨k0,q2⟩=>h1 k3 q1 ⟨.blk j::k0,by rw[q2];rfl⟩) h2
 | .code i c::ks,a,w,h1,h2=>by
  have hp:px id (.code i c::ks++k2)=px id (ks++k2):=rfl;rw[hp] at h1 h2;exact WK.exit (k1:=ks) (fun k3 q1 ⟨k0,q2⟩=>h1 k3 q1 ⟨.code i c::k0,by rw[q2];rfl⟩) h2
def vX (loops:List Code) (ks:List KI):Prop:=∀i c,KI.code i c∈ks→∀j x,(kQ c)[j]?=some x→loops[i+j]?=some x
def RQ (R:Rg P m) (L:Cq P R.fn m R.pb loops) (cx:Cx) (l:Lf) (n:Nat) (k2:List KI):Exit→Act→World→Prop
 | .normal,a,w=>∃j st,j≤n∧(run R L j k2 st).hit l∧fJ m cx st a w
 | .exit id,a,w=>∃j st,j≤n∧(match px id k2 with|some k3=>(run R L j k3 st).hit l|none=>Lf.ext id st=l)∧fJ m cx st a w
 | .ret,a,w=>∃r st,Lf.ret r st=l∧RtS P R.fn m cx r st a w
 | _,_,_=>False
theorem RQ.up {l:Lf} {n n':Nat} {k2:List KI} (h:n≤n'):∀e a w,RQ R L cx l n k2 e a w→RQ R L cx l n' k2 e a w:=by
 intro e a w hq;cases e with
 | normal=>obtain⟨j,st,h1,h2⟩:=hq;exact⟨j,st,aaM h1 h,h2⟩
 | exit id=>obtain⟨j,st,h1,h2⟩:=hq;exact⟨j,st,aaM h1 h,h2⟩
 | _=>exact hq
theorem vX.tail {ks:List KI} {x:KI} (h:vX loops (x::ks)):vX loops ks:=fun i c hm=>h i c (aaN _ hm)
theorem vX.cons {ks:List KI} {i:Nat} {c:Code} (h:vX loops ks) (hc:∀j x,(kQ c)[j]?=some x→loops[i+j]?=some x):vX loops (.code i c::ks):=fun i' c' hm j x hx=>by
 rcases aaP.1 hm with e|hm
 ·injection e with e1 e2;subst e1 e2;exact hc j x hx
 ·exact h i' c' hm j x hx
theorem vX.blk {ks:List KI} {i:Nat} (h:vX loops ks):vX loops (.blk i::ks):=fun i' c' hm=>by
 rcases aaP.1 hm with e|hm
 ·cases e
 ·exact h i' c' hm
theorem vX.sub {k0 k1:List KI} (h:vX loops (k0++k1)):vX loops k1:=fun i c hm=>h i c (ac8 _ hm)
theorem QY {x:Operand} {st:eu} {f:Bool→eu→T Lf} {l:Lf} {a:Act} {w:World} {c d:Code} (h:(QZ x st f).hit l) (cA:fJ m cx st a w) (ht:∀st,(f true st).hit l→fJ m cx st a w→c.wp P Q a w) (hf:∀st,(f false st).hit l→fJ m cx st a w→d.wp P Q a w):(Code.cond x c d).wp P Q a w:=by
 unfold QZ at h;split at h
 ·rename_i v hv;obtain⟨bs,S,hs,he⟩:=cA;have hx:=(cN he hv).1;cases v with
  | true=>exact wp_cond_true hx (ht st h ⟨bs,S,hs,he⟩)
  | false=>exact wp_cond_false hx (hf st h ⟨bs,S,hs,he⟩)
 ·rename_i v hv;split at h
  ·rename_i t;have hx:a.eval (.tmp t)=.bool v:=by obtain⟨bs,S,hs,he⟩:=cA;exact(cN he hv).1
   cases v with
   | true=>exact wp_cond_true hx (ht _ (h.1 rfl) (cA.lit hv rfl))
   | false=>exact wp_cond_false hx (hf _ (h.2 rfl) (cA.lit hv rfl))
  ·exact h.elim
 ·exact h.elim
theorem aiU {l:Lf} (nT:cx.pb=R.pb):∀(n:Nat) (k1 k2:List KI) (st:eu) (a:Act) (w:World),(run R L n (k1++k2) st).hit l→fJ m cx st a w→vX loops (k1++k2)→WK P (RQ R L cx l n k2) k1 .normal a w:=by
 intro n;induction n using Nat.strongRecOn with
 | _ n ih=>
 intro k1 k2 st a w h cA hk;cases k1 with
 | nil=>exact⟨n,st,aaJ _,h,cA⟩
 | cons x k1=>
  cases n with
  | zero=>exact h.elim
  | succ n=>
   have UH:∀e a w,RQ R L cx l n k2 e a w→RQ R L cx l (n+1) k2 e a w:=RQ.up (Nat.le_succ n);have P7:∀(id:Nat) (j:Nat) (st:eu) (a:Act) (w:World),j≤n→fJ m cx st a w→(match px id (k1++k2) with|some k3=>(run R L j k3 st).hit l|none=>Lf.ext id st=l)→WK P (RQ R L cx l (n+1) k2) k1 (.exit id) a w:=by
    intro id j st a w hj cA hp;refine WK.exit (k2:=k2) (fun k3 q1 ⟨k0,q2⟩=>?_) fun q=>?_
    ·rw[q1] at hp;exact WK.mono (RQ.up (by omega)) (ih j (by omega) k3 k2 st a w hp cA (by
      have mn:vX loops (k1++k2):=hk.tail;rw[q2,abP] at mn;exact(vX.sub mn).tail))
    ·rw[q] at hp;exact⟨j,st,by omega,hp,cA⟩
   cases x with
   | blk id=>exact WK.mono (ks:=k1) UH (ih n (acw n) k1 k2 st a w h cA hk.tail)
   | code i c=>
    have hc:=hk i c aaw;have Ef:=hk.tail;show c.wp P (WK P (RQ R L cx l (n+1) k2) k1) a w;cases c with
    | skip=>exact wp_skip (WK.mono UH (ih n (acw n) k1 k2 st a w h cA Ef))
    | label q=>exact wp_label (WK.mono UH (ih n (acw n) k1 k2 st a w h cA Ef))
    | seq x y=>
     have hy:∀j z,(kQ y)[j]?=some z→loops[i+(kQ x).length+j]?=some z:=fun j z hz=>by
      rw[aci];refine hc _ z ?_;show(kQ x++kQ y)[_]?=_;rw[aam (by omega),abK];exact hz
     have hx:∀j z,(kQ x)[j]?=some z→loops[i+j]?=some z:=fun j z hz=>hc j z (by
      show(kQ x++kQ y)[j]?=_;rw[aaz (aag.1 hz).1];exact hz)
     have:=ih n (acw n) (.code i x::.code (i+(kQ x).length) y::k1) k2 st a w h cA (vX.cons (vX.cons Ef hy) hx);refine wp_seq (wp_mono (c:=x) (WK.mono (ks:=.code i x::.code (i+(kQ x).length) y::k1) UH this) fun e a w q=>?_);cases e<;>exact q
    | block id b=>
     have:=ih n (acw n) (.code i b::.blk id::k1) k2 st a w h cA (vX.cons (vX.blk Ef) hc);refine wp_block (wp_mono (c:=b) (WK.mono (ks:=.code i b::.blk id::k1) UH this) fun e a w q=>?_);cases e<;>exact q
    | exit id=>
     have h:(match px id (k1++k2) with|some Uv=>run R L n Uv st|none=>T.lf (Lf.ext id st)).hit l:=h;refine wp_exit (P7 id n st a w (aaJ _) cA ?_);split
     ·rename_i k3 e;rw[e] at h;exact h
     ·rename_i e;rw[e] at h;exact h
    | ret=>
     obtain⟨r,q1,q2⟩:=T.hit_bind h;exact wp_ret (WK.ret ⟨r,st,q2,R.resOk cx st a w r nT (T.hit_op q1) cA⟩)
    | cond x c d=>
     refine QY (P:=P) (Q:=WK P (RQ R L cx l (n+1) k2) k1) h cA (fun st q1 q2=>?_) fun st q1 q2=>?_
     ·exact WK.mono (ks:=.code i c::k1) UH (ih n (acw n) (.code i c::k1) k2 st a w q1 q2 (vX.cons Ef fun j z hz=>hc j z (by
       show(kQ c++kQ d)[j]?=_;rw[aaz (aag.1 hz).1];exact hz)))
     ·exact WK.mono (ks:=.code (i+(kQ c).length) d::k1) UH (ih n (acw n) (.code (i+(kQ c).length) d::k1) k2 st a w q1 q2 (vX.cons Ef fun j z hz=>by
       rw[aci];refine hc _ z ?_;show(kQ c++kQ d)[_]?=_;rw[aam (by omega),abK];exact hz))
    | region id ops dr=>
     obtain⟨st1,q1,q2⟩:=T.hit_bind h;exact R.ok id ops dr cx st st1 a w _ q1 cA fun a' w' q3=>WK.mono UH (ih n (acw n) k1 k2 st1 a' w' q2 q3 Ef)
    | loop b=>
     have afm:∀st,run R L (n+1) (.code i (.loop b)::(k1++k2)) st=match L.f i with
      | some g=>(g st).bind fun l=>match l with
       | .nrm dK=>run R L n (k1++k2) dK
       | .ext id dK=>match px id (k1++k2) with
        | some Uv=>run R L n Uv dK
        | none=>.lf (.ext id dK)
       | .ret r dK=>.lf (.ret r dK)
      | none=>run R L n (.code (i+1) b::.code i (.loop b)::(k1++k2)) st:=fun _=>rfl
     cases hf:L.f i with
     | some g=>
      have h:(run R L (n+1) (.code i (.loop b)::(k1++k2)) st).hit l:=h;rw[afm,hf] at h;obtain⟨l',q1,q2⟩:=T.hit_bind h;refine wp_mono (L.ok i g (.loop b) hf (hc 0 _ rfl) cx st a w l' nT q1 cA) fun e a' w' q=>?_;cases e with
      | normal=>
       obtain⟨dK,rfl,q3⟩:=q;exact WK.mono UH (ih n (acw n) k1 k2 dK a' w' q2 q3 Ef)
      | exit id=>
       obtain⟨dK,rfl,q3⟩:=q;refine P7 id n dK a' w' (aaJ _) q3 ?_;simp only at q2;split
       ·rename_i k3 e;rw[e] at q2;exact q2
       ·rename_i e;rw[e] at q2;exact q2
      | ret=>
       obtain⟨r,dK,rfl,q3⟩:=q;exact WK.ret ⟨r,dK,q2,q3⟩
      | _=>exact q.elim
     | none=>
      refine wp_loop_ghost (fun j a w=>∃dK,j≤n+1∧(run R L j (.code i (.loop b)::(k1++k2)) dK).hit l∧fJ m cx dK a w) (n+1) ⟨st,aaJ _,h,cA⟩ ?_;rintro j a1 w1 ⟨st1,hj,h1,nM⟩;cases j with
      | zero=>exact h1.elim
      | succ j=>
       have Z8:run R L (j+1) (.code i (.loop b)::(k1++k2)) st1=match L.f i with
        | some g=>(g st1).bind fun l=>match l with
         | .nrm dK=>run R L j (k1++k2) dK
         | .ext id dK=>match px id (k1++k2) with
          | some Uv=>run R L j Uv dK
          | none=>.lf (.ext id dK)
         | .ret r dK=>.lf (.ret r dK)
        | none=>run R L j (.code (i+1) b::.code i (.loop b)::(k1++k2)) st1:=rfl
       rw[Z8,hf] at h1;have:=ih j (by omega) [.code (i+1) b] (.code i (.loop b)::(k1++k2)) st1 a1 w1 h1 nM (vX.cons (vX.cons Ef hc) fun q z hz=>by
        rw[aci,adn 1 q];exact hc (q+1) z hz)
       refine wp_mono (c:=b) this fun e a2 w2 q=>?_;cases e with
       | normal=>
        obtain⟨j',dK,q1,q2,q3⟩:=q;exact⟨j',by omega,dK,by omega,q2,q3⟩
       | exit id=>
        obtain⟨j',dK,q1,q2,q3⟩:=q;exact P7 id j' dK a2 w2 (by omega) q3 q2
       | ret=>exact WK.ret q
       | _=>exact q.elim
    | _=>exact h.elim
theorem AS (nT:cx.pb=R.pb) {n:Nat} {c:Code} {i:Nat} {st:eu} {a:Act} {w:World} {l:Lf} (h:(run R L n [.code i c] st).hit l) (cA:fJ m cx st a w) (hk:∀j x,(kQ c)[j]?=some x→loops[i+j]?=some x):c.wp P (LQ P R.fn m cx l) a w:=by
 have:=aiU nT n [.code i c] [] st a w h cA (vX.cons (fun _ _ h=>by cases h) hk);refine wp_mono (c:=c) this fun e a w q=>?_;cases e with
 | normal=>
  obtain⟨j,dK,_,q1,q2⟩:=q;cases j with
  | zero=>exact q1.elim
  | succ j=>exact⟨dK,q1,q2⟩
 | exit id=>
  obtain⟨j,dK,_,q1,q2⟩:=q;exact⟨dK,q1,q2⟩
 | ret=>exact q
 | _=>exact q.elim
end
inductive ZS where
 | d (t:Ty)
 | own (t:Ty) (e:TypeId)
 | any
inductive CS where
 | d (t:Ty)
 | own (t:Ty) (e:TypeId)
 | any
 | zc (t tn:Ty) (e:TypeId)
 | zip (t tn:Ty) (e:TypeId) (zs:List ZS)
 | mp (kt:Kt) (t:Ty)
 | mr (kt:Kt) (t:Ty) (e:TypeId)
inductive SS where
 | c (s:CS)
 | st (k:Nat)
 | box (ty:TypeId) (cs:List CS)
 | fn (k:FuncId)
 | rf (k:Nat)
 | cl (k:FuncId) (t:Ty)
 | sb (o o2:Nat)
def SS.isSb:SS→Bool
 | .sb _ _=>true
 | _=>false
def ZV:ZS→Type
 | .d t=>El t
 | .own t _=>List (El t)
 | .any=>Unit
def Co:List ZS→Type
 | []=>Unit
 | s::l=>ZV s×Co l
def CV:CS→Type
 | .d t=>El t
 | .own t _=>List (El t)
 | .any=>Unit
 | .zc t tn _=>Nat×List (El t)×List (El tn)
 | .zip t tn _ zs=>Nat×List (El t)×Co zs×List (El tn)
 | .mp kt t=>Nat×(kt.K→Option (El t))
 | .mr kt t _=>Nat×(kt.K→Option (List (El t)))
def eT:List CS→Type
 | []=>Unit
 | s::l=>CV s×eT l
def SW:SS→Type
 | .c s=>CV s
 | .st k=>Hw k
 | .box _ cs=>eT cs
 | .fn _=>Unit
 | .rf k=>Hw k
 | .cl _ t=>El t
 | .sb _ _=>Unit
def cF:List (Nat×SS)→Type
 | []=>Unit
 | p::l=>SW p.2×cF l
def DL (n:Nat):(s:ZS)→ZV s→AV×List ai
 | .d t,x=>(one t x,[])
 | .own t e,rs=>(.own n,[.row t e rs])
 | .any,_=>(.any n,[.dead])
def tP (n:Nat):(l:List ZS)→Co l→List AV×List ai
 | [],_=>([],[])
 | s::l,x=>((DL n s x.1).1::(tP (n+(DL n s x.1).2.length) l x.2).1,(DL n s x.1).2++(tP (n+(DL n s x.1).2.length) l x.2).2)
def vj (n:Nat):(s:CS)→CV s→AV×List ai
 | .d t,x=>(one t x,[])
 | .own t e,rs=>(.own n,[.row t e rs])
 | .any,_=>(.any n,[.dead])
 | .zc t tn e,x=>(.own n,[.zc e t tn x.1 x.2.1 x.2.2])
 | .mp kt t,x=>(.mp n,[.mp kt t x.1 x.2])
 | .mr kt t e,x=>(.mp n,[.mq (n+1),.mr n kt t e x.1 x.2])
 | .zip t tn e zs,x=>(.own n,.zip (n+1) e t tn x.1 x.2.1 (tP (n+2) zs x.2.2.1).1 x.2.2.2::.dead::(tP (n+2) zs x.2.2.1).2)
def tR (n:Nat):(l:List CS)→eT l→List AV×List ai
 | [],_=>([],[])
 | s::l,x=>((vj n s x.1).1::(tR (n+(vj n s x.1).2.length) l x.2).1,(vj n s x.1).2++(tR (n+(vj n s x.1).2.length) l x.2).2)
def yB (n:Nat):(s:SS)→SW s→XV×List ai
 | .c s,x=>(.one (vj n s x).1,(vj n s x).2)
 | .st k,x=>(.agg (kS (.st k) x),[])
 | .fn k,_=>(.one (.val (.func (.func k) #[] #[])),[])
 | .rf k,x=>(.one (.ref (.st k) x 0),[])
 | .cl k t,x=>(.one (.cl k t x),[])
 | .sb o o2,_=>(.one (.sub o o2 0),[])
 | .box ty cs,x=>(.one (.ptr n 0),.cells ty (tR (n+1) cs x).1::(tR (n+1) cs x).2)
def tQ (n:Nat):(l:List (Nat×SS))→cF l→Env×List ai
 | [],_=>([],[])
 | p::l,x=>((p.1,(yB n p.2 x.1).1)::(tQ (n+(yB n p.2 x.1).2.length) l x.2).1,(yB n p.2 x.1).2++(tQ (n+(yB n p.2 x.1).2.length) l x.2).2)
def dz (l:List (Nat×SS)) (x:cF l):eu:=⟨(tQ 0 l x).1,(tQ 0 l x).2⟩
def YI (H:List ai) (t:Ty) (e:TypeId):AV→Option (List (El t)×List (Option Nat))
 | .own o=>match H[o]? with
  | some (.row t' e' rs)=>if e'=e then(lF t (.list t' rs false)).map fun x=>(x,[some o]) else none
  | _=>none
 | .val (.slice none 0 0)=>some ([],[none])
 | _=>none
def rdN:AV→Option (Unit×List (Option Nat))
 | .any o=>some ((),[some o])
 | _=>some ((),[none])
def rdZ (H:List ai):(s:ZS)→AV→Option (ZV s×List (Option Nat))
 | .d t,a=>(Ng t a).map fun x=>(x,[])
 | .own t e,a=>YI H t e a
 | .any,a=>rdN a
def Dr (H:List ai):(l:List ZS)→List AV→Option (Co l×List (Option Nat))
 | [],[]=>some ((),[])
 | s::l,a::r=>match rdZ H s a,Dr H l r with
  | some x,some y=>some ((x.1,y.1),x.2++y.2)
  | _,_=>none
 | _,_=>none
def KO (H:List ai) (t tn:Ty) (e:TypeId):AV→Option ((Nat×List (El t)×List (El tn))×List (Option Nat))
 | .own o=>match H[o]? with
  | some (.zc e' t' Ni im done rest)=>match Ty.eq? t' t,Ty.eq? Ni tn with
   | some h,some h'=>if e'=e then some ((im,h.down▸done,h'.down▸rest),[some o]) else none
   | _,_=>none
  | _=>none
 | _=>none
def zo (H:List ai) (t tn:Ty) (e:TypeId) (zs:List ZS):AV→Option ((Nat×List (El t)×Co zs×List (El tn))×List (Option Nat))
 | .own o=>match H[o]? with
  | some (.zip o2 e' t' Ni im done cur rest)=>match Ty.eq? t' t,Ty.eq? Ni tn,Dr H zs cur with
   | some h,some h',some x=>if e'=e then some ((im,h.down▸done,x.1,h'.down▸rest),some o::some o2::x.2) else none
   | _,_,_=>none
  | _=>none
 | _=>none
def KQ (H:List ai) (kt:Kt) (t:Ty):AV→Option ((Nat×(kt.K→Option (El t)))×List (Option Nat))
 | .mp o=>match H[o]? with
  | some (.mp lu t' n f)=>match Ty.eq? (.mp lu t') (.mp kt t) with
   | some h=>some ((n,(h.down▸(f:El (.mp lu t')):El (.mp kt t))),[some o])
   | none=>none
  | _=>none
 | _=>none
def KP (H:List ai) (kt:Kt) (t:Ty) (e:TypeId):AV→Option ((Nat×(kt.K→Option (List (El t))))×List (Option Nat))
 | .mp p=>match H[p]? with
  | some (.mq q)=>match H[q]? with
   | some (.mr p' lu t' e' n f)=>match Ty.eq? (.mp lu (.list t')) (.mp kt (.list t)) with
    | some h=>if p'=p∧e'=e then some ((n,(h.down▸(f:El (.mp lu (.list t'))):El (.mp kt (.list t)))),[some p,some q]) else none
    | none=>none
   | _=>none
  | _=>none
 | _=>none
def rdC (H:List ai):(s:CS)→AV→Option (CV s×List (Option Nat))
 | .d t,a=>(Ng t a).map fun x=>(x,[])
 | .own t e,a=>YI H t e a
 | .any,a=>rdN a
 | .zc t tn e,a=>KO H t tn e a
 | .zip t tn e zs,a=>zo H t tn e zs a
 | .mp kt t,a=>KQ H kt t a
 | .mr kt t e,a=>KP H kt t e a
def yL (H:List ai):(l:List CS)→List AV→Option (eT l×List (Option Nat))
 | [],[]=>some ((),[])
 | s::l,a::r=>match rdC H s a,yL H l r with
  | some x,some y=>some ((x.1,y.1),x.2++y.2)
  | _,_=>none
 | _,_=>none
def rdA (H:List ai) (s:CS):XV→Option (CV s×List (Option Nat))
 | .one a=>rdC H s a
 | _=>none
def rdG (k:Nat):XV→Option (Hw k×List (Option Nat))
 | .agg cs=>(un (.st k) cs).map fun x=>(x,[])
 | _=>none
def rdB (H:List ai) (ty:TypeId) (cs:List CS):XV→Option (eT cs×List (Option Nat))
 | .one (.ptr o 0)=>match H[o]? with
  | some (.cells pZ r)=>if pZ=ty then(yL H cs r).map fun x=>(x.1,some o::x.2) else none
  | _=>none
 | _=>none
def YJ (k:FuncId):XV→Option (Unit×List (Option Nat))
 | .one (.val (.func (.func j) a b))=>if j=k∧a.size=0∧b.size=0 then some ((),[]) else none
 | _=>none
def YH (k:Nat):XV→Option (Hw k×List (Option Nat))
 | .one (.ref t x 0)=>match Ty.eq? t (.st k) with
  | some h=>some ((h.down▸x:El (.st k)),[])
  | none=>none
 | _=>none
def YK (k:FuncId) (t:Ty):XV→Option (El t×List (Option Nat))
 | .one (.cl k' t' x)=>match Ty.eq? t' t with
  | some h=>if k'=k then some ((h.down▸x:El t),[]) else none
  | none=>none
 | _=>none
def YF:XV→Option (Unit×List (Option Nat))
 | .one (.sub _ _ 0)=>some ((),[])
 | _=>none
def Tu (H:List ai):(s:SS)→XV→Option (SW s×List (Option Nat))
 | .c s,x=>rdA H s x
 | .st k,x=>rdG k x
 | .box ty cs,x=>rdB H ty cs x
 | .fn k,x=>YJ k x
 | .rf k,x=>YH k x
 | .cl k t,x=>YK k t x
 | .sb _ _,x=>YF x
def IF (H:List ai) (env:Env):(l:List (Nat×SS))→Option (cF l×List (Option Nat))
 | []=>some ((),[])
 | p::l=>match (env.lookup p.1).bind (Tu H p.2),IF H env l with
  | some x,some y=>some ((x.1,y.1),x.2++y.2)
  | _,_=>none
def Eb (pb:List Nat) (ids:List (Option Nat)):Bool:=(List.range ids.length).all (fun i=>(List.range i).all fun j=>match ids[i]?,ids[j]? with
 | some (some a),some (some b)=>a !=b
 | _,_=>true)&&pb.all fun i=>ids[i]?==some (some i)
def adv (env:Env) (ids:List (Option Nat)) (l:List (Nat×SS)):Bool:=l.all fun p=>match p.2 with
 | .sb _ o2=>match env.lookup p.1 with
  | some (.one (.sub _ q _))=>ids[o2]?==some (some q)
  | _=>false
 | _=>true
def Ds (H:List ai) (env:Env) (l:List (Nat×SS)):Option (cF l×List (Option Nat)):=if l.all (fun p=>!p.2.isSb) then IF H env l else none
def pw (pb:List Nat) (l:List (Nat×SS)) (st:eu):Option (cF l):=(IF st.heap st.env l).bind fun p=>if Eb pb p.2&&adv st.env p.2 l then some p.1 else none
inductive Re (bs:List Value) (H:List ai):List (Option Nat)→List ai→List Value→Prop where
 | nil:Re bs H [] [] []
 | sm {o:Nat} {x y:ai} {v:Value} {ids:List (Option Nat)} {ys:List ai} {us:List Value}:H[o]?=some x→bs[o]?=some v→(∀c,Bk y v c→Bk x v c)→Re bs H ids ys us→Re bs H (some o::ids) (y::ys) (v::us)
 | nn {y:ai} {v:Value} {ids:List (Option Nat)} {ys:List ai} {us:List Value}:(∀c,¬Bk y v c)→Re bs H ids ys us→Re bs H (none::ids) (y::ys) (v::us)
section
variable {cx:Cx} {bs bn:List Value} {w:World} {S:Nat→Prop} {H:List ai} {m:Nat} {env:Env} {a:Act}
theorem Re.append {ids aeL:List (Option Nat)} {ys ys':List ai} {us rh:List Value} (h:Re bs H ids ys us) (h':Re bs H aeL ys' rh):Re bs H (ids++aeL) (ys++ys') (us++rh):=by
 induction h with
 | nil=>exact h'
 | sm h1 h2 h3 _ ih=>exact .sm h1 h2 h3 ih
 | nn h1 _ ih=>exact .nn h1 ih
theorem Re.len {ids:List (Option Nat)} {ys:List ai} {us:List Value} (h:Re bs H ids ys us):ids.length=ys.length∧us.length=ys.length:=by
 induction h with
 | nil=>exact⟨rfl,rfl⟩
 | sm _ _ _ _ ih=>simp[ih.1,ih.2]
 | nn _ _ ih=>simp[ih.1,ih.2]
theorem Re.get {ids:List (Option Nat)} {ys:List ai} {us:List Value} (h:Re bs H ids ys us):∀(i:Nat) (y:ai) (v:Value),ys[i]?=some y→us[i]?=some v→(∃o x,ids[i]?=some (some o)∧H[o]?=some x∧bs[o]?=some v∧(∀c,Bk y v c→Bk x v c))∨(ids[i]?=some none∧∀c,¬Bk y v c):=by
 induction h with
 | nil=>intro i y v h;cases h
 | sm h1 h2 h3 _ ih=>
  intro i y v hy hv;cases i with
  | zero=>injection hy with hy;injection hv with hv;subst hy hv;exact .inl ⟨_,_,rfl,h1,h2,h3⟩
  | succ i=>exact ih i y v (by simpa using hy) (by simpa using hv)
 | nn h1 _ ih=>
  intro i y v hy hv;cases i with
  | zero=>injection hy with hy;injection hv with hv;subst hy hv;exact .inr ⟨rfl,h1⟩
  | succ i=>exact ih i y v (by simpa using hy) (by simpa using hv)
def FG (bn us:List Value) (n:Nat):Prop:=∀(j:Nat) (u:Value),us[j]?=some u→bn[n+j]?=some u
theorem FG.left {us rh:List Value} {n:Nat} (h:FG bn (us++rh) n):FG bn us n:=fun j u hj=>h j u (by rw[aaz (aag.1 hj).1];exact hj)
theorem FG.right {us rh:List Value} {n:Nat} (h:FG bn (us++rh) n):FG bn rh (n+us.length):=fun j u hj=>by
 rw[aci];exact h _ u (by rw[aam (by omega),abK];exact hj)
def j0 (bn:List Value) (w:World) (S:Nat→Prop) (ys:List ai) (us:List Value):Prop:=∀(j:Nat) (y:ai) (u:Value),ys[j]?=some y→us[j]?=some u→OR bn w S y u
theorem j0.append {ys ys':List ai} {us rh:List Value} (h:j0 bn w S ys us) (h':j0 bn w S ys' rh) (hl:us.length=ys.length):j0 bn w S (ys++ys') (us++rh):=fun j y u hy hu=>by
 by_cases hj:j<ys.length
 ·rw[aaz hj] at hy;rw[aaz (by omega)] at hu;exact h j y u hy hu
 ·rw[aam (by omega)] at hy;rw[aam (by omega),hl] at hu;exact h' _ y u hy hu
theorem YS {t:Ty} {b:AV} {x:El t} {v:Value} (ht:t.one=true) (h:Ng t b=some x) (hv:VR bs w S b v):VR bn w S (one t x) v:=vJ ht (oY h hv)
theorem SO {t:Ty} {b:AV} {x:El t} (h:Ng t b=some x):t.one=true:=by
 cases t<;>first|rfl|cases h
theorem Bj (hs:HS cx bs w S H) {s:ZS} {b:AV} {x:ZV s} {ids:List (Option Nat)} {v:Value} (h:rdZ H s b=some (x,ids)) (hv:VR bs w S b v) (n:Nat) : ∃us,Re bs H ids (DL n s x).2 us∧∀bn,FG bn us n→VR bn w S (DL n s x).1 v∧j0 bn w S (DL n s x).2 us:=by
 cases s with
 | d t=>
  have h:(Ng t b).map (fun x=>(x,([]:List (Option Nat))))=some (x,ids):=h;cases e:Ng t b with
  | none=>rw[e] at h;cases h
  | some y=>
   rw[e] at h;injection h with h
   injection h with h1 h2
   subst h1 h2;exact⟨[],.nil,fun bn _=>⟨YS (SO e) e hv,fun j y u hy=>by cases hy⟩⟩
 | own t e=>
  replace h:YI H t e b=some (x,ids):=h;unfold YI at h;split at h
  ·rename_i o;split at h
   ·rename_i t' e' rs hH;split at h
    ·rename_i ee;subst ee;cases hu:lF t (.list t' rs false) with
     | none=>rw[hu] at h;cases h
     | some rs'=>
      rw[hu] at h;injection h with h
      injection h with h1 h2
      subst h1 h2;have:∃q:t'=t,rs'=q▸rs:=by
       unfold lF at hu;simp only at hu;split at hu
       ·rename_i q _;injection hu with hu
        exact⟨q.down,hu.symm⟩
       ·cases hu
      obtain⟨q,rfl⟩:=this;subst q;obtain⟨hb,fU⟩:=hv;refine⟨[v],.sm hH hb (fun _ h=>h) .nil,fun bn lU=>⟨⟨lU 0 v rfl,fU⟩,fun j y u hy hu=>?_⟩⟩;cases j with
      | zero=>injection hy with hy;injection hu with hu;subst hy hu;exact hs.o o _ _ hH hb
      | succ j=>cases hy
    ·cases h
   ·cases h
  ·injection h with h
   injection h with h1 h2
   subst h1 h2;obtain⟨rfl,_⟩:=hv;refine⟨[.slice none 0 0],.nn (fun _ h=>by cases h) .nil,fun bn lU=>⟨⟨lU 0 _ rfl,_,_,_,rfl⟩,fun j y u hy hu=>?_⟩⟩;cases j with
   | zero=>injection hy with hy;injection hu with hu;subst hy hu;exact Own.nil' w S (fun b q=>(hs.s b q).1) 0 e
   | succ j=>cases hy
  ·cases h
 | any=>
  have fin:∀{us:List Value},us=[v]→∀bn,FG bn us n→VR bn w S (.any n) v∧j0 bn w S [.dead] us:=by
   rintro us rfl bn lU;refine⟨⟨lU 0 v rfl,hv.one⟩,fun j y u hy hu=>?_⟩;cases j with
   | zero=>injection hy with hy;subst hy;exact trivial
   | succ j=>cases hy
  replace h:rdN b=some (x,ids):=h;unfold rdN at h;split at h
  ·rename_i o;injection h with h
   injection h with h1 h2
   subst h2;have ho:o<H.length:=by rw[←hs.len];exact(aag.1 hv.1).1
   exact⟨[v],.sm (aae ho) hv.1 (fun _ h=>by cases h) .nil,fin rfl⟩
  ·injection h with h
   injection h with h1 h2
   subst h2;exact⟨[v],.nn (fun _ h=>by cases h) .nil,fin rfl⟩
theorem IB (hs:HS cx bs w S H):∀{l:List ZS} {qs:List AV} {x:Co l} {ids:List (Option Nat)} {vs:List Value},Dr H l qs=some (x,ids)→F2 (VR bs w S) qs vs→∀n, ∃us,Re bs H ids (tP n l x).2 us∧∀bn,FG bn us n→F2 (VR bn w S) (tP n l x).1 vs∧j0 bn w S (tP n l x).2 us
 | [],[],x,ids,_,h,hv,n=>by cases hv;injection h with h;injection h with h1 h2;subst h1 h2;exact⟨[],.nil,fun _ _=>⟨.nil,fun j y u hy=>by cases hy⟩⟩
 | s::l,b::qs,x,ids,_,h,hv,n=>by
  cases hv with
  | cons h1 h2=>
   unfold Dr at h;split at h
   ·rename_i p q hp hq;injection h with h
    injection h with e1 e2
    subst e1 e2;obtain⟨us1,r1,k1⟩:=Bj hs (x:=p.1) (ids:=p.2) hp h1 n;obtain⟨us2,r2,k2⟩:=IB hs (x:=q.1) (ids:=q.2) hq h2 (n+(DL n s p.1).2.length);refine⟨us1++us2,r1.append r2,fun bn lU=>?_⟩;obtain⟨v1,o1⟩:=k1 bn lU.left;obtain⟨v2,o2⟩:=k2 bn (by have:=lU.right;rw[r1.len.2] at this;exact this);exact⟨.cons v1 v2,o1.append o2 r1.len.2⟩
   ·cases h
 | [],_::_,_,_,_,h,_,_=>by cases h
 | _::_,[],_,_,_,h,_,_=>by cases h
theorem Og (hs:HS cx bs w S H) {s:CS} {b:AV} {x:CV s} {ids:List (Option Nat)} {v:Value} (h:rdC H s b=some (x,ids)) (hv:VR bs w S b v) (n:Nat) : ∃us,Re bs H ids (vj n s x).2 us∧∀bn,FG bn us n→VR bn w S (vj n s x).1 v∧j0 bn w S (vj n s x).2 us:=by
 cases s with
 | d t=>exact Bj hs (s:=.d t) h hv n
 | own t e=>exact Bj hs (s:=.own t e) h hv n
 | any=>exact Bj hs (s:=.any) h hv n
 | zc t tn e=>
  replace h:KO H t tn e b=some (x,ids):=h;unfold KO at h;split at h
  ·rename_i o;split at h
   ·rename_i e' t' Ni im done rest hH;split at h
    ·rename_i q q' _ _;obtain⟨q⟩:=q;obtain⟨q'⟩:=q';subst q q';split at h
     ·rename_i ee;subst ee;injection h with h
      injection h with h1 h2
      subst h1 h2;obtain⟨hb,fU⟩:=hv;refine⟨[v],.sm hH hb (fun _ h=>h) .nil,fun bn lU=>⟨⟨lU 0 v rfl,fU⟩,fun j y u hy hu=>?_⟩⟩;cases j with
      | zero=>injection hy with hy;injection hu with hu;subst hy hu;exact hs.o o _ _ hH hb
      | succ j=>cases hy
     ·cases h
    ·cases h
   ·cases h
  ·cases h
 | zip t tn e zs=>
  replace h:zo H t tn e zs b=some (x,ids):=h;unfold zo at h;split at h
  ·rename_i o;split at h
   ·rename_i o2 e' t' Ni im done cur rest hH;split at h
    ·rename_i q q' p _ _ hp;obtain⟨q⟩:=q;obtain⟨q'⟩:=q';subst q q';split at h
     ·rename_i ee;subst ee;injection h with h
      injection h with h1 h2
      subst h1 h2;obtain⟨hb,fU⟩:=hv;obtain⟨bS,ho,hz,hl,u,tX,ti,hu3⟩:=hs.o o _ _ hH hb;have hr:bS[done.length]?=some (bS[done.length]'(by rw[hz.1];exact hl)):=aae _;have hf:=(hz.2 _ _ hr).2.1 rfl;obtain⟨us,r1,k1⟩:=IB hs (x:=p.1) (ids:=p.2) hp hf (n+2);have nO:o2<H.length:=by rw[←hs.len];exact(aag.1 tX).1
      refine⟨v::u::us,.sm hH hb (fun _ h=>h) (.sm (aae nO) tX (fun _ h=>by cases h) r1),fun bn lU=>?_⟩;have ub:FG bn us (n+2):=fun j u' hj=>by
       have:=lU (j+2) u' (by simpa using hj)
       rwa [show n+(j+2)=n+2+j by omega] at this
      obtain⟨v1,o1⟩:=k1 bn ub;refine⟨⟨lU 0 v rfl,fU⟩,fun j y u' hy vO=>?_⟩;cases j with
      | zero=>
       injection hy with hy;injection vO with vO;subst hy vO
       refine⟨bS,ho,⟨hz.1,fun j r hj=>?_⟩,hl,u,lU 1 u rfl,ti,hu3⟩;obtain⟨z1,z2,z3⟩:=hz.2 j r hj;refine⟨z1,fun e=>?_,z3⟩;subst e;rw[hr] at hj;obtain rfl:=aal hj;exact v1
      | succ j=>
       cases j with
       | zero=>injection hy with hy;subst hy;exact trivial
       | succ j=>exact o1 j y u' (acu.symm.trans (acu.symm.trans hy)) (acu.symm.trans (acu.symm.trans vO))
     ·cases h
    ·cases h
   ·cases h
  ·cases h
 | mp kt t=>
  replace h:KQ H kt t b=some (x,ids):=h;unfold KQ at h;split at h
  ·rename_i o;split at h
   ·rename_i lu t' m f hH;split at h
    ·rename_i q _;obtain⟨q⟩:=q;injection q with q1 q2
     subst q1 q2;injection h with h
     injection h with h1 h2
     subst h1 h2;obtain⟨hb,hm⟩:=hv;refine⟨[v],.sm hH hb (fun _ h=>h) .nil,fun bn lU=>⟨⟨lU 0 v rfl,hm⟩,fun j y u hy hu=>?_⟩⟩;cases j with
     | zero=>injection hy with hy;injection hu with hu;subst hy hu;exact hs.o o _ _ hH hb
     | succ j=>cases hy
    ·cases h
   ·cases h
  ·cases h
 | mr kt t e=>
  replace h:KP H kt t e b=some (x,ids):=h;unfold KP at h;split at h
  ·rename_i p;split at h
   ·rename_i q hP;split at h
    ·rename_i p' lu t' e' m f hQ;split at h
     ·rename_i q' _;obtain⟨q'⟩:=q';injection q' with q1 q2
      injection q2 with q2
      subst q1 q2;split at h
      ·rename_i ee;obtain⟨rfl,rfl⟩:=ee;injection h with h
       injection h with h1 h2
       subst h1 h2;obtain⟨hb,b0,rfl⟩:=hv;have Jk:q<bs.length:=by rw[hs.len];exact(aag.1 hQ).1
       have LD:=aae Jk;refine⟨[.map (some b0),bs[q]],.sm hP hb (fun _ h=>h) (.sm hQ LD (fun _ h=>h) .nil),fun bn lU=>⟨⟨lU 0 _ rfl,_,rfl⟩,fun j y u hy hu=>?_⟩⟩;cases j with
       | zero=>injection hy with hy;injection hu with hu;subst hy hu;exact⟨_,rfl⟩
       | succ j=>
        cases j with
        | zero=>
         injection hy with hy;injection hu with hu;subst hy hu
         obtain⟨b,l,g,e1,h1,hr⟩:=hs.o q _ _ hQ LD;rw[hb] at h1;injection h1 with h1
         injection h1 with h1
         injection h1 with h1
         subst h1;exact⟨_,l,g,e1,lU 0 _ rfl,hr⟩
        | succ j=>cases hy
      ·cases h
     ·cases h
    ·cases h
   ·cases h
  ·cases h
theorem IG (hs:HS cx bs w S H):∀{l:List CS} {qs:List AV} {x:eT l} {ids:List (Option Nat)} {vs:List Value},yL H l qs=some (x,ids)→F2 (VR bs w S) qs vs→∀n, ∃us,Re bs H ids (tR n l x).2 us∧∀bn,FG bn us n→F2 (VR bn w S) (tR n l x).1 vs∧j0 bn w S (tR n l x).2 us
 | [],[],x,ids,_,h,hv,n=>by cases hv;injection h with h;injection h with h1 h2;subst h1 h2;exact⟨[],.nil,fun _ _=>⟨.nil,fun j y u hy=>by cases hy⟩⟩
 | s::l,b::qs,x,ids,_,h,hv,n=>by
  cases hv with
  | cons h1 h2=>
   unfold yL at h;split at h
   ·rename_i p q hp hq;injection h with h
    injection h with e1 e2
    subst e1 e2;obtain⟨us1,r1,k1⟩:=Og hs (x:=p.1) (ids:=p.2) hp h1 n;obtain⟨us2,r2,k2⟩:=IG hs (x:=q.1) (ids:=q.2) hq h2 (n+(vj n s p.1).2.length);refine⟨us1++us2,r1.append r2,fun bn lU=>?_⟩;obtain⟨v1,o1⟩:=k1 bn lU.left;obtain⟨v2,o2⟩:=k2 bn (by have:=lU.right;rw[r1.len.2] at this;exact this);exact⟨.cons v1 v2,o1.append o2 r1.len.2⟩
   ·cases h
 | [],_::_,_,_,_,h,_,_=>by cases h
 | _::_,[],_,_,_,h,_,_=>by cases h
theorem Tt (hs:HS cx bs w S H) {s:SS} {b:XV} {x:SW s} {ids:List (Option Nat)} {v:Value} (h:Tu H s b=some (x,ids)) (hv:XR bs w S b v) (hns:s.isSb=false) (n:Nat) : ∃us,Re bs H ids (yB n s x).2 us∧∀bn,FG bn us n→XR bn w S (yB n s x).1 v∧j0 bn w S (yB n s x).2 us:=by
 cases s with
 | c s=>
  replace h:rdA H s b=some (x,ids):=h;cases b with
  | one c=>exact Og hs (s:=s) (x:=x) h hv n
  | _=>cases h
 | st k=>
  replace h:rdG k b=some (x,ids):=h;cases b with
  | agg cs=>
   replace h:(un (.st k) cs).map (fun x=>(x,([]:List (Option Nat))))=some (x,ids):=h;cases e:un (.st k) cs with
   | none=>rw[e] at h;cases h
   | some y=>
    rw[e] at h;injection h with h
    injection h with h1 h2
    subst h1 h2;obtain⟨vs,rfl,hf⟩:=hv;exact⟨[],.nil,fun bn _=>⟨⟨vs,rfl,ki (kz e hf)⟩,fun j y u hy=>by cases hy⟩⟩
  | _=>cases h
 | box ty cs=>
  replace h:rdB H ty cs b=some (x,ids):=h;unfold rdB at h;split at h
  ·rename_i o;split at h
   ·rename_i pZ qs hH;split at h
    ·rename_i ee;subst ee;cases hu:yL H cs qs with
     | none=>rw[hu] at h;cases h
     | some p=>
      rw[hu] at h;injection h with h
      injection h with h1 h2
      subst h1 h2;obtain⟨g,hb,rfl⟩:=hv;obtain⟨g',vs,e2,hk,hf⟩:=hs.o o _ _ hH hb;obtain⟨us,r1,k1⟩:=IG hs (x:=p.1) (ids:=p.2) hu hf (n+1);refine⟨.pointer (some ⟨g,0,none⟩)::us,.sm hH hb (fun _ h=>h) r1,fun bn lU=>?_⟩;have ub:FG bn us (n+1):=fun j u hj=>by
       have:=lU (j+1) u (by simpa using hj)
       rwa [show n+(j+1)=n+1+j by omega] at this
      obtain⟨v1,o1⟩:=k1 bn ub;refine⟨⟨g,lU 0 _ rfl,rfl⟩,fun j y u hy hu=>?_⟩;cases j with
      | zero=>injection hy with hy;injection hu with hu;subst hy hu;exact⟨g',vs,e2,hk,v1⟩
      | succ j=>exact o1 j y u (acu.symm.trans hy) (acu.symm.trans hu)
    ·cases h
   ·cases h
  ·cases h
 | fn k=>
  replace h:YJ k b=some (x,ids):=h;unfold YJ at h;split at h
  ·rename_i j a b';split at h
   ·rename_i e;obtain⟨rfl,ea,eb⟩:=e;injection h with h
    injection h with h1 h2
    subst h2;obtain rfl:=acf ea;obtain rfl:=acf eb;exact⟨[],.nil,fun bn _=>⟨hv,fun j y u hy=>by cases hy⟩⟩
   ·cases h
  ·cases h
 | sb o o2=>cases hns
 | cl k t=>
  replace h:YK k t b=some (x,ids):=h;unfold YK at h;split at h
  ·split at h
   ·rename_i q _;obtain⟨q⟩:=q;subst q;split at h
    ·rename_i e;subst e;injection h with h
     injection h with h1 h2
     subst h1 h2;exact⟨[],.nil,fun bn _=>⟨hv,fun j y u hy=>by cases hy⟩⟩
    ·cases h
   ·cases h
  ·cases h
 | rf k=>
  replace h:YH k b=some (x,ids):=h;unfold YH at h;split at h
  ·split at h
   ·rename_i q _;obtain⟨q⟩:=q;subst q;injection h with h
    injection h with h1 h2
    subst h1 h2;exact⟨[],.nil,fun bn _=>⟨hv,fun j y u hy=>by cases hy⟩⟩
   ·cases h
  ·cases h
theorem YG (hs:HS cx bs w S H) {s:SS} {b:XV} {x:SW s} {ids:List (Option Nat)} {v:Value} (h:Tu H s b=some (x,ids)) (hv:XR bs w S b v) (n:Nat) : ∃us,Re bs H ids (yB n s x).2 us∧∀bn,FG bn us n→(∀o o2 o' q,s=.sb o o2→b=.one (.sub o' q 0)→bn[o2]?=bs[q]?)→XR bn w S (yB n s x).1 v∧j0 bn w S (yB n s x).2 us:=by
 cases hb:s.isSb with
 | false=>obtain⟨us,r,k⟩:=Tt hs h hv hb n;exact⟨us,r,fun bn lU _=>k bn lU⟩
 | true=>
  cases s with
  | sb o o2=>
   replace h:YF b=some (x,ids):=h;unfold YF at h;split at h
   ·rename_i o' q;injection h with h
    injection h with h1 h2
    subst h2;obtain⟨g,p,q1,q2⟩:=hv;exact⟨[],.nil,fun bn _ Sn=>⟨⟨g,p,(Sn o o2 o' q rfl rfl).trans q1,q2⟩,fun j y u hy=>by cases hy⟩⟩
   ·cases h
  | _=>cases hb
def ags (bs bn:List Value) (env:Env) (l:List (Nat×SS)):Prop:=∀t o o2 o' q,(t,SS.sb o o2)∈l→env.lookup t=some (.one (.sub o' q 0))→bn[o2]?=bs[q]?
theorem ID {l:List (Nat×SS)} {r:cF l×List (Option Nat)} (h:Ds H env l=some r):IF H env l=some r∧∀bs bn,ags bs bn env l:=by
 unfold Ds at h;split at h
 ·rename_i hl;refine⟨h,fun bs bn t o o2 o' q hm=>?_⟩;have:=aaR.1 hl _ hm;cases this
 ·cases h
theorem Bl (hs:HS cx bs w S H) (he:ER m bs w S env a):∀{l:List (Nat×SS)} {x:cF l} {ids:List (Option Nat)},IF H env l=some (x,ids)→∀n, ∃us,Re bs H ids (tQ n l x).2 us∧∀bn,FG bn us n→ags bs bn env l→(∀t y,(t,y)∈(tQ n l x).1→∃v,a.tmps[t]?=some v∧XR bn w S y v)∧j0 bn w S (tQ n l x).2 us
 | [],x,ids,h,n=>by injection h with h;injection h with h1 h2;subst h1 h2;exact⟨[],.nil,fun _ _ _=>⟨(fun _ _ h=>by cases h),fun j y u hy=>by cases hy⟩⟩
 | p::l,x,ids,h,n=>by
  unfold IF at h;split at h
  ·rename_i q r hq hr;injection h with h
   injection h with e1 e2
   subst e1 e2;cases e:env.lookup p.1 with
   | none=>rw[e] at hq;cases hq
   | some y=>
    rw[e] at hq;obtain⟨v,hv,hx⟩:=he.k _ _ (ll e);obtain⟨us1,r1,k1⟩:=YG hs (x:=q.1) (ids:=q.2) hq hx n;obtain⟨us2,r2,k2⟩:=Bl hs he (x:=r.1) (ids:=r.2) hr (n+(yB n p.2 q.1).2.length);refine⟨us1++us2,r1.append r2,fun bn lU Sn=>?_⟩;obtain⟨v1,o1⟩:=k1 bn lU.left fun o o2 o' q e1 e2=>Sn p.1 o o2 o' q (by rw[←e1];exact aaw) (by rw[e,e2]);obtain⟨v2,o2⟩:=k2 bn (by have:=lU.right;rw[r1.len.2] at this;exact this) fun t o o2 o' q hm=>Sn t o o2 o' q (aaN _ hm);refine⟨fun t y hy=>?_,o1.append o2 r1.len.2⟩;rcases aaP.1 hy with e3|hy
    ·injection e3 with e3 e4
     subst e3 e4;exact⟨v,hv,v1⟩
    ·exact v2 t y hy
  ·cases h
theorem Ck {x y:ai} {v:Value} {b:Nat} (h:∀c,Bk y v c→Bk x v c) (hb:Bk y v b):Bk x v b:=h b hb
theorem oi {st:eu} {l:List (Nat×SS)} {x:cF l} (h:pw cx.pb l st=some x) (hs:HS cx bs w S st.heap) (he:ER m bs w S st.env a):∃us,HS cx us w S (dz l x).heap∧ER m us w S (dz l x).env a:=by
 unfold pw at h;cases e:IF st.heap st.env l with
 | none=>rw[e] at h;cases h
 | some p=>
  rw[e] at h;have h:(if Eb cx.pb p.2&&adv st.env p.2 l then some p.1 else none)=some x:=h;split at h
  ·rename_i hid;rw[aaI] at hid;obtain⟨hid,aj2⟩:=hid;injection h with h
   subst h;obtain⟨us,r,k⟩:=Bl hs he (x:=p.1) (ids:=p.2) e 0;have bG:=r.len;obtain⟨k1,k2⟩:=k us (fun j u hj=>by rw[ab7];exact hj) fun t o o2 o' q hm hl=>by
    have:=aaR.1 aj2 _ hm;simp only[hl,beq_iff_eq] at this;have hi:o2<(tQ 0 l p.1).2.length:=by rw[←bG.1];exact(aag.1 this).1
    have hu:o2<us.length:=by rw[bG.2];exact hi
    rcases r.get o2 _ _ (aae hi) (aae hu) with⟨o3,x1,q1,q2,q3,q4⟩|⟨q1,_⟩
    ·rw[this] at q1;injection q1 with q1
     injection q1 with q1
     subst q1;rw[q3,aae hu]
    ·rw[this] at q1;cases q1
   unfold Eb at hid;rw[aaI] at hid;obtain⟨afs,akB⟩:=hid;refine⟨us,⟨bG.2,fun i y v hy hv=>k2 i y v hy hv,?_,?_,hs.s,hs.s0,hs.os,hs.tape,hs.output,hs.size,hs.old,?_⟩,he.d,he.s,k1⟩
   ·intro i j y z u v b yC hy hu hz hv cK cm;rcases r.get i y u hy hu with⟨o,x1,q1,q2,q3,q4⟩|⟨_,q⟩
    ·rcases r.get j z v hz hv with⟨o',x2,q5,q6,q7,q8⟩|⟨_,q⟩
     ·refine hs.ap o o' x1 x2 u v b (fun eo=>?_) q2 q3 q6 q7 (Ck q4 cK) (Ck q8 cm);subst eo;have hi:i<p.2.length:=(aag.1 q1).1;have hj:j<p.2.length:=(aag.1 q5).1;rcases Nat.lt_or_gt_of_ne yC with hlt|hlt
      ·have:=aaR.1 (aaR.1 afs j (abX.2 hj)) i (abX.2 hlt);rw[q1,q5] at this;simp at this
      ·have:=aaR.1 (aaR.1 afs i (abX.2 hi)) j (abX.2 hlt);rw[q1,q5] at this;simp at this
     ·exact absurd cm (q b)
    ·exact absurd cK (q b)
   ·intro i y u b hy hu hb;rcases r.get i y u hy hu with⟨o,x1,q1,q2,q3,q4⟩|⟨_,q⟩
    ·exact hs.nw o x1 u b q2 q3 (Ck q4 hb)
    ·exact absurd hb (q b)
   ·intro i g hip hg hg2;have hp:=aaR.1 akB i hip;have hp:p.2[i]?=some (some i):=by simpa using hp
    have hi:i<(tQ 0 l p.1).2.length:=by rw[←bG.1];exact(aag.1 hp).1
    have hu:i<us.length:=by rw[bG.2];exact hi
    rcases r.get i _ _ (aae hi) (aae hu) with⟨o,x1,q1,q2,q3,q4⟩|⟨q,_⟩
    ·rw[hp] at q1;injection q1 with q1
     injection q1 with q1
     subst q1;have:=hs.an i g hip hg hg2;rw[q3] at this;rw[aae hu];exact this
    ·rw[hp] at q;cases q
  ·cases h
theorem vE {st:eu} {l:List (Nat×SS)} {x:cF l} (h:pw cx.pb l st=some x) (cA:fJ m cx st a w):fJ m cx (dz l x) a w:=by
 obtain⟨bs,S,hs,he⟩:=cA;obtain⟨us,q1,q2⟩:=oi h hs he;exact⟨us,S,q1,q2⟩
def BdT:(t:Ty)→El t→Prop
 | .list _,xs=>xs.length≤9223372036854775807
 | _,_=>True
def BdC:(s:CS)→CV s→Prop
 | .d t,x=>BdT t x
 | .own _ _,rs=>rs.length≤9223372036854775807
 | .any,_=>True
 | .zc _ _ _,_=>True
 | .zip _ _ _ _,_=>True
 | .mp _ _,_=>True
 | .mr _ _ _,_=>True
def BdF:(ts:List Ty)→JY ts→Prop
 | [],_=>True
 | t::ts,x=>BdT t x.1∧BdF ts x.2
def aca:(l:List CS)→eT l→Prop
 | [],_=>True
 | s::l,x=>BdC s x.1∧aca l x.2
def BdS:(s:SS)→SW s→Prop
 | .c s,x=>BdC s x
 | .st k,x=>BdF (uU k) (CY k x)
 | .box _ cs,x=>aca cs x
 | .fn _,_=>True
 | .rf _,_=>True
 | .cl _ _,_=>True
 | .sb _ _,_=>True
def MM:(l:List (Nat×SS))→cF l→Prop
 | [],_=>True
 | p::l,x=>BdS p.2 x.1∧MM l x.2
theorem N4 {α:Type} (x:List α):x.length≤x.reverse.length:=by simp
theorem Rq {us:List Value} {t:Ty} {x:El t} {v:Value} (hx:VR us w S (one t x) v):BdT t x:=by
 cases t with
 | list t=>
  obtain⟨A,q,c,_,hr,_⟩:=hx;show List.length (α:=El t) x≤_;rw[hr.len];exact hr.max
 | _=>exact trivial
theorem Ru {us:List Value} {n:Nat} {s:CS} {x:CV s} {v:Value} (hx:VR us w S (vj n s x).1 v) (ho:∀(j:Nat) (y:ai) (u:Value),(vj n s x).2[j]?=some y→us[n+j]?=some u→OR us w S y u):BdC s x:=by
 cases s with
 | d t=>exact Rq hx
 | own t e=>
  obtain⟨hb,A,q,c,e1⟩:=hx;have h1:Own (α:=El t) w S 0 e v (List.reverse (α:=El t) x):=ho 0 _ v rfl (by rw[ac7];exact hb);obtain⟨cs,⟨_,h2⟩,_⟩:=h1;show List.length (α:=El t) x≤_;rcases h2 with⟨_,h2⟩|⟨g,cap,cur,_,_,_,h3,h4,_⟩
  ·exact aaM (N4 (α:=El t) x) (aaM (Nat.le_of_eq h2) (by decide))
  ·unfold maxLen at h4;exact aaM (N4 (α:=El t) x) (aaM h3 h4)
 | any=>exact trivial
 | zc t tn e=>exact trivial
 | zip t tn e zs=>exact trivial
 | mp kt t=>exact trivial
 | mr kt t e=>exact trivial
theorem Rt {us:List Value}:∀{ts:List Ty} {x:JY ts} {vs:List Value},F2 (VR us w S) (Jx ts x) vs→BdF ts x
 | [],_,_,_=>trivial
 | t::ts,x,vs,h=>by
  cases h with
  | cons h1 h2=>exact⟨Rq h1,Rt h2⟩
theorem JP {us:List Value}:∀{l:List CS} {x:eT l} {n:Nat} {vs:List Value},F2 (VR us w S) (tR n l x).1 vs→(∀(j:Nat) (y:ai) (u:Value),(tR n l x).2[j]?=some y→us[n+j]?=some u→OR us w S y u)→aca l x
 | [],_,_,_,_,_=>trivial
 | s::l,x,n,vs,h,ho=>by
  cases h with
  | cons h1 h2=>
   refine⟨Ru h1 fun j y u hy hu=>ho j y u (by
    show((vj n s x.1).2++_)[j]?=_;rw[aaz (aag.1 hy).1];exact hy) hu,JP (n:=n+(vj n s x.1).2.length) h2 fun j y u hy hu=>ho ((vj n s x.1).2.length+j) y u ?_ (by rw[←aci];exact hu)⟩
   show((vj n s x.1).2++_)[_]?=_;rw[aam (by omega),abK];exact hy
theorem abH {us:List Value} {n:Nat} {s:SS} {x:SW s} {v:Value} (hx:XR us w S (yB n s x).1 v) (ho:∀(j:Nat) (y:ai) (u:Value),(yB n s x).2[j]?=some y→us[n+j]?=some u→OR us w S y u):BdS s x:=by
 cases s with
 | c s=>exact Ru hx ho
 | st k=>obtain⟨vs,_,h⟩:=hx;exact Rt h
 | box ty cs=>
  obtain⟨g,h1,_⟩:=hx;obtain⟨_,vs,_,_,h2⟩:=ho 0 _ _ rfl (by rw[ac7];exact h1);exact JP (n:=n+1) h2 fun j y u hy hu=>ho (j+1) y u hy (by rw[show n+(j+1)=n+1+j by omega];exact hu)
 | fn k=>exact trivial
 | rf k=>exact trivial
 | cl k t=>exact trivial
 | sb o o2=>exact trivial
theorem Rr {us:List Value}:∀{l:List (Nat×SS)} {x:cF l} {n:Nat},(∀t y,(t,y)∈(tQ n l x).1→∃v,XR us w S y v)→(∀(j:Nat) (y:ai) (u:Value),(tQ n l x).2[j]?=some y→us[n+j]?=some u→OR us w S y u)→MM l x
 | [],_,_,_,_=>trivial
 | p::l,x,n,h1,h2=>by
  obtain⟨v,hv⟩:=h1 _ _ aaw;refine⟨abH (n:=n) hv fun j y u hy hu=>h2 j y u (by
   show((yB n p.2 x.1).2++_)[j]?=_;rw[aaz (aag.1 hy).1];exact hy) hu,Rr (n:=n+(yB n p.2 x.1).2.length) (fun t y hy=>h1 t y (aaN _ hy)) fun j y u hy hu=>?_⟩
  refine h2 ((yB n p.2 x.1).2.length+j) y u ?_ (by rw[←aci];exact hu);show((yB n p.2 x.1).2++_)[_]?=_;rw[aam (by omega),abK];exact hy
theorem Rp {l:List (Nat×SS)} {x:cF l} (h:fJ m cx (dz l x) a w):MM l x:=by
 obtain⟨us,S,hs,he⟩:=h;exact Rr (n:=0) (fun t y hy=>let ⟨v,_,hx⟩:=he.k t y hy;⟨v,hx⟩) fun j y u hy hu=>hs.o j y u hy (by rwa [ab7] at hu)
end
end Go.Proofs.YtdbpbfglhbiadaaGreatDoor
