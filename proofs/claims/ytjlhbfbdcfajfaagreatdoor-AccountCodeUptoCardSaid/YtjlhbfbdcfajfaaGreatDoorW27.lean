/- MRun1 MRun2 MSpec -/
import Derived.Test.YtjlhbfbdcfajfaaGreatDoorW00
import Derived.Test.YtjlhbfbdcfajfaaGreatDoorW26
import Derived.Deep.LoopGhost
set_option maxHeartbeats 8000000
set_option maxRecDepth 100000
namespace Go.Proofs.YtjlhbfbdcfajfaaGreatDoor
open Go Go.RowKit
structure ani (P:Program) where
 ty:TypeId→Option Ty
 D:List (Sm P)
 isP:IsP P
def Af (m:Nat) (o:Oper):Bool:=match o.dst with
 | some t=>decide (t<m)
 | none=>true
def yb (Hv Hf:List aj):Prop:=Hv.length=Hf.length∧∀(i:Nat) (x:aj),Hv[i]?=some x→x=.dead∨Hf[i]?=some x
structure hZ (P:Program) extends ani P where
 eff:Oper→Bool
 x:Nat→Oper→ek→T ek
 xok:∀(m:Nat) (o:Oper) (cx:Cx) (st dG:ek) (a:Act) (w:World) (K:Act→World→Prop) (Q:Exit→Act→World→Prop),eff o=true→Af m o=true→(x m o st).hit dG→fK m cx st a w→(∀a' w',fK m cx dG a' w'→K a' w')→o.wp P a w K Q
 d:Oper→Env→List aj→T (XV×List (Nat×aj))
 dok:∀(m:Nat) (o:Oper) (cx:Cx) (bs:List Value) (S:Nat→Prop) (env:Env) (Hv Hf:List aj) (a:Act) (w:World) (r:XV×List (Nat×aj)) (K:Act→World→Prop) (Q:Exit→Act→World→Prop),eff o=true→yb Hv Hf→HS cx bs w S Hf→ER m bs w S env a→(d o env Hv).hit r→(∀v w' S',HS cx bs w' S' (jo r.2 Hf)→(∀b,S b→S' b)→aA S w w'→XR bs w' S' r.1 v→K (a.put o.dst v) w')→o.wp P a w K Q
def VT (H:List aj):Option aj→List aj
 | none=>H
 | some x=>H++[x]
def yx (o:Oper) (st:ek):ek:=match o.op with
 | .buildSlice _ _ ps=>match lH st.env ps.toList with
  | some l=>(wB l).foldl (fun st i=>U4 i st) st
  | none=>st
 | _=>st
def sop {P:Program} (C:hZ P) (m:Nat) (o:Oper) (st:ek):T ek:=if Af m o then if C.eff o then C.x m o st else(match o.op with
 | .store t x y=>match o.dst with
  | none=>(T.op (XL P st.heap t (ev st.env x) (ev st.env y))).bind fun H=>.lf ⟨st.env,H⟩
  | some _=>.bad
 | .call { callee:=.builtin .append,args:=args,argTypes:=ts }=>match args.toList,ts.toList with
  | [s,x],[t,t']=>if t=t' then(afK P C.ty st.heap t (ev st.env s) (ev st.env x)).bind fun r=>.lf ⟨qZ st.env o.dst (some r.1),r.2⟩ else .bad
  | _,_=>.bad
 | .mapUpdate t x k v=>match o.dst with
  | none=>(YJ P C.ty st.heap.length (st.heap++[.dead]) t (ev st.env x) (ev st.env k) (ev st.env v)).bind fun r=>.lf ⟨st.env,jo (r.1++[(st.heap.length,r.2.getD .dead)]) (st.heap++[.dead])⟩
  | some _=>.bad
 | _=>(fun(st:ek)=>(Xe C.ty C.D st.heap.length st.env st.heap o).bind fun r=>.lf ⟨qZ st.env o.dst (some r.1),VT st.heap r.2⟩) (yx o st)) else .bad
def yU (st:ek) (o:Oper):ek:=⟨qZ st.env o.dst (some (.tup [])),st.heap⟩
def Gi (st:ek) (t:Nat) (b:Bool):ek:=⟨qZ st.env (some t) (some (.one (.val (.bool b)))),st.heap⟩
def gdT (m:Nat) (ops:Array Oper) (o:Oper) (f:ek→T ek) (st:ek):T ek:=match o.guard with
 | none=>f st
 | some (j,want)=>if Af m o then(match dI ops j with
  | some t=>match st.env.lookup t with
   | some (.one (.val (.bool b)))=>if b==want then f st else .lf (yU st o)
   | some (.one (.sym (.bool b)))=>.br b (if want then f (Gi st t true) else .lf (yU (Gi st t true) o)) (if want then .lf (yU (Gi st t false) o) else f (Gi st t false))
   | some (.tup [])=>.lf (yU st o)
   | _=>.bad
  | none=>.bad) else .bad
def FT {P:Program} (C:hZ P) (m:Nat) (ops:Array Oper):List Oper→ek→T ek
 | [],st=>.lf st
 | o::l,st=>(gdT m ops o (sop C m o) st).bind (FT C m ops l)
section
variable {P:Program} {o:Oper} {cx:Cx} {bs bn:List Value} {w w':World} {S:Nat→Prop} {H:List aj} {m:Nat} {env:Env} {a:Act} {cX:Nat} {K:Act→World→Prop} {Q:Exit→Act→World→Prop} {ops:Array Oper} {C:hZ P} {st dG:ek}
theorem UX (hs:HS cx bs w S st.heap) (he:ER m bs w S st.env a) (hd:Af m o=true) {r:XV×Option aj} (h:jS P o bs w S a st.heap.length r) (hK:∀a' w',fK m cx ⟨qZ st.env o.dst (some r.1),VT st.heap r.2⟩ a' w'→K a' w'):o.wp P a w K Q:=by
 refine h K Q fun v w' S' u hb hS hn hx hf=>hK _ _ ?_;have fV:=hs.grow hb hS hn;have zU:=he.grow hs hb hS;cases hr:r.2 with
 | none=>
  obtain⟨Uy,_⟩:=hx bs (jD.refl _) (by rw[hr];intro h;cases h);exact⟨bs,S',fV,zU.put o.dst (some r.1) v hd fun y hy=>by obtain rfl:=aaZ hy;exact Uy⟩
 | some x=>
  obtain⟨Uy,Cp⟩:=hx (bs++[u]) (oO _ _) (by rw[hr];intro _;rw[←hs.len,aa8 (abi _)];simp);have nD:=hf x hr;have hj:(st.heap++[aj.dead])[st.heap.length]?=some .dead:=by rw[aa8 (abi _)];simp
  have xo:(bs++[undef])[st.heap.length]?=some undef:=by rw[←hs.len,aa8 (abi _)];simp
  have BD:(st.heap++[aj.dead]).set st.heap.length x=st.heap++[x]:=by rw[acd _ _ (abi _)];simp
  have zO:(bs++[undef]).set st.heap.length u=bs++[u]:=by rw[←hs.len,acd _ _ (abi _)];simp
  have j4:=fV.pad.fill (x:=x) (v:=u) hj xo rfl (by rw[zO];exact Cp x hr) (fun b gz=>⟨.inl (abk hs.size (nD b gz).1),(nD b gz).2,fun i z q hz hq e=>by
   by_cases hi:i<st.heap.length
   ·rw[abc hi] at hz;rw[abc (by rw[hs.len];exact hi)] at hq;have:=(hs.o i z q hz hq).lt e;have:=(nD b gz).1;omega
   ·have h1:=(aad.1 hz).1;have e2:i=st.heap.length:=by simp at h1;omega
    subst e2;rw[hj] at hz;obtain rfl:=aaZ hz;cases e⟩)
  rw[BD,zO] at j4;exact⟨bs++[u],S',j4,(zU.keep (fun _ h=>h) (aA.refl _ _) (oO _ _)).put o.dst (some r.1) v hd fun y hy=>by obtain rfl:=aaZ hy;exact Uy⟩
theorem Jm:∀(l:List Nat) {st:ek},fK m cx st a w→fK m cx (l.foldl (fun st i=>U4 i st) st) a w
 | [],_,h=>h
 | i::l,_,h=>Jm l (xA (i:=i) h)
theorem Ts (h:fK m cx st a w):fK m cx (yx o st) a w:=by
 unfold yx;split
 ·split
  ·exact Jm _ h
  ·exact h
 ·exact h
theorem No (h:(sop C m o st).hit dG) (ct:fK m cx st a w) (hK:∀a' w',fK m cx dG a' w'→K a' w'):o.wp P a w K Q:=by
 unfold sop at h;split at h
 ·rename_i hd;split at h
  ·rename_i PP;exact C.xok m o cx st dG a w K Q PP hd h ct hK
  obtain⟨bs,S,hs,he⟩:=ct;split at h
  ·rename_i t x y hop;split at h
   ·rename_i xu;obtain⟨H',h1,h2⟩:=T.hit_bind h;have h2:(⟨st.env,H'⟩:ek)=dG:=h2;subst h2;exact SX hs he hop xu (T.hit_op h1) fun w' q1 q2=>hK _ _ ⟨bs,S,q1,he.keep (fun _ h=>h) q2 (jD.refl _)⟩
   ·exact h.elim
  ·rename_i args ts hop;split at h
   ·rename_i s x t t' ha ht;split at h
    ·rename_i e;subst e;obtain⟨r,h1,h2⟩:=T.hit_bind h;have h2:(⟨qZ st.env o.dst (some r.1),r.2⟩:ek)=dG:=h2;subst h2;have ha':args=#[s,x]:=by rw[←abT (xs:=args),ha]
     have UC:ts=#[t,t]:=by rw[←abT (xs:=ts),ht]
     rw[ha',UC] at hop;exact VK hs he hop h1 fun v w' bn q1 q2 qa q3=>hK _ _ ⟨bn,S,q1,(he.keep (fun _ h=>h) q2 qa).put o.dst (some r.1) v hd fun y hy=>by obtain rfl:=aaZ hy;exact q3⟩
    ·exact h.elim
   ·exact h.elim
  ·rename_i t x k v hop;split at h
   ·rename_i xu;obtain⟨r,h1,h2⟩:=T.hit_bind h;have h2:(⟨st.env,_⟩:ek)=dG:=h2;subst h2;have hpe:ER m (bs++[undef]) w S st.env a:=he.keep (fun _ h=>h) (aA.refl _ _) (oO _ _);exact Ow hs.pad hpe C.isP hop xu (by rw[aa8 (abi _)];simp) (by rw[←hs.len,aa8 (abi _)];simp) h1 fun w' bn q1 q2 q3 _=>hK _ _ ⟨bn,S,q1,hpe.keep (fun _ h=>h) q2 q3⟩
   ·exact h.elim
  ·have nC:fK m cx (yx o st) a w:=Ts ⟨bs,S,hs,he⟩;have h:((Xe C.ty C.D (yx o st).heap.length (yx o st).env (yx o st).heap o).bind fun r=>T.lf (⟨qZ (yx o st).env o.dst (some r.1),VT (yx o st).heap r.2⟩:ek)).hit dG:=h;generalize yx o st=st1 at h nC;obtain⟨bs,S,hs,he⟩:=nC;obtain⟨r,h1,h2⟩:=T.hit_bind h;have h2:(⟨qZ st1.env o.dst (some r.1),VT st1.heap r.2⟩:ek)=dG:=h2;subst h2;exact UX hs he hd (BM C.isP hs he h1) hK
 ·exact h.elim
theorem ER.lit (he:ER m bs w S env a) {t:Nat} {y:XV} {v:Value} (hv:a.tmps[t]?=some v) (hx:XR bs w S y v):ER m bs w S (qZ env (some t) (some y)) a:=by
 refine⟨he.d,he.s,fun u z hz=>?_⟩;rcases abq.1 hz with e|hz
 ·injection e with e1 e2
  subst e1 e2;exact⟨v,hv,hx⟩
 ·exact he.k u z (acS.1 hz).1
theorem fK.lit (h:fK m cx st a w) {t:Nat} {b c:Bool} (hl:st.env.lookup t=some (.one (.sym (.bool b)))) (hc:b=c):fK m cx (Gi st t c) a w:=by
 obtain⟨bs,S,hs,he⟩:=h;obtain⟨v,hv,hx⟩:=he.k _ _ (lh hl);obtain⟨rfl,_⟩:=hx;subst hc;exact⟨bs,S,hs,he.lit hv ⟨rfl,rfl⟩⟩
theorem fK.skip (h:fK m cx st a w) (hd:Af m o=true):fK m cx (yU st o) (a.put o.dst undef) w:=by
 obtain⟨bs,S,hs,he⟩:=h;exact⟨bs,S,hs,he.put o.dst (some (.tup [])) undef hd fun y hy=>by obtain rfl:=aaZ hy;exact⟨[],rfl,.nil⟩⟩
theorem sR {j t:Nat} {want:Bool} (hg:o.guard=some (j,want)) (ht:dI ops j=some t) (hv:a.tmps[t]?=some undef):Region.wanted o (yielded ops a.tmps)=false:=by
 unfold Region.wanted;rw[hg];have hy:yielded ops a.tmps j=none:=by
  unfold yielded;unfold dI at ht;cases ho:ops[j]? with
  | none=>rw[ho] at ht;cases ht
  | some q=>
   rw[ho] at ht;have UC:q.dst=some t:=ht;simp[UC,hv,undef]
 simp only[hy];rfl
theorem Kg (h:fK m cx st a w) {t:Nat} (hl:st.env.lookup t=some (.tup [])):a.tmps[t]?=some undef:=by
 obtain⟨bs,S,hs,he⟩:=h;obtain⟨v,hv,vs,e1,e2⟩:=he.k _ _ (lh hl);cases e2
 rw[hv,e1];rfl
theorem oV {j t:Nat} {want b:Bool} (hg:o.guard=some (j,want)) (ht:dI ops j=some t) (hv:a.tmps[t]?=some (.bool b)):Region.wanted o (yielded ops a.tmps)=(b==want):=by
 unfold Region.wanted;rw[hg];have hy:yielded ops a.tmps j=some b:=by
  unfold yielded;unfold dI at ht;cases ho:ops[j]? with
  | none=>rw[ho] at ht;cases ht
  | some q=>
   rw[ho] at ht;have UC:q.dst=some t:=ht;simp[UC,hv]
 simp only[hy];cases b<;>cases want<;>rfl
theorem Nq (h:fK m cx st a w) {t:Nat} {b:Bool} (hl:st.env.lookup t=some (.one (.sym (.bool b)))):a.tmps[t]?=some (.bool b):=by
 obtain⟨bs,S,hs,he⟩:=h;obtain⟨v,hv,hx⟩:=he.k _ _ (lh hl);obtain⟨rfl,_⟩:=hx;exact hv
theorem Np (h:fK m cx st a w) {t:Nat} {b:Bool} (hl:st.env.lookup t=some (.one (.val (.bool b)))):a.tmps[t]?=some (.bool b):=by
 obtain⟨bs,S,hs,he⟩:=h;obtain⟨v,hv,hx⟩:=he.k _ _ (lh hl);obtain⟨rfl,_⟩:=hx;exact hv
theorem Qm {f:ek→T ek} {i:Nat} (ho:ops[i]?=some o) (h:(gdT m ops o f st).hit dG) (ct:fK m cx st a w) (hf:∀st,(f st).hit dG→fK m cx st a w→o.wp P a w K Q) (hK:∀a' w',fK m cx dG a' w'→K a' w'):wpOp P ops Q i K a w:=by
 have go:∀st,(f st).hit dG→fK m cx st a w→Region.wanted o (yielded ops a.tmps)=true→wpOp P ops Q i K a w:=fun st h1 h2 h3=>vH ho h3 (hf st h1 h2);have no:∀st,Af m o=true→yU st o=dG→fK m cx st a w→Region.wanted o (yielded ops a.tmps)=false→wpOp P ops Q i K a w:=by
  intro st hd h1 h2 h3;unfold wpOp;rw[ho];simp only[h3,abx,if_false];subst h1;exact hK _ _ (h2.skip hd)
 unfold gdT at h;split at h
 ·rename_i hg;exact go st h ct (by simp[Region.wanted,hg])
 ·rename_i j want hg;split at h
  ·rename_i hd;split at h
   ·rename_i t ht;split at h
    ·rename_i b hl;have hw:=oV hg ht (Np ct hl);split at h
     ·rename_i e;rw[e] at hw;exact go st h ct hw
     ·rename_i e;rw[Bool.not_eq_true] at e;rw[e] at hw;exact no st hd h ct hw
    ·rename_i b hl;have hw:=oV hg ht (Nq ct hl);cases b with
     | true=>
      have h:=h.1 rfl;have nC:=ct.lit hl (c:=true) rfl;cases want with
      | true=>exact go _ h nC hw
      | false=>exact no _ hd h nC hw
     | false=>
      have h:=h.2 rfl;have nC:=ct.lit hl (c:=false) rfl;cases want with
      | true=>exact no _ hd h nC hw
      | false=>exact go _ h nC hw
    ·rename_i hl;exact no st hd h ct (sR hg ht (Kg ct hl))
    ·exact h.elim
   ·exact h.elim
  ·exact h.elim
theorem AR:∀(l:List Oper) (i:Nat) {st:ek} {a:Act} {w:World},ops.toList.drop i=l→(FT C m ops l st).hit dG→fK m cx st a w→(∀a' w',fK m cx dG a' w'→Q .normal a' w')→wpOps P ops Q (List.range' i l.length) a w
 | [],i,st,a,w,hl,h,ct,hQ=>by
  have h:st=dG:=h;subst h;exact hQ a w ct
 | o::l,i,st,a,w,hl,h,ct,hQ=>by
  obtain⟨st1,h1,h2⟩:=T.hit_bind h;have ho:ops[i]?=some o:=by
   have:=congrArg (fun l:List Oper=>l[0]?) hl;simp only[ab5,acX,adi,Array.getElem?_toList] at this;exact this
  have yI:ops.toList.drop (i+1)=l:=by
   rw[←ad5,hl];rfl
  rw[abp,List.range'_succ,wpOps_cons];exact Qm ho h1 ct (fun st q1 q2=>No q1 q2 fun a' w' q=>AR l (i+1) yI h2 q hQ) fun a' w' q=>AR l (i+1) yI h2 q hQ
theorem Kv {id:Nat} (h:(FT C m ops ops.toList st).hit dG) (ct:fK m cx st a w) (hQ:∀a' w',fK m cx dG a' w'→Q .normal a' w'):(Code.region id ops false).wp P Q a w:=by
 refine wp_region ?_;have:=AR (C:=C) ops.toList 0 rfl h ct hQ;rw[abC] at this;rw[List.range_eq_range'];exact this
end
inductive Lf where
 | nrm (st:ek)
 | ext (id:Nat) (st:ek)
 | ret (r:XV) (st:ek)
inductive KI where
 | code (n:Nat) (c:Code)
 | blk (id:Nat)
def kO:Code→List Code
 | .seq a b=>kO a++kO b
 | .cond _ a b=>kO a++kO b
 | .block _ b=>kO b
 | .loop b=>.loop b::kO b
 | _=>[]
def pv (id:Nat):List KI→Option (List KI)
 | []=>none
 | .blk j::ks=>if id=j then some ks else pv id ks
 | .code _ _::ks=>pv id ks
def RtS (P:Program) (fn:Func) (m:Nat) (cx:Cx) (r:XV) (st:ek) (a:Act) (w:World):Prop:=
 ∃bs S S',HS cx bs w S st.heap∧ER m bs w S st.env a∧(∀b,S' b→(cx.S0 b∨cx.w0.heap.size≤b∨cx.M b)∧b<w.heap.size)∧(cx.pb=[]∨∀b,S' b→S b)∧∃v,(results fn a.tmps).run P w=.ok v w∧XR [] w S' r v
structure Rg (P:Program) (m:Nat) where
 fn:Func
 pb:List Nat
 reg:Nat→Array Oper→Bool→ek→T ek
 ok:∀id ops dr (cx:Cx) (st dG:ek) (a:Act) (w:World) (Q:Exit→Act→World→Prop),(reg id ops dr st).hit dG→fK m cx st a w→(∀a' w',fK m cx dG a' w'→Q .normal a' w')→(Code.region id ops dr).wp P Q a w
 res:ek→Option XV
 resOk:∀(cx:Cx) (st:ek) (a:Act) (w:World) (r:XV),cx.pb=pb→res st=some r→fK m cx st a w→RtS P fn m cx r st a w
def LQ (P:Program) (fn:Func) (m:Nat) (cx:Cx) (l:Lf):Exit→Act→World→Prop
 | .normal,a,w=>∃st,Lf.nrm st=l∧fK m cx st a w
 | .exit id,a,w=>∃st,Lf.ext id st=l∧fK m cx st a w
 | .ret,a,w=>∃r st,Lf.ret r st=l∧RtS P fn m cx r st a w
 | _,_,_=>False
def Cm (P:Program) (fn:Func) (m:Nat) (pb:List Nat) (c:Code) (f:ek→T Lf):Prop:=∀(cx:Cx) (st:ek) (a:Act) (w:World) (l:Lf),cx.pb=pb→(f st).hit l→fK m cx st a w→c.wp P (LQ P fn m cx l) a w
structure Cj (P:Program) (fn:Func) (m:Nat) (pb:List Nat) (loops:List Code) where
 f:Nat→Option (ek→T Lf)
 ok:∀(k:Nat) (g:ek→T Lf) (c:Code),f k=some g→loops[k]?=some c→Cm P fn m pb c g
def QU (x:Operand) (st:ek) (f:Bool→ek→T Lf):T Lf:=match ev st.env x with
 | some (.one (.val (.bool v)))=>f v st
 | some (.one (.sym (.bool v)))=>match x with
  | .tmp t=>.br v (f true (Gi st t true)) (f false (Gi st t false))
  | _=>.bad
 | _=>.bad
section
variable {P:Program} {m:Nat} {loops:List Code} (R:Rg P m) (L:Cj P R.fn m R.pb loops)
def run:Nat→List KI→ek→T Lf
 | 0,_,_=>.bad
 | _+1,[],st=>.lf (.nrm st)
 | n+1,.blk _::ks,st=>run n ks st
 | n+1,.code i c::ks,st=>match c with
  | .skip=>run n ks st
  | .label _=>run n ks st
  | .seq a b=>run n (.code i a::.code (i+(kO a).length) b::ks) st
  | .block id b=>run n (.code i b::.blk id::ks) st
  | .exit id=>match pv id ks with
   | some Uq=>run n Uq st
   | none=>.lf (.ext id st)
  | .ret=>(T.op (R.res st)).bind fun r=>.lf (.ret r st)
  | .cond x a b=>QU x st fun v st=>run n ((if v then .code i a else .code (i+(kO a).length) b)::ks) st
  | .region id ops dr=>(R.reg id ops dr st).bind (run n ks)
  | .loop b=>match L.f i with
   | some g=>(g st).bind fun l=>match l with
    | .nrm dG=>run n ks dG
    | .ext id dG=>match pv id ks with
     | some Uq=>run n Uq dG
     | none=>.lf (.ext id dG)
    | .ret r dG=>.lf (.ret r dG)
   | none=>run n (.code (i+1) b::.code i (.loop b)::ks) st
  | _=>.bad
end
def WK (P:Program) (Q:Exit→Act→World→Prop):List KI→Exit→Act→World→Prop
 | [],e,a,w=>Q e a w
 | .blk j::ks,e,a,w=>match e with
  | .exit id=>if id=j then WK P Q ks .normal a w else WK P Q ks (.exit id) a w
  | e=>WK P Q ks e a w
 | .code _ c::ks,e,a,w=>match e with
  | .normal=>c.wp P (WK P Q ks) a w
  | e=>WK P Q ks e a w
section
variable {P:Program} {Q Q':Exit→Act→World→Prop} {m:Nat} {cx:Cx} {loops:List Code} {R:Rg P m} {L:Cj P R.fn m R.pb loops}
theorem WK.mono (h:∀e a w,Q e a w→Q' e a w):∀{ks:List KI} {e:Exit} {a:Act} {w:World},WK P Q ks e a w→WK P Q' ks e a w
 | [],_,_,_,hq=>h _ _ _ hq
 | .blk j::ks,e,a,w,hq=>by
  cases e with
  | exit id=>
   have hq:if id=j then WK P Q ks .normal a w else WK P Q ks (.exit id) a w:=hq
   show if id=j then WK P Q' ks .normal a w else WK P Q' ks (.exit id) a w
   split
   ·rename_i e;rw[if_pos e] at hq;exact WK.mono h hq
   ·rename_i e;rw[if_neg e] at hq;exact WK.mono h hq
  | _=>exact WK.mono (ks:=ks) h hq
 | .code i c::ks,e,a,w,hq=>by
  cases e with
  | normal=>exact wp_mono (c:=c) hq fun e a w q=>WK.mono h q
  | _=>exact WK.mono (ks:=ks) h hq
theorem WK.ret:∀{ks:List KI} {a:Act} {w:World},Q .ret a w→WK P Q ks .ret a w
 | [],_,_,h=>h
 | .blk _::ks,_,_,h=>WK.ret (ks:=ks) h
 | .code _ _::ks,_,_,h=>WK.ret (ks:=ks) h
theorem WK.exit {id:Nat} {k2:List KI}:∀{k1:List KI} {a:Act} {w:World},(∀k3,pv id (k1++k2)=some (k3++k2)→(∃k0,k1=k0++.blk id::k3)→WK P Q k3 .normal a w)→(pv id (k1++k2)=pv id k2→Q (.exit id) a w)→WK P Q k1 (.exit id) a w
 | [],_,_,_,h=>h rfl
 | .blk j::ks,a,w,h1,h2=>by
  show if id=j then WK P Q ks .normal a w else WK P Q ks (.exit id) a w
  split
  ·rename_i e;subst e;exact h1 ks (by show(if id=id then some (ks++k2) else _)=_;rw[if_pos rfl]) ⟨[],rfl⟩
  ·rename_i e;have hp:pv id (.blk j::ks++k2)=pv id (ks++k2):=if_neg e;rw[hp] at h1 h2;exact WK.exit (k1:=ks) (fun k3 q1 ⟨k0,q2⟩=>h1 k3 q1 ⟨.blk j::k0,by rw[q2];rfl⟩) h2
 | .code i c::ks,a,w,h1,h2=>by
  have hp:pv id (.code i c::ks++k2)=pv id (ks++k2):=rfl;rw[hp] at h1 h2;exact WK.exit (k1:=ks) (fun k3 q1 ⟨k0,q2⟩=>h1 k3 q1 ⟨.code i c::k0,by rw[q2];rfl⟩) h2
def vF (loops:List Code) (ks:List KI):Prop:=∀i c,KI.code i c∈ks→∀j x,(kO c)[j]?=some x→loops[i+j]?=some x
def RQ (R:Rg P m) (L:Cj P R.fn m R.pb loops) (cx:Cx) (l:Lf) (n:Nat) (k2:List KI):Exit→Act→World→Prop
 | .normal,a,w=>∃j st,j≤n∧(run R L j k2 st).hit l∧fK m cx st a w
 | .exit id,a,w=>∃j st,j≤n∧(match pv id k2 with|some k3=>(run R L j k3 st).hit l|none=>Lf.ext id st=l)∧fK m cx st a w
 | .ret,a,w=>∃r st,Lf.ret r st=l∧RtS P R.fn m cx r st a w
 | _,_,_=>False
theorem RQ.up {l:Lf} {n n':Nat} {k2:List KI} (h:n≤n'):∀e a w,RQ R L cx l n k2 e a w→RQ R L cx l n' k2 e a w:=by
 intro e a w hq;cases e with
 | normal=>obtain⟨j,st,h1,h2⟩:=hq;exact⟨j,st,abk h1 h,h2⟩
 | exit id=>obtain⟨j,st,h1,h2⟩:=hq;exact⟨j,st,abk h1 h,h2⟩
 | _=>exact hq
theorem vF.tail {ks:List KI} {x:KI} (h:vF loops (x::ks)):vF loops ks:=fun i c hm=>h i c (abr _ hm)
theorem vF.cons {ks:List KI} {i:Nat} {c:Code} (h:vF loops ks) (hc:∀j x,(kO c)[j]?=some x→loops[i+j]?=some x):vF loops (.code i c::ks):=fun i' c' hm j x hx=>by
 rcases abq.1 hm with e|hm
 ·injection e with e1 e2;subst e1 e2;exact hc j x hx
 ·exact h i' c' hm j x hx
theorem vF.blk {ks:List KI} {i:Nat} (h:vF loops ks):vF loops (.blk i::ks):=fun i' c' hm=>by
 rcases abq.1 hm with e|hm
 ·cases e
 ·exact h i' c' hm
theorem vF.sub {k0 k1:List KI} (h:vF loops (k0++k1)):vF loops k1:=fun i c hm=>h i c (List.mem_append_right _ hm)
theorem QS {x:Operand} {st:ek} {f:Bool→ek→T Lf} {l:Lf} {a:Act} {w:World} {c d:Code} (h:(QU x st f).hit l) (ct:fK m cx st a w) (ht:∀st,(f true st).hit l→fK m cx st a w→c.wp P Q a w) (hf:∀st,(f false st).hit l→fK m cx st a w→d.wp P Q a w):(Code.cond x c d).wp P Q a w:=by
 unfold QU at h;split at h
 ·rename_i v hv;obtain⟨bs,S,hs,he⟩:=ct;have hx:=(cR he hv).1;cases v with
  | true=>exact wp_cond_true hx (ht st h ⟨bs,S,hs,he⟩)
  | false=>exact wp_cond_false hx (hf st h ⟨bs,S,hs,he⟩)
 ·rename_i v hv;split at h
  ·rename_i t;have hx:a.eval (.tmp t)=.bool v:=by obtain⟨bs,S,hs,he⟩:=ct;exact(cR he hv).1
   cases v with
   | true=>exact wp_cond_true hx (ht _ (h.1 rfl) (ct.lit hv rfl))
   | false=>exact wp_cond_false hx (hf _ (h.2 rfl) (ct.lit hv rfl))
  ·exact h.elim
 ·exact h.elim
theorem air {l:Lf} (nR:cx.pb=R.pb):∀(n:Nat) (k1 k2:List KI) (st:ek) (a:Act) (w:World),(run R L n (k1++k2) st).hit l→fK m cx st a w→vF loops (k1++k2)→WK P (RQ R L cx l n k2) k1 .normal a w:=by
 intro n;induction n using Nat.strongRecOn with
 | _ n ih=>
 intro k1 k2 st a w h ct hk;cases k1 with
 | nil=>exact⟨n,st,abi _,h,ct⟩
 | cons x k1=>
  cases n with
  | zero=>exact h.elim
  | succ n=>
   have UB:∀e a w,RQ R L cx l n k2 e a w→RQ R L cx l (n+1) k2 e a w:=RQ.up (Nat.le_succ n);have PN:∀(id:Nat) (j:Nat) (st:ek) (a:Act) (w:World),j≤n→fK m cx st a w→(match pv id (k1++k2) with|some k3=>(run R L j k3 st).hit l|none=>Lf.ext id st=l)→WK P (RQ R L cx l (n+1) k2) k1 (.exit id) a w:=by
    intro id j st a w hj ct hp;refine WK.exit (k2:=k2) (fun k3 q1 ⟨k0,q2⟩=>?_) fun q=>?_
    ·rw[q1] at hp;exact WK.mono (RQ.up (by omega)) (ih j (by omega) k3 k2 st a w hp ct (by
      have oA:vF loops (k1++k2):=hk.tail;rw[q2,abD] at oA;exact(vF.sub oA).tail))
    ·rw[q] at hp;exact⟨j,st,by omega,hp,ct⟩
   cases x with
   | blk id=>exact WK.mono (ks:=k1) UB (ih n (ach n) k1 k2 st a w h ct hk.tail)
   | code i c=>
    have hc:=hk i c abh;have D3:=hk.tail;show c.wp P (WK P (RQ R L cx l (n+1) k2) k1) a w;cases c with
    | skip=>exact wp_skip (WK.mono UB (ih n (ach n) k1 k2 st a w h ct D3))
    | label q=>exact wp_label (WK.mono UB (ih n (ach n) k1 k2 st a w h ct D3))
    | seq x y=>
     have hy:∀j z,(kO y)[j]?=some z→loops[i+(kO x).length+j]?=some z:=fun j z hz=>by
      rw[ab3];refine hc _ z ?_;show(kO x++kO y)[_]?=_;rw[aa8 (by omega),abB];exact hz
     have hx:∀j z,(kO x)[j]?=some z→loops[i+j]?=some z:=fun j z hz=>hc j z (by
      show(kO x++kO y)[j]?=_;rw[abc (aad.1 hz).1];exact hz)
     have:=ih n (ach n) (.code i x::.code (i+(kO x).length) y::k1) k2 st a w h ct (vF.cons (vF.cons D3 hy) hx);refine wp_seq (wp_mono (c:=x) (WK.mono (ks:=.code i x::.code (i+(kO x).length) y::k1) UB this) fun e a w q=>?_);cases e<;>exact q
    | block id b=>
     have:=ih n (ach n) (.code i b::.blk id::k1) k2 st a w h ct (vF.cons (vF.blk D3) hc);refine wp_block (wp_mono (c:=b) (WK.mono (ks:=.code i b::.blk id::k1) UB this) fun e a w q=>?_);cases e<;>exact q
    | exit id=>
     have h:(match pv id (k1++k2) with|some Uq=>run R L n Uq st|none=>T.lf (Lf.ext id st)).hit l:=h;refine wp_exit (PN id n st a w (abi _) ct ?_);split
     ·rename_i k3 e;rw[e] at h;exact h
     ·rename_i e;rw[e] at h;exact h
    | ret=>
     obtain⟨r,q1,q2⟩:=T.hit_bind h;exact wp_ret (WK.ret ⟨r,st,q2,R.resOk cx st a w r nR (T.hit_op q1) ct⟩)
    | cond x c d=>
     refine QS (P:=P) (Q:=WK P (RQ R L cx l (n+1) k2) k1) h ct (fun st q1 q2=>?_) fun st q1 q2=>?_
     ·exact WK.mono (ks:=.code i c::k1) UB (ih n (ach n) (.code i c::k1) k2 st a w q1 q2 (vF.cons D3 fun j z hz=>hc j z (by
       show(kO c++kO d)[j]?=_;rw[abc (aad.1 hz).1];exact hz)))
     ·exact WK.mono (ks:=.code (i+(kO c).length) d::k1) UB (ih n (ach n) (.code (i+(kO c).length) d::k1) k2 st a w q1 q2 (vF.cons D3 fun j z hz=>by
       rw[ab3];refine hc _ z ?_;show(kO c++kO d)[_]?=_;rw[aa8 (by omega),abB];exact hz))
    | region id ops dr=>
     obtain⟨st1,q1,q2⟩:=T.hit_bind h;exact R.ok id ops dr cx st st1 a w _ q1 ct fun a' w' q3=>WK.mono UB (ih n (ach n) k1 k2 st1 a' w' q2 q3 D3)
    | loop b=>
     have aeA:∀st,run R L (n+1) (.code i (.loop b)::(k1++k2)) st=match L.f i with
      | some g=>(g st).bind fun l=>match l with
       | .nrm dG=>run R L n (k1++k2) dG
       | .ext id dG=>match pv id (k1++k2) with
        | some Uq=>run R L n Uq dG
        | none=>.lf (.ext id dG)
       | .ret r dG=>.lf (.ret r dG)
      | none=>run R L n (.code (i+1) b::.code i (.loop b)::(k1++k2)) st:=fun _=>rfl
     cases hf:L.f i with
     | some g=>
      have h:(run R L (n+1) (.code i (.loop b)::(k1++k2)) st).hit l:=h;rw[aeA,hf] at h;obtain⟨l',q1,q2⟩:=T.hit_bind h;refine wp_mono (L.ok i g (.loop b) hf (hc 0 _ rfl) cx st a w l' nR q1 ct) fun e a' w' q=>?_;cases e with
      | normal=>
       obtain⟨dG,rfl,q3⟩:=q;exact WK.mono UB (ih n (ach n) k1 k2 dG a' w' q2 q3 D3)
      | exit id=>
       obtain⟨dG,rfl,q3⟩:=q;refine PN id n dG a' w' (abi _) q3 ?_;simp only at q2;split
       ·rename_i k3 e;rw[e] at q2;exact q2
       ·rename_i e;rw[e] at q2;exact q2
      | ret=>
       obtain⟨r,dG,rfl,q3⟩:=q;exact WK.ret ⟨r,dG,q2,q3⟩
      | _=>exact q.elim
     | none=>
      refine wp_loop_ghost (fun j a w=>∃dG,j≤n+1∧(run R L j (.code i (.loop b)::(k1++k2)) dG).hit l∧fK m cx dG a w) (n+1) ⟨st,abi _,h,ct⟩ ?_;rintro j a1 w1 ⟨st1,hj,h1,nJ⟩;cases j with
      | zero=>exact h1.elim
      | succ j=>
       have ZA:run R L (j+1) (.code i (.loop b)::(k1++k2)) st1=match L.f i with
        | some g=>(g st1).bind fun l=>match l with
         | .nrm dG=>run R L j (k1++k2) dG
         | .ext id dG=>match pv id (k1++k2) with
          | some Uq=>run R L j Uq dG
          | none=>.lf (.ext id dG)
         | .ret r dG=>.lf (.ret r dG)
        | none=>run R L j (.code (i+1) b::.code i (.loop b)::(k1++k2)) st1:=rfl
       rw[ZA,hf] at h1;have:=ih j (by omega) [.code (i+1) b] (.code i (.loop b)::(k1++k2)) st1 a1 w1 h1 nJ (vF.cons (vF.cons D3 hc) fun q z hz=>by
        rw[ab3,aez 1 q];exact hc (q+1) z hz)
       refine wp_mono (c:=b) this fun e a2 w2 q=>?_;cases e with
       | normal=>
        obtain⟨j',dG,q1,q2,q3⟩:=q;exact⟨j',by omega,dG,by omega,q2,q3⟩
       | exit id=>
        obtain⟨j',dG,q1,q2,q3⟩:=q;exact PN id j' dG a2 w2 (by omega) q3 q2
       | ret=>exact WK.ret q
       | _=>exact q.elim
    | _=>exact h.elim
theorem AJ (nR:cx.pb=R.pb) {n:Nat} {c:Code} {i:Nat} {st:ek} {a:Act} {w:World} {l:Lf} (h:(run R L n [.code i c] st).hit l) (ct:fK m cx st a w) (hk:∀j x,(kO c)[j]?=some x→loops[i+j]?=some x):c.wp P (LQ P R.fn m cx l) a w:=by
 have:=air nR n [.code i c] [] st a w h ct (vF.cons (fun _ _ h=>by cases h) hk);refine wp_mono (c:=c) this fun e a w q=>?_;cases e with
 | normal=>
  obtain⟨j,dG,_,q1,q2⟩:=q;cases j with
  | zero=>exact q1.elim
  | succ j=>exact⟨dG,q1,q2⟩
 | exit id=>
  obtain⟨j,dG,_,q1,q2⟩:=q;exact⟨dG,q1,q2⟩
 | ret=>exact q
 | _=>exact q.elim
end
inductive ZS where
 | d (t:Ty)
 | own (t:Ty) (e:TypeId)
 | any
inductive CS where
 | d (t:Ty)
 | own (t:Ty) (e:TypeId)
 | any
 | zc (t tn:Ty) (e:TypeId)
 | zip (t tn:Ty) (e:TypeId) (zs:List ZS)
 | mp (kt:Kt) (t:Ty)
 | mr (kt:Kt) (t:Ty) (e:TypeId)
inductive SS where
 | c (s:CS)
 | st (k:Nat)
 | box (ty:TypeId) (cs:List CS)
 | fn (k:FuncId)
 | rf (k:Nat)
 | cl (k:FuncId) (t:Ty)
 | sb (o o2:Nat)
def SS.isSb:SS→Bool
 | .sb _ _=>true
 | _=>false
def ZV:ZS→Type
 | .d t=>El t
 | .own t _=>List (El t)
 | .any=>Unit
def Ci:List ZS→Type
 | []=>Unit
 | s::l=>ZV s×Ci l
def CV:CS→Type
 | .d t=>El t
 | .own t _=>List (El t)
 | .any=>Unit
 | .zc t tn _=>Nat×List (El t)×List (El tn)
 | .zip t tn _ zs=>Nat×List (El t)×Ci zs×List (El tn)
 | .mp kt t=>Nat×(kt.K→Option (El t))
 | .mr kt t _=>Nat×(kt.K→Option (List (El t)))
def eY:List CS→Type
 | []=>Unit
 | s::l=>CV s×eY l
def SW:SS→Type
 | .c s=>CV s
 | .st k=>Hi k
 | .box _ cs=>eY cs
 | .fn _=>Unit
 | .rf k=>Hi k
 | .cl _ t=>El t
 | .sb _ _=>Unit
def cA:List (Nat×SS)→Type
 | []=>Unit
 | p::l=>SW p.2×cA l
def Dw (n:Nat):(s:ZS)→ZV s→AV×List aj
 | .d t,x=>(one t x,[])
 | .own t e,rs=>(.own n,[.row t e rs])
 | .any,_=>(.any n,[.dead])
def tA (n:Nat):(l:List ZS)→Ci l→List AV×List aj
 | [],_=>([],[])
 | s::l,x=>((Dw n s x.1).1::(tA (n+(Dw n s x.1).2.length) l x.2).1,(Dw n s x.1).2++(tA (n+(Dw n s x.1).2.length) l x.2).2)
def uW (n:Nat):(s:CS)→CV s→AV×List aj
 | .d t,x=>(one t x,[])
 | .own t e,rs=>(.own n,[.row t e rs])
 | .any,_=>(.any n,[.dead])
 | .zc t tn e,x=>(.own n,[.zc e t tn x.1 x.2.1 x.2.2])
 | .mp kt t,x=>(.mp n,[.mp kt t x.1 x.2])
 | .mr kt t e,x=>(.mp n,[.mq (n+1),.mr n kt t e x.1 x.2])
 | .zip t tn e zs,x=>(.own n,.zip (n+1) e t tn x.1 x.2.1 (tA (n+2) zs x.2.2.1).1 x.2.2.2::.dead::(tA (n+2) zs x.2.2.1).2)
def tC (n:Nat):(l:List CS)→eY l→List AV×List aj
 | [],_=>([],[])
 | s::l,x=>((uW n s x.1).1::(tC (n+(uW n s x.1).2.length) l x.2).1,(uW n s x.1).2++(tC (n+(uW n s x.1).2.length) l x.2).2)
def yk (n:Nat):(s:SS)→SW s→XV×List aj
 | .c s,x=>(.one (uW n s x).1,(uW n s x).2)
 | .st k,x=>(.agg (lJ (.st k) x),[])
 | .fn k,_=>(.one (.val (.func (.func k) #[] #[])),[])
 | .rf k,x=>(.one (.ref (.st k) x 0),[])
 | .cl k t,x=>(.one (.cl k t x),[])
 | .sb o o2,_=>(.one (.sub o o2 0),[])
 | .box ty cs,x=>(.one (.ptr n 0),.cells ty (tC (n+1) cs x).1::(tC (n+1) cs x).2)
def tB (n:Nat):(l:List (Nat×SS))→cA l→Env×List aj
 | [],_=>([],[])
 | p::l,x=>((p.1,(yk n p.2 x.1).1)::(tB (n+(yk n p.2 x.1).2.length) l x.2).1,(yk n p.2 x.1).2++(tB (n+(yk n p.2 x.1).2.length) l x.2).2)
def du (l:List (Nat×SS)) (x:cA l):ek:=⟨(tB 0 l x).1,(tB 0 l x).2⟩
def Yi (H:List aj) (t:Ty) (e:TypeId):AV→Option (List (El t)×List (Option Nat))
 | .own o=>match H[o]? with
  | some (.row t' e' rs)=>if e'=e then(lD t (.list t' rs false)).map fun x=>(x,[some o]) else none
  | _=>none
 | .val (.slice none 0 0)=>some ([],[none])
 | _=>none
def rdN:AV→Option (Unit×List (Option Nat))
 | .any o=>some ((),[some o])
 | _=>some ((),[none])
def rdZ (H:List aj):(s:ZS)→AV→Option (ZV s×List (Option Nat))
 | .d t,a=>(Mh t a).map fun x=>(x,[])
 | .own t e,a=>Yi H t e a
 | .any,a=>rdN a
def Di (H:List aj):(l:List ZS)→List AV→Option (Ci l×List (Option Nat))
 | [],[]=>some ((),[])
 | s::l,a::r=>match rdZ H s a,Di H l r with
  | some x,some y=>some ((x.1,y.1),x.2++y.2)
  | _,_=>none
 | _,_=>none
def KD (H:List aj) (t tn:Ty) (e:TypeId):AV→Option ((Nat×List (El t)×List (El tn))×List (Option Nat))
 | .own o=>match H[o]? with
  | some (.zc e' t' MZ iu done rest)=>match Ty.eq? t' t,Ty.eq? MZ tn with
   | some h,some h'=>if e'=e then some ((iu,h.down▸done,h'.down▸rest),[some o]) else none
   | _,_=>none
  | _=>none
 | _=>none
def yY (H:List aj) (t tn:Ty) (e:TypeId) (zs:List ZS):AV→Option ((Nat×List (El t)×Ci zs×List (El tn))×List (Option Nat))
 | .own o=>match H[o]? with
  | some (.zip o2 e' t' MZ iu done cur rest)=>match Ty.eq? t' t,Ty.eq? MZ tn,Di H zs cur with
   | some h,some h',some x=>if e'=e then some ((iu,h.down▸done,x.1,h'.down▸rest),some o::some o2::x.2) else none
   | _,_,_=>none
  | _=>none
 | _=>none
def KF (H:List aj) (kt:Kt) (t:Ty):AV→Option ((Nat×(kt.K→Option (El t)))×List (Option Nat))
 | .mp o=>match H[o]? with
  | some (.mp ll t' n f)=>match Ty.eq? (.mp ll t') (.mp kt t) with
   | some h=>some ((n,(h.down▸(f:El (.mp ll t')):El (.mp kt t))),[some o])
   | none=>none
  | _=>none
 | _=>none
def KE (H:List aj) (kt:Kt) (t:Ty) (e:TypeId):AV→Option ((Nat×(kt.K→Option (List (El t))))×List (Option Nat))
 | .mp p=>match H[p]? with
  | some (.mq q)=>match H[q]? with
   | some (.mr p' ll t' e' n f)=>match Ty.eq? (.mp ll (.list t')) (.mp kt (.list t)) with
    | some h=>if p'=p∧e'=e then some ((n,(h.down▸(f:El (.mp ll (.list t'))):El (.mp kt (.list t)))),[some p,some q]) else none
    | none=>none
   | _=>none
  | _=>none
 | _=>none
def rdC (H:List aj):(s:CS)→AV→Option (CV s×List (Option Nat))
 | .d t,a=>(Mh t a).map fun x=>(x,[])
 | .own t e,a=>Yi H t e a
 | .any,a=>rdN a
 | .zc t tn e,a=>KD H t tn e a
 | .zip t tn e zs,a=>yY H t tn e zs a
 | .mp kt t,a=>KF H kt t a
 | .mr kt t e,a=>KE H kt t e a
def yw (H:List aj):(l:List CS)→List AV→Option (eY l×List (Option Nat))
 | [],[]=>some ((),[])
 | s::l,a::r=>match rdC H s a,yw H l r with
  | some x,some y=>some ((x.1,y.1),x.2++y.2)
  | _,_=>none
 | _,_=>none
def rdA (H:List aj) (s:CS):XV→Option (CV s×List (Option Nat))
 | .one a=>rdC H s a
 | _=>none
def rdG (k:Nat):XV→Option (Hi k×List (Option Nat))
 | .agg cs=>(un (.st k) cs).map fun x=>(x,[])
 | _=>none
def rdB (H:List aj) (ty:TypeId) (cs:List CS):XV→Option (eY cs×List (Option Nat))
 | .one (.ptr o 0)=>match H[o]? with
  | some (.cells pX r)=>if pX=ty then(yw H cs r).map fun x=>(x.1,some o::x.2) else none
  | _=>none
 | _=>none
def Yj (k:FuncId):XV→Option (Unit×List (Option Nat))
 | .one (.val (.func (.func j) a b))=>if j=k∧a.size=0∧b.size=0 then some ((),[]) else none
 | _=>none
def Yh (k:Nat):XV→Option (Hi k×List (Option Nat))
 | .one (.ref t x 0)=>match Ty.eq? t (.st k) with
  | some h=>some ((h.down▸x:El (.st k)),[])
  | none=>none
 | _=>none
def Yk (k:FuncId) (t:Ty):XV→Option (El t×List (Option Nat))
 | .one (.cl k' t' x)=>match Ty.eq? t' t with
  | some h=>if k'=k then some ((h.down▸x:El t),[]) else none
  | none=>none
 | _=>none
def Yf:XV→Option (Unit×List (Option Nat))
 | .one (.sub _ _ 0)=>some ((),[])
 | _=>none
def Tp (H:List aj):(s:SS)→XV→Option (SW s×List (Option Nat))
 | .c s,x=>rdA H s x
 | .st k,x=>rdG k x
 | .box ty cs,x=>rdB H ty cs x
 | .fn k,x=>Yj k x
 | .rf k,x=>Yh k x
 | .cl k t,x=>Yk k t x
 | .sb _ _,x=>Yf x
def Is (H:List aj) (env:Env):(l:List (Nat×SS))→Option (cA l×List (Option Nat))
 | []=>some ((),[])
 | p::l=>match (env.lookup p.1).bind (Tp H p.2),Is H env l with
  | some x,some y=>some ((x.1,y.1),x.2++y.2)
  | _,_=>none
def DX (pb:List Nat) (ids:List (Option Nat)):Bool:=(List.range ids.length).all (fun i=>(List.range i).all fun j=>match ids[i]?,ids[j]? with
 | some (some a),some (some b)=>a !=b
 | _,_=>true)&&pb.all fun i=>ids[i]?==some (some i)
def acR (env:Env) (ids:List (Option Nat)) (l:List (Nat×SS)):Bool:=l.all fun p=>match p.2 with
 | .sb _ o2=>match env.lookup p.1 with
  | some (.one (.sub _ q _))=>ids[o2]?==some (some q)
  | _=>false
 | _=>true
def Dj (H:List aj) (env:Env) (l:List (Nat×SS)):Option (cA l×List (Option Nat)):=if l.all (fun p=>!p.2.isSb) then Is H env l else none
def pp (pb:List Nat) (l:List (Nat×SS)) (st:ek):Option (cA l):=(Is st.heap st.env l).bind fun p=>if DX pb p.2&&acR st.env p.2 l then some p.1 else none
inductive Re (bs:List Value) (H:List aj):List (Option Nat)→List aj→List Value→Prop where
 | nil:Re bs H [] [] []
 | sm {o:Nat} {x y:aj} {v:Value} {ids:List (Option Nat)} {ys:List aj} {us:List Value}:H[o]?=some x→bs[o]?=some v→(∀c,Bk y v c→Bk x v c)→Re bs H ids ys us→Re bs H (some o::ids) (y::ys) (v::us)
 | nn {y:aj} {v:Value} {ids:List (Option Nat)} {ys:List aj} {us:List Value}:(∀c,¬Bk y v c)→Re bs H ids ys us→Re bs H (none::ids) (y::ys) (v::us)
section
variable {cx:Cx} {bs bn:List Value} {w:World} {S:Nat→Prop} {H:List aj} {m:Nat} {env:Env} {a:Act}
theorem Re.append {ids ad0:List (Option Nat)} {ys ys':List aj} {us qP:List Value} (h:Re bs H ids ys us) (h':Re bs H ad0 ys' qP):Re bs H (ids++ad0) (ys++ys') (us++qP):=by
 induction h with
 | nil=>exact h'
 | sm h1 h2 h3 _ ih=>exact .sm h1 h2 h3 ih
 | nn h1 _ ih=>exact .nn h1 ih
theorem Re.len {ids:List (Option Nat)} {ys:List aj} {us:List Value} (h:Re bs H ids ys us):ids.length=ys.length∧us.length=ys.length:=by
 induction h with
 | nil=>exact⟨rfl,rfl⟩
 | sm _ _ _ _ ih=>simp[ih.1,ih.2]
 | nn _ _ ih=>simp[ih.1,ih.2]
theorem Re.get {ids:List (Option Nat)} {ys:List aj} {us:List Value} (h:Re bs H ids ys us):∀(i:Nat) (y:aj) (v:Value),ys[i]?=some y→us[i]?=some v→(∃o x,ids[i]?=some (some o)∧H[o]?=some x∧bs[o]?=some v∧(∀c,Bk y v c→Bk x v c))∨(ids[i]?=some none∧∀c,¬Bk y v c):=by
 induction h with
 | nil=>intro i y v h;cases h
 | sm h1 h2 h3 _ ih=>
  intro i y v hy hv;cases i with
  | zero=>injection hy with hy;injection hv with hv;subst hy hv;exact .inl ⟨_,_,rfl,h1,h2,h3⟩
  | succ i=>exact ih i y v (by simpa using hy) (by simpa using hv)
 | nn h1 _ ih=>
  intro i y v hy hv;cases i with
  | zero=>injection hy with hy;injection hv with hv;subst hy hv;exact .inr ⟨rfl,h1⟩
  | succ i=>exact ih i y v (by simpa using hy) (by simpa using hv)
def Fv (bn us:List Value) (n:Nat):Prop:=∀(j:Nat) (u:Value),us[j]?=some u→bn[n+j]?=some u
theorem Fv.left {us qP:List Value} {n:Nat} (h:Fv bn (us++qP) n):Fv bn us n:=fun j u hj=>h j u (by rw[abc (aad.1 hj).1];exact hj)
theorem Fv.right {us qP:List Value} {n:Nat} (h:Fv bn (us++qP) n):Fv bn qP (n+us.length):=fun j u hj=>by
 rw[ab3];exact h _ u (by rw[aa8 (by omega),abB];exact hj)
def jZ (bn:List Value) (w:World) (S:Nat→Prop) (ys:List aj) (us:List Value):Prop:=∀(j:Nat) (y:aj) (u:Value),ys[j]?=some y→us[j]?=some u→OR bn w S y u
theorem jZ.append {ys ys':List aj} {us qP:List Value} (h:jZ bn w S ys us) (h':jZ bn w S ys' qP) (hl:us.length=ys.length):jZ bn w S (ys++ys') (us++qP):=fun j y u hy hu=>by
 by_cases hj:j<ys.length
 ·rw[abc hj] at hy;rw[abc (by omega)] at hu;exact h j y u hy hu
 ·rw[aa8 (by omega)] at hy;rw[aa8 (by omega),hl] at hu;exact h' _ y u hy hu
theorem Yy {t:Ty} {b:AV} {x:El t} {v:Value} (ht:t.one=true) (h:Mh t b=some x) (hv:VR bs w S b v):VR bn w S (one t x) v:=vi ht (mN h hv)
theorem SG {t:Ty} {b:AV} {x:El t} (h:Mh t b=some x):t.one=true:=by
 cases t<;>first|rfl|cases h
theorem AX (hs:HS cx bs w S H) {s:ZS} {b:AV} {x:ZV s} {ids:List (Option Nat)} {v:Value} (h:rdZ H s b=some (x,ids)) (hv:VR bs w S b v) (n:Nat) : ∃us,Re bs H ids (Dw n s x).2 us∧∀bn,Fv bn us n→VR bn w S (Dw n s x).1 v∧jZ bn w S (Dw n s x).2 us:=by
 cases s with
 | d t=>
  have h:(Mh t b).map (fun x=>(x,([]:List (Option Nat))))=some (x,ids):=h;cases e:Mh t b with
  | none=>rw[e] at h;cases h
  | some y=>
   rw[e] at h;injection h with h
   injection h with h1 h2
   subst h1 h2;exact⟨[],.nil,fun bn _=>⟨Yy (SG e) e hv,fun j y u hy=>by cases hy⟩⟩
 | own t e=>
  replace h:Yi H t e b=some (x,ids):=h;unfold Yi at h;split at h
  ·rename_i o;split at h
   ·rename_i t' e' rs hH;split at h
    ·rename_i ee;subst ee;cases hu:lD t (.list t' rs false) with
     | none=>rw[hu] at h;cases h
     | some rs'=>
      rw[hu] at h;injection h with h
      injection h with h1 h2
      subst h1 h2;have:∃q:t'=t,rs'=q▸rs:=by
       unfold lD at hu;simp only at hu;split at hu
       ·rename_i q _;injection hu with hu
        exact⟨q.down,hu.symm⟩
       ·cases hu
      obtain⟨q,rfl⟩:=this;subst q;obtain⟨hb,fU⟩:=hv;refine⟨[v],.sm hH hb (fun _ h=>h) .nil,fun bn lQ=>⟨⟨lQ 0 v rfl,fU⟩,fun j y u hy hu=>?_⟩⟩;cases j with
      | zero=>injection hy with hy;injection hu with hu;subst hy hu;exact hs.o o _ _ hH hb
      | succ j=>cases hy
    ·cases h
   ·cases h
  ·injection h with h
   injection h with h1 h2
   subst h1 h2;obtain⟨rfl,_⟩:=hv;refine⟨[.slice none 0 0],.nn (fun _ h=>by cases h) .nil,fun bn lQ=>⟨⟨lQ 0 _ rfl,_,_,_,rfl⟩,fun j y u hy hu=>?_⟩⟩;cases j with
   | zero=>injection hy with hy;injection hu with hu;subst hy hu;exact Own.nil' w S (fun b q=>(hs.s b q).1) 0 e
   | succ j=>cases hy
  ·cases h
 | any=>
  have fin:∀{us:List Value},us=[v]→∀bn,Fv bn us n→VR bn w S (.any n) v∧jZ bn w S [.dead] us:=by
   rintro us rfl bn lQ;refine⟨⟨lQ 0 v rfl,hv.one⟩,fun j y u hy hu=>?_⟩;cases j with
   | zero=>injection hy with hy;subst hy;exact trivial
   | succ j=>cases hy
  replace h:rdN b=some (x,ids):=h;unfold rdN at h;split at h
  ·rename_i o;injection h with h
   injection h with h1 h2
   subst h2;have ho:o<H.length:=by rw[←hs.len];exact(aad.1 hv.1).1
   exact⟨[v],.sm (aac ho) hv.1 (fun _ h=>by cases h) .nil,fin rfl⟩
  ·injection h with h
   injection h with h1 h2
   subst h2;exact⟨[v],.nn (fun _ h=>by cases h) .nil,fin rfl⟩
theorem Im (hs:HS cx bs w S H):∀{l:List ZS} {qs:List AV} {x:Ci l} {ids:List (Option Nat)} {vs:List Value},Di H l qs=some (x,ids)→F2 (VR bs w S) qs vs→∀n, ∃us,Re bs H ids (tA n l x).2 us∧∀bn,Fv bn us n→F2 (VR bn w S) (tA n l x).1 vs∧jZ bn w S (tA n l x).2 us
 | [],[],x,ids,_,h,hv,n=>by cases hv;injection h with h;injection h with h1 h2;subst h1 h2;exact⟨[],.nil,fun _ _=>⟨.nil,fun j y u hy=>by cases hy⟩⟩
 | s::l,b::qs,x,ids,_,h,hv,n=>by
  cases hv with
  | cons h1 h2=>
   unfold Di at h;split at h
   ·rename_i p q hp hq;injection h with h
    injection h with e1 e2
    subst e1 e2;obtain⟨us1,r1,k1⟩:=AX hs (x:=p.1) (ids:=p.2) hp h1 n;obtain⟨us2,r2,k2⟩:=Im hs (x:=q.1) (ids:=q.2) hq h2 (n+(Dw n s p.1).2.length);refine⟨us1++us2,r1.append r2,fun bn lQ=>?_⟩;obtain⟨v1,o1⟩:=k1 bn lQ.left;obtain⟨v2,o2⟩:=k2 bn (by have:=lQ.right;rw[r1.len.2] at this;exact this);exact⟨.cons v1 v2,o1.append o2 r1.len.2⟩
   ·cases h
 | [],_::_,_,_,_,h,_,_=>by cases h
 | _::_,[],_,_,_,h,_,_=>by cases h
theorem NV (hs:HS cx bs w S H) {s:CS} {b:AV} {x:CV s} {ids:List (Option Nat)} {v:Value} (h:rdC H s b=some (x,ids)) (hv:VR bs w S b v) (n:Nat) : ∃us,Re bs H ids (uW n s x).2 us∧∀bn,Fv bn us n→VR bn w S (uW n s x).1 v∧jZ bn w S (uW n s x).2 us:=by
 cases s with
 | d t=>exact AX hs (s:=.d t) h hv n
 | own t e=>exact AX hs (s:=.own t e) h hv n
 | any=>exact AX hs (s:=.any) h hv n
 | zc t tn e=>
  replace h:KD H t tn e b=some (x,ids):=h;unfold KD at h;split at h
  ·rename_i o;split at h
   ·rename_i e' t' MZ iu done rest hH;split at h
    ·rename_i q q' _ _;obtain⟨q⟩:=q;obtain⟨q'⟩:=q';subst q q';split at h
     ·rename_i ee;subst ee;injection h with h
      injection h with h1 h2
      subst h1 h2;obtain⟨hb,fU⟩:=hv;refine⟨[v],.sm hH hb (fun _ h=>h) .nil,fun bn lQ=>⟨⟨lQ 0 v rfl,fU⟩,fun j y u hy hu=>?_⟩⟩;cases j with
      | zero=>injection hy with hy;injection hu with hu;subst hy hu;exact hs.o o _ _ hH hb
      | succ j=>cases hy
     ·cases h
    ·cases h
   ·cases h
  ·cases h
 | zip t tn e zs=>
  replace h:yY H t tn e zs b=some (x,ids):=h;unfold yY at h;split at h
  ·rename_i o;split at h
   ·rename_i o2 e' t' MZ iu done cur rest hH;split at h
    ·rename_i q q' p _ _ hp;obtain⟨q⟩:=q;obtain⟨q'⟩:=q';subst q q';split at h
     ·rename_i ee;subst ee;injection h with h
      injection h with h1 h2
      subst h1 h2;obtain⟨hb,fU⟩:=hv;obtain⟨bQ,ho,hz,hl,u,tH,sH,hu3⟩:=hs.o o _ _ hH hb;have hr:bQ[done.length]?=some (bQ[done.length]'(by rw[hz.1];exact hl)):=aac _;have hf:=(hz.2 _ _ hr).2.1 rfl;obtain⟨us,r1,k1⟩:=Im hs (x:=p.1) (ids:=p.2) hp hf (n+2);have nM:o2<H.length:=by rw[←hs.len];exact(aad.1 tH).1
      refine⟨v::u::us,.sm hH hb (fun _ h=>h) (.sm (aac nM) tH (fun _ h=>by cases h) r1),fun bn lQ=>?_⟩;have tM:Fv bn us (n+2):=fun j u' hj=>by
       have:=lQ (j+2) u' (by simpa using hj)
       rwa [show n+(j+2)=n+2+j by omega] at this
      obtain⟨v1,o1⟩:=k1 bn tM;refine⟨⟨lQ 0 v rfl,fU⟩,fun j y u' hy D1=>?_⟩;cases j with
      | zero=>
       injection hy with hy;injection D1 with D1;subst hy D1
       refine⟨bQ,ho,⟨hz.1,fun j r hj=>?_⟩,hl,u,lQ 1 u rfl,sH,hu3⟩;obtain⟨z1,z2,z3⟩:=hz.2 j r hj;refine⟨z1,fun e=>?_,z3⟩;subst e;rw[hr] at hj;obtain rfl:=aaZ hj;exact v1
      | succ j=>
       cases j with
       | zero=>injection hy with hy;subst hy;exact trivial
       | succ j=>exact o1 j y u' (acg.symm.trans (acg.symm.trans hy)) (acg.symm.trans (acg.symm.trans D1))
     ·cases h
    ·cases h
   ·cases h
  ·cases h
 | mp kt t=>
  replace h:KF H kt t b=some (x,ids):=h;unfold KF at h;split at h
  ·rename_i o;split at h
   ·rename_i ll t' m f hH;split at h
    ·rename_i q _;obtain⟨q⟩:=q;injection q with q1 q2
     subst q1 q2;injection h with h
     injection h with h1 h2
     subst h1 h2;obtain⟨hb,hm⟩:=hv;refine⟨[v],.sm hH hb (fun _ h=>h) .nil,fun bn lQ=>⟨⟨lQ 0 v rfl,hm⟩,fun j y u hy hu=>?_⟩⟩;cases j with
     | zero=>injection hy with hy;injection hu with hu;subst hy hu;exact hs.o o _ _ hH hb
     | succ j=>cases hy
    ·cases h
   ·cases h
  ·cases h
 | mr kt t e=>
  replace h:KE H kt t e b=some (x,ids):=h;unfold KE at h;split at h
  ·rename_i p;split at h
   ·rename_i q hP;split at h
    ·rename_i p' ll t' e' m f hQ;split at h
     ·rename_i q' _;obtain⟨q'⟩:=q';injection q' with q1 q2
      injection q2 with q2
      subst q1 q2;split at h
      ·rename_i ee;obtain⟨rfl,rfl⟩:=ee;injection h with h
       injection h with h1 h2
       subst h1 h2;obtain⟨hb,b0,rfl⟩:=hv;have Cs:q<bs.length:=by rw[hs.len];exact(aad.1 hQ).1
       have Ln:=aac Cs;refine⟨[.map (some b0),bs[q]],.sm hP hb (fun _ h=>h) (.sm hQ Ln (fun _ h=>h) .nil),fun bn lQ=>⟨⟨lQ 0 _ rfl,_,rfl⟩,fun j y u hy hu=>?_⟩⟩;cases j with
       | zero=>injection hy with hy;injection hu with hu;subst hy hu;exact⟨_,rfl⟩
       | succ j=>
        cases j with
        | zero=>
         injection hy with hy;injection hu with hu;subst hy hu
         obtain⟨b,l,g,e1,h1,hr⟩:=hs.o q _ _ hQ Ln;rw[hb] at h1;injection h1 with h1
         injection h1 with h1
         injection h1 with h1
         subst h1;exact⟨_,l,g,e1,lQ 0 _ rfl,hr⟩
        | succ j=>cases hy
      ·cases h
     ·cases h
    ·cases h
   ·cases h
  ·cases h
theorem It (hs:HS cx bs w S H):∀{l:List CS} {qs:List AV} {x:eY l} {ids:List (Option Nat)} {vs:List Value},yw H l qs=some (x,ids)→F2 (VR bs w S) qs vs→∀n, ∃us,Re bs H ids (tC n l x).2 us∧∀bn,Fv bn us n→F2 (VR bn w S) (tC n l x).1 vs∧jZ bn w S (tC n l x).2 us
 | [],[],x,ids,_,h,hv,n=>by cases hv;injection h with h;injection h with h1 h2;subst h1 h2;exact⟨[],.nil,fun _ _=>⟨.nil,fun j y u hy=>by cases hy⟩⟩
 | s::l,b::qs,x,ids,_,h,hv,n=>by
  cases hv with
  | cons h1 h2=>
   unfold yw at h;split at h
   ·rename_i p q hp hq;injection h with h
    injection h with e1 e2
    subst e1 e2;obtain⟨us1,r1,k1⟩:=NV hs (x:=p.1) (ids:=p.2) hp h1 n;obtain⟨us2,r2,k2⟩:=It hs (x:=q.1) (ids:=q.2) hq h2 (n+(uW n s p.1).2.length);refine⟨us1++us2,r1.append r2,fun bn lQ=>?_⟩;obtain⟨v1,o1⟩:=k1 bn lQ.left;obtain⟨v2,o2⟩:=k2 bn (by have:=lQ.right;rw[r1.len.2] at this;exact this);exact⟨.cons v1 v2,o1.append o2 r1.len.2⟩
   ·cases h
 | [],_::_,_,_,_,h,_,_=>by cases h
 | _::_,[],_,_,_,h,_,_=>by cases h
theorem To (hs:HS cx bs w S H) {s:SS} {b:XV} {x:SW s} {ids:List (Option Nat)} {v:Value} (h:Tp H s b=some (x,ids)) (hv:XR bs w S b v) (hns:s.isSb=false) (n:Nat) : ∃us,Re bs H ids (yk n s x).2 us∧∀bn,Fv bn us n→XR bn w S (yk n s x).1 v∧jZ bn w S (yk n s x).2 us:=by
 cases s with
 | c s=>
  replace h:rdA H s b=some (x,ids):=h;cases b with
  | one c=>exact NV hs (s:=s) (x:=x) h hv n
  | _=>cases h
 | st k=>
  replace h:rdG k b=some (x,ids):=h;cases b with
  | agg cs=>
   replace h:(un (.st k) cs).map (fun x=>(x,([]:List (Option Nat))))=some (x,ids):=h;cases e:un (.st k) cs with
   | none=>rw[e] at h;cases h
   | some y=>
    rw[e] at h;injection h with h
    injection h with h1 h2
    subst h1 h2;obtain⟨vs,rfl,hf⟩:=hv;exact⟨[],.nil,fun bn _=>⟨⟨vs,rfl,kh (lC e hf)⟩,fun j y u hy=>by cases hy⟩⟩
  | _=>cases h
 | box ty cs=>
  replace h:rdB H ty cs b=some (x,ids):=h;unfold rdB at h;split at h
  ·rename_i o;split at h
   ·rename_i pX qs hH;split at h
    ·rename_i ee;subst ee;cases hu:yw H cs qs with
     | none=>rw[hu] at h;cases h
     | some p=>
      rw[hu] at h;injection h with h
      injection h with h1 h2
      subst h1 h2;obtain⟨g,hb,rfl⟩:=hv;obtain⟨g',vs,e2,hk,hf⟩:=hs.o o _ _ hH hb;obtain⟨us,r1,k1⟩:=It hs (x:=p.1) (ids:=p.2) hu hf (n+1);refine⟨.pointer (some ⟨g,0,none⟩)::us,.sm hH hb (fun _ h=>h) r1,fun bn lQ=>?_⟩;have tM:Fv bn us (n+1):=fun j u hj=>by
       have:=lQ (j+1) u (by simpa using hj)
       rwa [show n+(j+1)=n+1+j by omega] at this
      obtain⟨v1,o1⟩:=k1 bn tM;refine⟨⟨g,lQ 0 _ rfl,rfl⟩,fun j y u hy hu=>?_⟩;cases j with
      | zero=>injection hy with hy;injection hu with hu;subst hy hu;exact⟨g',vs,e2,hk,v1⟩
      | succ j=>exact o1 j y u (acg.symm.trans hy) (acg.symm.trans hu)
    ·cases h
   ·cases h
  ·cases h
 | fn k=>
  replace h:Yj k b=some (x,ids):=h;unfold Yj at h;split at h
  ·rename_i j a b';split at h
   ·rename_i e;obtain⟨rfl,ea,eb⟩:=e;injection h with h
    injection h with h1 h2
    subst h2;obtain rfl:=abV ea;obtain rfl:=abV eb;exact⟨[],.nil,fun bn _=>⟨hv,fun j y u hy=>by cases hy⟩⟩
   ·cases h
  ·cases h
 | sb o o2=>cases hns
 | cl k t=>
  replace h:Yk k t b=some (x,ids):=h;unfold Yk at h;split at h
  ·split at h
   ·rename_i q _;obtain⟨q⟩:=q;subst q;split at h
    ·rename_i e;subst e;injection h with h
     injection h with h1 h2
     subst h1 h2;exact⟨[],.nil,fun bn _=>⟨hv,fun j y u hy=>by cases hy⟩⟩
    ·cases h
   ·cases h
  ·cases h
 | rf k=>
  replace h:Yh k b=some (x,ids):=h;unfold Yh at h;split at h
  ·split at h
   ·rename_i q _;obtain⟨q⟩:=q;subst q;injection h with h
    injection h with h1 h2
    subst h1 h2;exact⟨[],.nil,fun bn _=>⟨hv,fun j y u hy=>by cases hy⟩⟩
   ·cases h
  ·cases h
theorem Yg (hs:HS cx bs w S H) {s:SS} {b:XV} {x:SW s} {ids:List (Option Nat)} {v:Value} (h:Tp H s b=some (x,ids)) (hv:XR bs w S b v) (n:Nat) : ∃us,Re bs H ids (yk n s x).2 us∧∀bn,Fv bn us n→(∀o o2 o' q,s=.sb o o2→b=.one (.sub o' q 0)→bn[o2]?=bs[q]?)→XR bn w S (yk n s x).1 v∧jZ bn w S (yk n s x).2 us:=by
 cases hb:s.isSb with
 | false=>obtain⟨us,r,k⟩:=To hs h hv hb n;exact⟨us,r,fun bn lQ _=>k bn lQ⟩
 | true=>
  cases s with
  | sb o o2=>
   replace h:Yf b=some (x,ids):=h;unfold Yf at h;split at h
   ·rename_i o' q;injection h with h
    injection h with h1 h2
    subst h2;obtain⟨g,p,q1,q2⟩:=hv;exact⟨[],.nil,fun bn _ Sf=>⟨⟨g,p,(Sf o o2 o' q rfl rfl).trans q1,q2⟩,fun j y u hy=>by cases hy⟩⟩
   ·cases h
  | _=>cases hb
def afP (bs bn:List Value) (env:Env) (l:List (Nat×SS)):Prop:=∀t o o2 o' q,(t,SS.sb o o2)∈l→env.lookup t=some (.one (.sub o' q 0))→bn[o2]?=bs[q]?
theorem Iq {l:List (Nat×SS)} {r:cA l×List (Option Nat)} (h:Dj H env l=some r):Is H env l=some r∧∀bs bn,afP bs bn env l:=by
 unfold Dj at h;split at h
 ·rename_i hl;refine⟨h,fun bs bn t o o2 o' q hm=>?_⟩;have:=abv.1 hl _ hm;cases this
 ·cases h
theorem AY (hs:HS cx bs w S H) (he:ER m bs w S env a):∀{l:List (Nat×SS)} {x:cA l} {ids:List (Option Nat)},Is H env l=some (x,ids)→∀n, ∃us,Re bs H ids (tB n l x).2 us∧∀bn,Fv bn us n→afP bs bn env l→(∀t y,(t,y)∈(tB n l x).1→∃v,a.tmps[t]?=some v∧XR bn w S y v)∧jZ bn w S (tB n l x).2 us
 | [],x,ids,h,n=>by injection h with h;injection h with h1 h2;subst h1 h2;exact⟨[],.nil,fun _ _ _=>⟨(fun _ _ h=>by cases h),fun j y u hy=>by cases hy⟩⟩
 | p::l,x,ids,h,n=>by
  unfold Is at h;split at h
  ·rename_i q r hq hr;injection h with h
   injection h with e1 e2
   subst e1 e2;cases e:env.lookup p.1 with
   | none=>rw[e] at hq;cases hq
   | some y=>
    rw[e] at hq;obtain⟨v,hv,hx⟩:=he.k _ _ (lh e);obtain⟨us1,r1,k1⟩:=Yg hs (x:=q.1) (ids:=q.2) hq hx n;obtain⟨us2,r2,k2⟩:=AY hs he (x:=r.1) (ids:=r.2) hr (n+(yk n p.2 q.1).2.length);refine⟨us1++us2,r1.append r2,fun bn lQ Sf=>?_⟩;obtain⟨v1,o1⟩:=k1 bn lQ.left fun o o2 o' q e1 e2=>Sf p.1 o o2 o' q (by rw[←e1];exact abh) (by rw[e,e2]);obtain⟨v2,o2⟩:=k2 bn (by have:=lQ.right;rw[r1.len.2] at this;exact this) fun t o o2 o' q hm=>Sf t o o2 o' q (abr _ hm);refine⟨fun t y hy=>?_,o1.append o2 r1.len.2⟩;rcases abq.1 hy with e3|hy
    ·injection e3 with e3 e4
     subst e3 e4;exact⟨v,hv,v1⟩
    ·exact v2 t y hy
  ·cases h
theorem Ce {x y:aj} {v:Value} {b:Nat} (h:∀c,Bk y v c→Bk x v c) (hb:Bk y v b):Bk x v b:=h b hb
theorem od {st:ek} {l:List (Nat×SS)} {x:cA l} (h:pp cx.pb l st=some x) (hs:HS cx bs w S st.heap) (he:ER m bs w S st.env a):∃us,HS cx us w S (du l x).heap∧ER m us w S (du l x).env a:=by
 unfold pp at h;cases e:Is st.heap st.env l with
 | none=>rw[e] at h;cases h
 | some p=>
  rw[e] at h;have h:(if DX cx.pb p.2&&acR st.env p.2 l then some p.1 else none)=some x:=h;split at h
  ·rename_i hid;rw[aba] at hid;obtain⟨hid,ajR⟩:=hid;injection h with h
   subst h;obtain⟨us,r,k⟩:=AY hs he (x:=p.1) (ids:=p.2) e 0;have bO:=r.len;obtain⟨k1,k2⟩:=k us (fun j u hj=>by rw[abQ];exact hj) fun t o o2 o' q hm hl=>by
    have:=abv.1 ajR _ hm;simp only[hl,beq_iff_eq] at this;have hi:o2<(tB 0 l p.1).2.length:=by rw[←bO.1];exact(aad.1 this).1
    have hu:o2<us.length:=by rw[bO.2];exact hi
    rcases r.get o2 _ _ (aac hi) (aac hu) with⟨o3,x1,q1,q2,q3,q4⟩|⟨q1,_⟩
    ·rw[this] at q1;injection q1 with q1
     injection q1 with q1
     subst q1;rw[q3,aac hu]
    ·rw[this] at q1;cases q1
   unfold DX at hid;rw[aba] at hid;obtain⟨aeH,aks⟩:=hid;refine⟨us,⟨bO.2,fun i y v hy hv=>k2 i y v hy hv,?_,?_,hs.s,hs.s0,hs.os,hs.tape,hs.output,hs.size,hs.old,?_⟩,he.d,he.s,k1⟩
   ·intro i j y z u v b yl hy hu hz hv cI cj;rcases r.get i y u hy hu with⟨o,x1,q1,q2,q3,q4⟩|⟨_,q⟩
    ·rcases r.get j z v hz hv with⟨o',x2,q5,q6,q7,q8⟩|⟨_,q⟩
     ·refine hs.ap o o' x1 x2 u v b (fun eo=>?_) q2 q3 q6 q7 (Ce q4 cI) (Ce q8 cj);subst eo;have hi:i<p.2.length:=(aad.1 q1).1;have hj:j<p.2.length:=(aad.1 q5).1;rcases Nat.lt_or_gt_of_ne yl with hlt|hlt
      ·have:=abv.1 (abv.1 aeH j (abG.2 hj)) i (abG.2 hlt);rw[q1,q5] at this;simp at this
      ·have:=abv.1 (abv.1 aeH i (abG.2 hi)) j (abG.2 hlt);rw[q1,q5] at this;simp at this
     ·exact absurd cj (q b)
    ·exact absurd cI (q b)
   ·intro i y u b hy hu hb;rcases r.get i y u hy hu with⟨o,x1,q1,q2,q3,q4⟩|⟨_,q⟩
    ·exact hs.nw o x1 u b q2 q3 (Ce q4 hb)
    ·exact absurd hb (q b)
   ·intro i g hip hg hg2;have hp:=abv.1 aks i hip;have hp:p.2[i]?=some (some i):=by simpa using hp
    have hi:i<(tB 0 l p.1).2.length:=by rw[←bO.1];exact(aad.1 hp).1
    have hu:i<us.length:=by rw[bO.2];exact hi
    rcases r.get i _ _ (aac hi) (aac hu) with⟨o,x1,q1,q2,q3,q4⟩|⟨q,_⟩
    ·rw[hp] at q1;injection q1 with q1
     injection q1 with q1
     subst q1;have:=hs.an i g hip hg hg2;rw[q3] at this;rw[aac hu];exact this
    ·rw[hp] at q;cases q
  ·cases h
theorem vf {st:ek} {l:List (Nat×SS)} {x:cA l} (h:pp cx.pb l st=some x) (ct:fK m cx st a w):fK m cx (du l x) a w:=by
 obtain⟨bs,S,hs,he⟩:=ct;obtain⟨us,q1,q2⟩:=od h hs he;exact⟨us,S,q1,q2⟩
def BdT:(t:Ty)→El t→Prop
 | .list _,xs=>xs.length≤9223372036854775807
 | _,_=>True
def BdC:(s:CS)→CV s→Prop
 | .d t,x=>BdT t x
 | .own _ _,rs=>rs.length≤9223372036854775807
 | .any,_=>True
 | .zc _ _ _,_=>True
 | .zip _ _ _ _,_=>True
 | .mp _ _,_=>True
 | .mr _ _ _,_=>True
def BdF:(ts:List Ty)→JQ ts→Prop
 | [],_=>True
 | t::ts,x=>BdT t x.1∧BdF ts x.2
def abu:(l:List CS)→eY l→Prop
 | [],_=>True
 | s::l,x=>BdC s x.1∧abu l x.2
def BdS:(s:SS)→SW s→Prop
 | .c s,x=>BdC s x
 | .st k,x=>BdF (uD k) (CM k x)
 | .box _ cs,x=>abu cs x
 | .fn _,_=>True
 | .rf _,_=>True
 | .cl _ _,_=>True
 | .sb _ _,_=>True
def My:(l:List (Nat×SS))→cA l→Prop
 | [],_=>True
 | p::l,x=>BdS p.2 x.1∧My l x.2
theorem NF {α:Type} (x:List α):x.length≤x.reverse.length:=by simp
theorem Rl {us:List Value} {t:Ty} {x:El t} {v:Value} (hx:VR us w S (one t x) v):BdT t x:=by
 cases t with
 | list t=>
  obtain⟨A,q,c,_,hr,_⟩:=hx;show List.length (α:=El t) x≤_;rw[hr.len];exact hr.max
 | _=>exact trivial
theorem Ro {us:List Value} {n:Nat} {s:CS} {x:CV s} {v:Value} (hx:VR us w S (uW n s x).1 v) (ho:∀(j:Nat) (y:aj) (u:Value),(uW n s x).2[j]?=some y→us[n+j]?=some u→OR us w S y u):BdC s x:=by
 cases s with
 | d t=>exact Rl hx
 | own t e=>
  obtain⟨hb,A,q,c,e1⟩:=hx;have h1:Own (α:=El t) w S 0 e v (List.reverse (α:=El t) x):=ho 0 _ v rfl (by rw[acX];exact hb);obtain⟨cs,⟨_,h2⟩,_⟩:=h1;show List.length (α:=El t) x≤_;rcases h2 with⟨_,h2⟩|⟨g,cap,cur,_,_,_,h3,h4,_⟩
  ·exact abk (NF (α:=El t) x) (abk (Nat.le_of_eq h2) (by decide))
  ·unfold maxLen at h4;exact abk (NF (α:=El t) x) (abk h3 h4)
 | any=>exact trivial
 | zc t tn e=>exact trivial
 | zip t tn e zs=>exact trivial
 | mp kt t=>exact trivial
 | mr kt t e=>exact trivial
theorem Rn {us:List Value}:∀{ts:List Ty} {x:JQ ts} {vs:List Value},F2 (VR us w S) (Jo ts x) vs→BdF ts x
 | [],_,_,_=>trivial
 | t::ts,x,vs,h=>by
  cases h with
  | cons h1 h2=>exact⟨Rl h1,Rn h2⟩
theorem JH {us:List Value}:∀{l:List CS} {x:eY l} {n:Nat} {vs:List Value},F2 (VR us w S) (tC n l x).1 vs→(∀(j:Nat) (y:aj) (u:Value),(tC n l x).2[j]?=some y→us[n+j]?=some u→OR us w S y u)→abu l x
 | [],_,_,_,_,_=>trivial
 | s::l,x,n,vs,h,ho=>by
  cases h with
  | cons h1 h2=>
   refine⟨Ro h1 fun j y u hy hu=>ho j y u (by
    show((uW n s x.1).2++_)[j]?=_;rw[abc (aad.1 hy).1];exact hy) hu,JH (n:=n+(uW n s x.1).2.length) h2 fun j y u hy hu=>ho ((uW n s x.1).2.length+j) y u ?_ (by rw[←ab3];exact hu)⟩
   show((uW n s x.1).2++_)[_]?=_;rw[aa8 (by omega),abB];exact hy
theorem aa1 {us:List Value} {n:Nat} {s:SS} {x:SW s} {v:Value} (hx:XR us w S (yk n s x).1 v) (ho:∀(j:Nat) (y:aj) (u:Value),(yk n s x).2[j]?=some y→us[n+j]?=some u→OR us w S y u):BdS s x:=by
 cases s with
 | c s=>exact Ro hx ho
 | st k=>obtain⟨vs,_,h⟩:=hx;exact Rn h
 | box ty cs=>
  obtain⟨g,h1,_⟩:=hx;obtain⟨_,vs,_,_,h2⟩:=ho 0 _ _ rfl (by rw[acX];exact h1);exact JH (n:=n+1) h2 fun j y u hy hu=>ho (j+1) y u hy (by rw[show n+(j+1)=n+1+j by omega];exact hu)
 | fn k=>exact trivial
 | rf k=>exact trivial
 | cl k t=>exact trivial
 | sb o o2=>exact trivial
theorem Rm {us:List Value}:∀{l:List (Nat×SS)} {x:cA l} {n:Nat},(∀t y,(t,y)∈(tB n l x).1→∃v,XR us w S y v)→(∀(j:Nat) (y:aj) (u:Value),(tB n l x).2[j]?=some y→us[n+j]?=some u→OR us w S y u)→My l x
 | [],_,_,_,_=>trivial
 | p::l,x,n,h1,h2=>by
  obtain⟨v,hv⟩:=h1 _ _ abh;refine⟨aa1 (n:=n) hv fun j y u hy hu=>h2 j y u (by
   show((yk n p.2 x.1).2++_)[j]?=_;rw[abc (aad.1 hy).1];exact hy) hu,Rm (n:=n+(yk n p.2 x.1).2.length) (fun t y hy=>h1 t y (abr _ hy)) fun j y u hy hu=>?_⟩
  refine h2 ((yk n p.2 x.1).2.length+j) y u ?_ (by rw[←ab3];exact hu);show((yk n p.2 x.1).2++_)[_]?=_;rw[aa8 (by omega),abB];exact hy
theorem Rk {l:List (Nat×SS)} {x:cA l} (h:fK m cx (du l x) a w):My l x:=by
 obtain⟨us,S,hs,he⟩:=h;exact Rm (n:=0) (fun t y hy=>let ⟨v,_,hx⟩:=he.k t y hy;⟨v,hx⟩) fun j y u hy hu=>hs.o j y u hy (by rwa [abQ] at hu)
end
end Go.Proofs.YtjlhbfbdcfajfaaGreatDoor
