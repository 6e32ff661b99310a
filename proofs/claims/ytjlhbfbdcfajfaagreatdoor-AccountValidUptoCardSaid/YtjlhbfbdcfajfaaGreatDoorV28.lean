/- MRun1 MRun2 MSpec -/
import Derived.Test.YtjlhbfbdcfajfaaGreatDoorV00
import Derived.Test.YtjlhbfbdcfajfaaGreatDoorV27
import Derived.Deep.LoopGhost
set_option maxHeartbeats 8000000
set_option maxRecDepth 100000
namespace Go.Proofs.YtjlhbfbdcfajfaaGreatDoor
open Go Go.RowKit
structure ajL (P:Program) where
 ty:TypeId→Option Ty
 D:List (Sm P)
 isP:Zv P
def yQ (m:Nat) (o:Oper):Bool:=match o.dst with
 | some t=>decide (t<m)
 | none=>true
def xa (Hv Hf:List ai):Prop:=Hv.length=Hf.length∧∀(i:Nat) (x:ai),Hv[i]?=some x→x=.dead∨Hf[i]?=some x
structure iZ (P:Program) extends ajL P where
 eff:Oper→Bool
 x:Nat→Oper→dX→T dX
 xok:∀(m:Nat) (o:Oper) (cx:Cx) (st dA:dX) (a:Act) (w:World) (K:Act→World→Prop) (Q:Exit→Act→World→Prop),eff o=true→yQ m o=true→(x m o st).hit dA→fx m cx st a w→(∀a' w',fx m cx dA a' w'→K a' w')→o.wp P a w K Q
 d:Oper→Env→List ai→T (XV×List (Nat×ai))
 dok:∀(m:Nat) (o:Oper) (cx:Cx) (bs:List Value) (S:Nat→Prop) (env:Env) (Hv Hf:List ai) (a:Act) (w:World) (r:XV×List (Nat×ai)) (K:Act→World→Prop) (Q:Exit→Act→World→Prop),eff o=true→xa Hv Hf→HS cx bs w S Hf→ER m bs w S env a→(d o env Hv).hit r→(∀v w' S',HS cx bs w' S' (jb r.2 Hf)→(∀b,S b→S' b)→aA S w w'→XR bs w' S' r.1 v→K (a.put o.dst v) w')→o.wp P a w K Q
def TR (H:List ai):Option ai→List ai
 | none=>H
 | some x=>H++[x]
def xw (o:Oper) (st:dX):dX:=match o.op with
 | .buildSlice _ _ ps=>match lq st.env ps.toList with
  | some l=>(vf l).foldl (fun st i=>S5 i st) st
  | none=>st
 | _=>st
def sop {P:Program} (C:iZ P) (m:Nat) (o:Oper) (st:dX):T dX:=if yQ m o then if C.eff o then C.x m o st else(match o.op with
 | .store t x y=>match o.dst with
  | none=>(T.op (VB P st.heap t (ev st.env x) (ev st.env y))).bind fun H=>.lf ⟨st.env,H⟩
  | some _=>.bad
 | .call { callee:=.builtin .append,args:=args,argTypes:=ts }=>match args.toList,ts.toList with
  | [s,x],[t,t']=>if t=t' then(acM P C.ty st.heap t (ev st.env s) (ev st.env x)).bind fun r=>.lf ⟨qx st.env o.dst (some r.1),r.2⟩ else .bad
  | _,_=>.bad
 | .mapUpdate t x k v=>match o.dst with
  | none=>(Wl P C.ty st.heap.length (st.heap++[.dead]) t (ev st.env x) (ev st.env k) (ev st.env v)).bind fun r=>.lf ⟨st.env,jb (r.1++[(st.heap.length,r.2.getD .dead)]) (st.heap++[.dead])⟩
  | some _=>.bad
 | _=>(fun(st:dX)=>(U5 C.ty C.D st.heap.length st.env st.heap o).bind fun r=>.lf ⟨qx st.env o.dst (some r.1),TR st.heap r.2⟩) (xw o st)) else .bad
def xT (st:dX) (o:Oper):dX:=⟨qx st.env o.dst (some (.tup [])),st.heap⟩
def E4 (st:dX) (t:Nat) (b:Bool):dX:=⟨qx st.env (some t) (some (.one (.val (.bool b)))),st.heap⟩
def gdT (m:Nat) (ops:Array Oper) (o:Oper) (f:dX→T dX) (st:dX):T dX:=match o.guard with
 | none=>f st
 | some (j,want)=>if yQ m o then(match dC ops j with
  | some t=>match st.env.lookup t with
   | some (.one (.val (.bool b)))=>if b==want then f st else .lf (xT st o)
   | some (.one (.sym (.bool b)))=>.br b (if want then f (E4 st t true) else .lf (xT (E4 st t true) o)) (if want then .lf (xT (E4 st t false) o) else f (E4 st t false))
   | some (.tup [])=>.lf (xT st o)
   | _=>.bad
  | none=>.bad) else .bad
def EF {P:Program} (C:iZ P) (m:Nat) (ops:Array Oper):List Oper→dX→T dX
 | [],st=>.lf st
 | o::l,st=>(gdT m ops o (sop C m o) st).bind (EF C m ops l)
section
variable {P:Program} {o:Oper} {cx:Cx} {bs bm:List Value} {w w':World} {S:Nat→Prop} {H:List ai} {m:Nat} {env:Env} {a:Act} {cR:Nat} {K:Act→World→Prop} {Q:Exit→Act→World→Prop} {ops:Array Oper} {C:iZ P} {st dA:dX}
theorem SQ (hs:HS cx bs w S st.heap) (he:ER m bs w S st.env a) (hd:yQ m o=true) {r:XV×Option ai} (h:jM P o bs w S a st.heap.length r) (hK:∀a' w',fx m cx ⟨qx st.env o.dst (some r.1),TR st.heap r.2⟩ a' w'→K a' w'):o.wp P a w K Q:=by
 refine h K Q fun v w' S' u hb hS hn hx hf=>hK _ _ ?_;have fK:=hs.grow hb hS hn;have yG:=he.grow hs hb hS;cases hr:r.2 with
 | none=>
  obtain⟨Sc,_⟩:=hx bs (jq.refl _) (by rw[hr];intro h;cases h);exact⟨bs,S',fK,yG.put o.dst (some r.1) v hd fun y hy=>by obtain rfl:=aae hy;exact Sc⟩
 | some x=>
  obtain⟨Sc,Bb⟩:=hx (bs++[u]) (om _ _) (by rw[hr];intro _;rw[←hs.len,aag (aaW _)];simp);have mY:=hf x hr;have hj:(st.heap++[ai.dead])[st.heap.length]?=some .dead:=by rw[aag (aaW _)];simp
  have wl:(bs++[undef])[st.heap.length]?=some undef:=by rw[←hs.len,aag (aaW _)];simp
  have Al:(st.heap++[ai.dead]).set st.heap.length x=st.heap++[x]:=by rw[acN _ _ (aaW _)];simp
  have yD:(bs++[undef]).set st.heap.length u=bs++[u]:=by rw[←hs.len,acN _ _ (aaW _)];simp
  have jR:=fK.pad.fill (x:=x) (v:=u) hj wl rfl (by rw[yD];exact Bb x hr) (fun b gl=>⟨.inl (aa7 hs.size (mY b gl).1),(mY b gl).2,fun i z q hz hq e=>by
   by_cases hi:i<st.heap.length
   ·rw[aaK hi] at hz;rw[aaK (by rw[hs.len];exact hi)] at hq;have:=(hs.o i z q hz hq).lt e;have:=(mY b gl).1;omega
   ·have h1:=(aab.1 hz).1;have e2:i=st.heap.length:=by simp at h1;omega
    subst e2;rw[hj] at hz;obtain rfl:=aae hz;cases e⟩)
  rw[Al,yD] at jR;exact⟨bs++[u],S',jR,(yG.keep (fun _ h=>h) (aA.refl _ _) (om _ _)).put o.dst (some r.1) v hd fun y hy=>by obtain rfl:=aae hy;exact Sc⟩
theorem H7:∀(l:List Nat) {st:dX},fx m cx st a w→fx m cx (l.foldl (fun st i=>S5 i st) st) a w
 | [],_,h=>h
 | i::l,_,h=>H7 l (wB (i:=i) h)
theorem QY (h:fx m cx st a w):fx m cx (xw o st) a w:=by
 unfold xw;split
 ·split
  ·exact H7 _ h
  ·exact h
 ·exact h
theorem LY (h:(sop C m o st).hit dA) (cj:fx m cx st a w) (hK:∀a' w',fx m cx dA a' w'→K a' w'):o.wp P a w K Q:=by
 unfold sop at h;split at h
 ·rename_i hd;split at h
  ·rename_i Oa;exact C.xok m o cx st dA a w K Q Oa hd h cj hK
  obtain⟨bs,S,hs,he⟩:=cj;split at h
  ·rename_i t x y hop;split at h
   ·rename_i wu;obtain⟨H',h1,h2⟩:=T.hit_bind h;have h2:(⟨st.env,H'⟩:dX)=dA:=h2;subst h2;exact Qz hs he hop wu (T.hit_op h1) fun w' q1 q2=>hK _ _ ⟨bs,S,q1,he.keep (fun _ h=>h) q2 (jq.refl _)⟩
   ·exact h.elim
  ·rename_i args ts hop;split at h
   ·rename_i s x t t' ha ht;split at h
    ·rename_i e;subst e;obtain⟨r,h1,h2⟩:=T.hit_bind h;have h2:(⟨qx st.env o.dst (some r.1),r.2⟩:dX)=dA:=h2;subst h2;have ha':args=#[s,x]:=by rw[←acj (xs:=args),ha]
     have Sg:ts=#[t,t]:=by rw[←acj (xs:=ts),ht]
     rw[ha',Sg] at hop;exact TJ hs he hop h1 fun v w' bm q1 q2 qa q3=>hK _ _ ⟨bm,S,q1,(he.keep (fun _ h=>h) q2 qa).put o.dst (some r.1) v hd fun y hy=>by obtain rfl:=aae hy;exact q3⟩
    ·exact h.elim
   ·exact h.elim
  ·rename_i t x k v hop;split at h
   ·rename_i wu;obtain⟨r,h1,h2⟩:=T.hit_bind h;have h2:(⟨st.env,_⟩:dX)=dA:=h2;subst h2;have hpe:ER m (bs++[undef]) w S st.env a:=he.keep (fun _ h=>h) (aA.refl _ _) (om _ _);exact MQ hs.pad hpe C.isP hop wu (by rw[aag (aaW _)];simp) (by rw[←hs.len,aag (aaW _)];simp) h1 fun w' bm q1 q2 q3 _=>hK _ _ ⟨bm,S,q1,hpe.keep (fun _ h=>h) q2 q3⟩
   ·exact h.elim
  ·have mX:fx m cx (xw o st) a w:=QY ⟨bs,S,hs,he⟩;have h:((U5 C.ty C.D (xw o st).heap.length (xw o st).env (xw o st).heap o).bind fun r=>T.lf (⟨qx (xw o st).env o.dst (some r.1),TR (xw o st).heap r.2⟩:dX)).hit dA:=h;generalize xw o st=st1 at h mX;obtain⟨bs,S,hs,he⟩:=mX;obtain⟨r,h1,h2⟩:=T.hit_bind h;have h2:(⟨qx st1.env o.dst (some r.1),TR st1.heap r.2⟩:dX)=dA:=h2;subst h2;exact SQ hs he hd (AA C.isP hs he h1) hK
 ·exact h.elim
theorem ER.lit (he:ER m bs w S env a) {t:Nat} {y:XV} {v:Value} (hv:a.tmps[t]?=some v) (hx:XR bs w S y v):ER m bs w S (qx env (some t) (some y)) a:=by
 refine⟨he.d,he.s,fun u z hz=>?_⟩;rcases aba.1 hz with e|hz
 ·injection e with e1 e2
  subst e1 e2;exact⟨v,hv,hx⟩
 ·exact he.k u z (adm.1 hz).1
theorem fx.lit (h:fx m cx st a w) {t:Nat} {b c:Bool} (hl:st.env.lookup t=some (.one (.sym (.bool b)))) (hc:b=c):fx m cx (E4 st t c) a w:=by
 obtain⟨bs,S,hs,he⟩:=h;obtain⟨v,hv,hx⟩:=he.k _ _ (kQ hl);obtain⟨rfl,_⟩:=hx;subst hc;exact⟨bs,S,hs,he.lit hv ⟨rfl,rfl⟩⟩
theorem fx.skip (h:fx m cx st a w) (hd:yQ m o=true):fx m cx (xT st o) (a.put o.dst undef) w:=by
 obtain⟨bs,S,hs,he⟩:=h;exact⟨bs,S,hs,he.put o.dst (some (.tup [])) undef hd fun y hy=>by obtain rfl:=aae hy;exact⟨[],rfl,.nil⟩⟩
theorem rJ {j t:Nat} {want:Bool} (hg:o.guard=some (j,want)) (ht:dC ops j=some t) (hv:a.tmps[t]?=some undef):Region.wanted o (yielded ops a.tmps)=false:=by
 unfold Region.wanted;rw[hg];have hy:yielded ops a.tmps j=none:=by
  unfold yielded;unfold dC at ht;cases ho:ops[j]? with
  | none=>rw[ho] at ht;cases ht
  | some q=>
   rw[ho] at ht;have Sg:q.dst=some t:=ht;simp[Sg,hv,undef]
 simp only[hy];rfl
theorem I5 (h:fx m cx st a w) {t:Nat} (hl:st.env.lookup t=some (.tup [])):a.tmps[t]?=some undef:=by
 obtain⟨bs,S,hs,he⟩:=h;obtain⟨v,hv,vs,e1,e2⟩:=he.k _ _ (kQ hl);cases e2
 rw[hv,e1];rfl
theorem oz {j t:Nat} {want b:Bool} (hg:o.guard=some (j,want)) (ht:dC ops j=some t) (hv:a.tmps[t]?=some (.bool b)):Region.wanted o (yielded ops a.tmps)=(b==want):=by
 unfold Region.wanted;rw[hg];have hy:yielded ops a.tmps j=some b:=by
  unfold yielded;unfold dC at ht;cases ho:ops[j]? with
  | none=>rw[ho] at ht;cases ht
  | some q=>
   rw[ho] at ht;have Sg:q.dst=some t:=ht;simp[Sg,hv]
 simp only[hy];cases b<;>cases want<;>rfl
theorem L0 (h:fx m cx st a w) {t:Nat} {b:Bool} (hl:st.env.lookup t=some (.one (.sym (.bool b)))):a.tmps[t]?=some (.bool b):=by
 obtain⟨bs,S,hs,he⟩:=h;obtain⟨v,hv,hx⟩:=he.k _ _ (kQ hl);obtain⟨rfl,_⟩:=hx;exact hv
theorem LZ (h:fx m cx st a w) {t:Nat} {b:Bool} (hl:st.env.lookup t=some (.one (.val (.bool b)))):a.tmps[t]?=some (.bool b):=by
 obtain⟨bs,S,hs,he⟩:=h;obtain⟨v,hv,hx⟩:=he.k _ _ (kQ hl);obtain⟨rfl,_⟩:=hx;exact hv
theorem Oz {f:dX→T dX} {i:Nat} (ho:ops[i]?=some o) (h:(gdT m ops o f st).hit dA) (cj:fx m cx st a w) (hf:∀st,(f st).hit dA→fx m cx st a w→o.wp P a w K Q) (hK:∀a' w',fx m cx dA a' w'→K a' w'):wpOp P ops Q i K a w:=by
 have go:∀st,(f st).hit dA→fx m cx st a w→Region.wanted o (yielded ops a.tmps)=true→wpOp P ops Q i K a w:=fun st h1 h2 h3=>uH ho h3 (hf st h1 h2);have no:∀st,yQ m o=true→xT st o=dA→fx m cx st a w→Region.wanted o (yielded ops a.tmps)=false→wpOp P ops Q i K a w:=by
  intro st hd h1 h2 h3;unfold wpOp;rw[ho];simp only[h3,abC,if_false];subst h1;exact hK _ _ (h2.skip hd)
 unfold gdT at h;split at h
 ·rename_i hg;exact go st h cj (by simp[Region.wanted,hg])
 ·rename_i j want hg;split at h
  ·rename_i hd;split at h
   ·rename_i t ht;split at h
    ·rename_i b hl;have hw:=oz hg ht (LZ cj hl);split at h
     ·rename_i e;rw[e] at hw;exact go st h cj hw
     ·rename_i e;rw[Bool.not_eq_true] at e;rw[e] at hw;exact no st hd h cj hw
    ·rename_i b hl;have hw:=oz hg ht (L0 cj hl);cases b with
     | true=>
      have h:=h.1 rfl;have mX:=cj.lit hl (c:=true) rfl;cases want with
      | true=>exact go _ h mX hw
      | false=>exact no _ hd h mX hw
     | false=>
      have h:=h.2 rfl;have mX:=cj.lit hl (c:=false) rfl;cases want with
      | true=>exact no _ hd h mX hw
      | false=>exact go _ h mX hw
    ·rename_i hl;exact no st hd h cj (rJ hg ht (I5 cj hl))
    ·exact h.elim
   ·exact h.elim
  ·exact h.elim
theorem zx:∀(l:List Oper) (i:Nat) {st:dX} {a:Act} {w:World},ops.toList.drop i=l→(EF C m ops l st).hit dA→fx m cx st a w→(∀a' w',fx m cx dA a' w'→Q .normal a' w')→wpOps P ops Q (List.range' i l.length) a w
 | [],i,st,a,w,hl,h,cj,hQ=>by
  have h:st=dA:=h;subst h;exact hQ a w cj
 | o::l,i,st,a,w,hl,h,cj,hQ=>by
  obtain⟨st1,h1,h2⟩:=T.hit_bind h;have ho:ops[i]?=some o:=by
   have:=congrArg (fun l:List Oper=>l[0]?) hl;simp only[acy,adA,ads,Array.getElem?_toList] at this;exact this
  have xH:ops.toList.drop (i+1)=l:=by
   rw[←adM,hl];rfl
  rw[abs,List.range'_succ,wpOps_cons];exact Oz ho h1 cj (fun st q1 q2=>LY q1 q2 fun a' w' q=>zx l (i+1) xH h2 q hQ) fun a' w' q=>zx l (i+1) xH h2 q hQ
theorem Ji {id:Nat} (h:(EF C m ops ops.toList st).hit dA) (cj:fx m cx st a w) (hQ:∀a' w',fx m cx dA a' w'→Q .normal a' w'):(Code.region id ops false).wp P Q a w:=by
 refine wp_region ?_;have:=zx (C:=C) ops.toList 0 rfl h cj hQ;rw[abI] at this;rw[List.range_eq_range'];exact this
end
inductive Lf where
 | nrm (st:dX)
 | ext (id:Nat) (st:dX)
 | ret (r:XV) (st:dX)
inductive KI where
 | code (n:Nat) (c:Code)
 | blk (id:Nat)
def kC:Code→List Code
 | .seq a b=>kC a++kC b
 | .cond _ a b=>kC a++kC b
 | .block _ b=>kC b
 | .loop b=>.loop b::kC b
 | _=>[]
def oS (id:Nat):List KI→Option (List KI)
 | []=>none
 | .blk j::ks=>if id=j then some ks else oS id ks
 | .code _ _::ks=>oS id ks
def YA (P:Program) (fn:Func) (m:Nat) (cx:Cx) (r:XV) (st:dX) (a:Act) (w:World):Prop:=
 ∃bs S S',HS cx bs w S st.heap∧ER m bs w S st.env a∧(∀b,S' b→(cx.S0 b∨cx.w0.heap.size≤b∨cx.M b)∧b<w.heap.size)∧(cx.pb=[]∨∀b,S' b→S b)∧∃v,(results fn a.tmps).run P w=.ok v w∧XR [] w S' r v
structure Rg (P:Program) (m:Nat) where
 fn:Func
 pb:List Nat
 reg:Nat→Array Oper→Bool→dX→T dX
 ok:∀id ops dr (cx:Cx) (st dA:dX) (a:Act) (w:World) (Q:Exit→Act→World→Prop),(reg id ops dr st).hit dA→fx m cx st a w→(∀a' w',fx m cx dA a' w'→Q .normal a' w')→(Code.region id ops dr).wp P Q a w
 res:dX→Option XV
 resOk:∀(cx:Cx) (st:dX) (a:Act) (w:World) (r:XV),cx.pb=pb→res st=some r→fx m cx st a w→YA P fn m cx r st a w
def LQ (P:Program) (fn:Func) (m:Nat) (cx:Cx) (l:Lf):Exit→Act→World→Prop
 | .normal,a,w=>∃st,Lf.nrm st=l∧fx m cx st a w
 | .exit id,a,w=>∃st,Lf.ext id st=l∧fx m cx st a w
 | .ret,a,w=>∃r st,Lf.ret r st=l∧YA P fn m cx r st a w
 | _,_,_=>False
def AY (P:Program) (fn:Func) (m:Nat) (pb:List Nat) (c:Code) (f:dX→T Lf):Prop:=∀(cx:Cx) (st:dX) (a:Act) (w:World) (l:Lf),cx.pb=pb→(f st).hit l→fx m cx st a w→c.wp P (LQ P fn m cx l) a w
structure AU (P:Program) (fn:Func) (m:Nat) (pb:List Nat) (loops:List Code) where
 f:Nat→Option (dX→T Lf)
 ok:∀(k:Nat) (g:dX→T Lf) (c:Code),f k=some g→loops[k]?=some c→AY P fn m pb c g
def O2 (x:Operand) (st:dX) (f:Bool→dX→T Lf):T Lf:=match ev st.env x with
 | some (.one (.val (.bool v)))=>f v st
 | some (.one (.sym (.bool v)))=>match x with
  | .tmp t=>.br v (f true (E4 st t true)) (f false (E4 st t false))
  | _=>.bad
 | _=>.bad
section
variable {P:Program} {m:Nat} {loops:List Code} (R:Rg P m) (L:AU P R.fn m R.pb loops)
def run:Nat→List KI→dX→T Lf
 | 0,_,_=>.bad
 | _+1,[],st=>.lf (.nrm st)
 | n+1,.blk _::ks,st=>run n ks st
 | n+1,.code i c::ks,st=>match c with
  | .skip=>run n ks st
  | .label _=>run n ks st
  | .seq a b=>run n (.code i a::.code (i+(kC a).length) b::ks) st
  | .block id b=>run n (.code i b::.blk id::ks) st
  | .exit id=>match oS id ks with
   | some RZ=>run n RZ st
   | none=>.lf (.ext id st)
  | .ret=>(T.op (R.res st)).bind fun r=>.lf (.ret r st)
  | .cond x a b=>O2 x st fun v st=>run n ((if v then .code i a else .code (i+(kC a).length) b)::ks) st
  | .region id ops dr=>(R.reg id ops dr st).bind (run n ks)
  | .loop b=>match L.f i with
   | some g=>(g st).bind fun l=>match l with
    | .nrm dA=>run n ks dA
    | .ext id dA=>match oS id ks with
     | some RZ=>run n RZ dA
     | none=>.lf (.ext id dA)
    | .ret r dA=>.lf (.ret r dA)
   | none=>run n (.code (i+1) b::.code i (.loop b)::ks) st
  | _=>.bad
end
def WK (P:Program) (Q:Exit→Act→World→Prop):List KI→Exit→Act→World→Prop
 | [],e,a,w=>Q e a w
 | .blk j::ks,e,a,w=>match e with
  | .exit id=>if id=j then WK P Q ks .normal a w else WK P Q ks (.exit id) a w
  | e=>WK P Q ks e a w
 | .code _ c::ks,e,a,w=>match e with
  | .normal=>c.wp P (WK P Q ks) a w
  | e=>WK P Q ks e a w
section
variable {P:Program} {Q Q':Exit→Act→World→Prop} {m:Nat} {cx:Cx} {loops:List Code} {R:Rg P m} {L:AU P R.fn m R.pb loops}
theorem WK.mono (h:∀e a w,Q e a w→Q' e a w):∀{ks:List KI} {e:Exit} {a:Act} {w:World},WK P Q ks e a w→WK P Q' ks e a w
 | [],_,_,_,hq=>h _ _ _ hq
 | .blk j::ks,e,a,w,hq=>by
  cases e with
  | exit id=>
   have hq:if id=j then WK P Q ks .normal a w else WK P Q ks (.exit id) a w:=hq
   show if id=j then WK P Q' ks .normal a w else WK P Q' ks (.exit id) a w
   split
   ·rename_i e;rw[if_pos e] at hq;exact WK.mono h hq
   ·rename_i e;rw[if_neg e] at hq;exact WK.mono h hq
  | _=>exact WK.mono (ks:=ks) h hq
 | .code i c::ks,e,a,w,hq=>by
  cases e with
  | normal=>exact wp_mono (c:=c) hq fun e a w q=>WK.mono h q
  | _=>exact WK.mono (ks:=ks) h hq
theorem WK.ret:∀{ks:List KI} {a:Act} {w:World},Q .ret a w→WK P Q ks .ret a w
 | [],_,_,h=>h
 | .blk _::ks,_,_,h=>WK.ret (ks:=ks) h
 | .code _ _::ks,_,_,h=>WK.ret (ks:=ks) h
theorem WK.exit {id:Nat} {k2:List KI}:∀{k1:List KI} {a:Act} {w:World},(∀k3,oS id (k1++k2)=some (k3++k2)→(∃k0,k1=k0++.blk id::k3)→WK P Q k3 .normal a w)→(oS id (k1++k2)=oS id k2→Q (.exit id) a w)→WK P Q k1 (.exit id) a w
 | [],_,_,_,h=>h rfl
 | .blk j::ks,a,w,h1,h2=>by
  show if id=j then WK P Q ks .normal a w else WK P Q ks (.exit id) a w
  split
  ·rename_i e;subst e;exact h1 ks (by show(if id=id then some (ks++k2) else _)=_;rw[if_pos rfl]) ⟨[],rfl⟩
  ·rename_i e;have hp:oS id (.blk j::ks++k2)=oS id (ks++k2):=if_neg e;rw[hp] at h1 h2;exact WK.exit (k1:=ks) (fun k3 q1 ⟨k0,q2⟩=>h1 k3 q1 ⟨.blk j::k0,by rw[q2];rfl⟩) h2
 | .code i c::ks,a,w,h1,h2=>by
  have hp:oS id (.code i c::ks++k2)=oS id (ks++k2):=rfl;rw[hp] at h1 h2;exact WK.exit (k1:=ks) (fun k3 q1 ⟨k0,q2⟩=>h1 k3 q1 ⟨.code i c::k0,by rw[q2];rfl⟩) h2
def uF (loops:List Code) (ks:List KI):Prop:=∀i c,KI.code i c∈ks→∀j x,(kC c)[j]?=some x→loops[i+j]?=some x
def RQ (R:Rg P m) (L:AU P R.fn m R.pb loops) (cx:Cx) (l:Lf) (n:Nat) (k2:List KI):Exit→Act→World→Prop
 | .normal,a,w=>∃j st,j≤n∧(run R L j k2 st).hit l∧fx m cx st a w
 | .exit id,a,w=>∃j st,j≤n∧(match oS id k2 with|some k3=>(run R L j k3 st).hit l|none=>Lf.ext id st=l)∧fx m cx st a w
 | .ret,a,w=>∃r st,Lf.ret r st=l∧YA P R.fn m cx r st a w
 | _,_,_=>False
theorem RQ.up {l:Lf} {n n':Nat} {k2:List KI} (h:n≤n'):∀e a w,RQ R L cx l n k2 e a w→RQ R L cx l n' k2 e a w:=by
 intro e a w hq;cases e with
 | normal=>obtain⟨j,st,h1,h2⟩:=hq;exact⟨j,st,aa7 h1 h,h2⟩
 | exit id=>obtain⟨j,st,h1,h2⟩:=hq;exact⟨j,st,aa7 h1 h,h2⟩
 | _=>exact hq
theorem uF.tail {ks:List KI} {x:KI} (h:uF loops (x::ks)):uF loops ks:=fun i c hm=>h i c (aa9 _ hm)
theorem uF.cons {ks:List KI} {i:Nat} {c:Code} (h:uF loops ks) (hc:∀j x,(kC c)[j]?=some x→loops[i+j]?=some x):uF loops (.code i c::ks):=fun i' c' hm j x hx=>by
 rcases aba.1 hm with e|hm
 ·injection e with e1 e2;subst e1 e2;exact hc j x hx
 ·exact h i' c' hm j x hx
theorem uF.blk {ks:List KI} {i:Nat} (h:uF loops ks):uF loops (.blk i::ks):=fun i' c' hm=>by
 rcases aba.1 hm with e|hm
 ·cases e
 ·exact h i' c' hm
theorem uF.sub {k0 k1:List KI} (h:uF loops (k0++k1)):uF loops k1:=fun i c hm=>h i c (List.mem_append_right _ hm)
theorem O1 {x:Operand} {st:dX} {f:Bool→dX→T Lf} {l:Lf} {a:Act} {w:World} {c d:Code} (h:(O2 x st f).hit l) (cj:fx m cx st a w) (ht:∀st,(f true st).hit l→fx m cx st a w→c.wp P Q a w) (hf:∀st,(f false st).hit l→fx m cx st a w→d.wp P Q a w):(Code.cond x c d).wp P Q a w:=by
 unfold O2 at h;split at h
 ·rename_i v hv;obtain⟨bs,S,hs,he⟩:=cj;have hx:=(cM he hv).1;cases v with
  | true=>exact wp_cond_true hx (ht st h ⟨bs,S,hs,he⟩)
  | false=>exact wp_cond_false hx (hf st h ⟨bs,S,hs,he⟩)
 ·rename_i v hv;split at h
  ·rename_i t;have hx:a.eval (.tmp t)=.bool v:=by obtain⟨bs,S,hs,he⟩:=cj;exact(cM he hv).1
   cases v with
   | true=>exact wp_cond_true hx (ht _ (h.1 rfl) (cj.lit hv rfl))
   | false=>exact wp_cond_false hx (hf _ (h.2 rfl) (cj.lit hv rfl))
  ·exact h.elim
 ·exact h.elim
theorem afg {l:Lf} (np:cx.pb=R.pb):∀(n:Nat) (k1 k2:List KI) (st:dX) (a:Act) (w:World),(run R L n (k1++k2) st).hit l→fx m cx st a w→uF loops (k1++k2)→WK P (RQ R L cx l n k2) k1 .normal a w:=by
 intro n;induction n using Nat.strongRecOn with
 | _ n ih=>
 intro k1 k2 st a w h cj hk;cases k1 with
 | nil=>exact⟨n,st,aaW _,h,cj⟩
 | cons x k1=>
  cases n with
  | zero=>exact h.elim
  | succ n=>
   have Sf:∀e a w,RQ R L cx l n k2 e a w→RQ R L cx l (n+1) k2 e a w:=RQ.up (Nat.le_succ n);have N8:∀(id:Nat) (j:Nat) (st:dX) (a:Act) (w:World),j≤n→fx m cx st a w→(match oS id (k1++k2) with|some k3=>(run R L j k3 st).hit l|none=>Lf.ext id st=l)→WK P (RQ R L cx l (n+1) k2) k1 (.exit id) a w:=by
    intro id j st a w hj cj hp;refine WK.exit (k2:=k2) (fun k3 q1 ⟨k0,q2⟩=>?_) fun q=>?_
    ·rw[q1] at hp;exact WK.mono (RQ.up (by omega)) (ih j (by omega) k3 k2 st a w hp cj (by
      have nY:uF loops (k1++k2):=hk.tail;rw[q2,abQ] at nY;exact(uF.sub nY).tail))
    ·rw[q] at hp;exact⟨j,st,by omega,hp,cj⟩
   cases x with
   | blk id=>exact WK.mono (ks:=k1) Sf (ih n (acT n) k1 k2 st a w h cj hk.tail)
   | code i c=>
    have hc:=hk i c aaS;have Cz:=hk.tail;show c.wp P (WK P (RQ R L cx l (n+1) k2) k1) a w;cases c with
    | skip=>exact wp_skip (WK.mono Sf (ih n (acT n) k1 k2 st a w h cj Cz))
    | label q=>exact wp_label (WK.mono Sf (ih n (acT n) k1 k2 st a w h cj Cz))
    | seq x y=>
     have hy:∀j z,(kC y)[j]?=some z→loops[i+(kC x).length+j]?=some z:=fun j z hz=>by
      rw[act];refine hc _ z ?_;show(kC x++kC y)[_]?=_;rw[aag (by omega),abH];exact hz
     have hx:∀j z,(kC x)[j]?=some z→loops[i+j]?=some z:=fun j z hz=>hc j z (by
      show(kC x++kC y)[j]?=_;rw[aaK (aab.1 hz).1];exact hz)
     have:=ih n (acT n) (.code i x::.code (i+(kC x).length) y::k1) k2 st a w h cj (uF.cons (uF.cons Cz hy) hx);refine wp_seq (wp_mono (c:=x) (WK.mono (ks:=.code i x::.code (i+(kC x).length) y::k1) Sf this) fun e a w q=>?_);cases e<;>exact q
    | block id b=>
     have:=ih n (acT n) (.code i b::.blk id::k1) k2 st a w h cj (uF.cons (uF.blk Cz) hc);refine wp_block (wp_mono (c:=b) (WK.mono (ks:=.code i b::.blk id::k1) Sf this) fun e a w q=>?_);cases e<;>exact q
    | exit id=>
     have h:(match oS id (k1++k2) with|some RZ=>run R L n RZ st|none=>T.lf (Lf.ext id st)).hit l:=h;refine wp_exit (N8 id n st a w (aaW _) cj ?_);split
     ·rename_i k3 e;rw[e] at h;exact h
     ·rename_i e;rw[e] at h;exact h
    | ret=>
     obtain⟨r,q1,q2⟩:=T.hit_bind h;exact wp_ret (WK.ret ⟨r,st,q2,R.resOk cx st a w r np (T.hit_op q1) cj⟩)
    | cond x c d=>
     refine O1 (P:=P) (Q:=WK P (RQ R L cx l (n+1) k2) k1) h cj (fun st q1 q2=>?_) fun st q1 q2=>?_
     ·exact WK.mono (ks:=.code i c::k1) Sf (ih n (acT n) (.code i c::k1) k2 st a w q1 q2 (uF.cons Cz fun j z hz=>hc j z (by
       show(kC c++kC d)[j]?=_;rw[aaK (aab.1 hz).1];exact hz)))
     ·exact WK.mono (ks:=.code (i+(kC c).length) d::k1) Sf (ih n (acT n) (.code (i+(kC c).length) d::k1) k2 st a w q1 q2 (uF.cons Cz fun j z hz=>by
       rw[act];refine hc _ z ?_;show(kC c++kC d)[_]?=_;rw[aag (by omega),abH];exact hz))
    | region id ops dr=>
     obtain⟨st1,q1,q2⟩:=T.hit_bind h;exact R.ok id ops dr cx st st1 a w _ q1 cj fun a' w' q3=>WK.mono Sf (ih n (acT n) k1 k2 st1 a' w' q2 q3 Cz)
    | loop b=>
     have abE:∀st,run R L (n+1) (.code i (.loop b)::(k1++k2)) st=match L.f i with
      | some g=>(g st).bind fun l=>match l with
       | .nrm dA=>run R L n (k1++k2) dA
       | .ext id dA=>match oS id (k1++k2) with
        | some RZ=>run R L n RZ dA
        | none=>.lf (.ext id dA)
       | .ret r dA=>.lf (.ret r dA)
      | none=>run R L n (.code (i+1) b::.code i (.loop b)::(k1++k2)) st:=fun _=>rfl
     cases hf:L.f i with
     | some g=>
      have h:(run R L (n+1) (.code i (.loop b)::(k1++k2)) st).hit l:=h;rw[abE,hf] at h;obtain⟨l',q1,q2⟩:=T.hit_bind h;refine wp_mono (L.ok i g (.loop b) hf (hc 0 _ rfl) cx st a w l' np q1 cj) fun e a' w' q=>?_;cases e with
      | normal=>
       obtain⟨dA,rfl,q3⟩:=q;exact WK.mono Sf (ih n (acT n) k1 k2 dA a' w' q2 q3 Cz)
      | exit id=>
       obtain⟨dA,rfl,q3⟩:=q;refine N8 id n dA a' w' (aaW _) q3 ?_;simp only at q2;split
       ·rename_i k3 e;rw[e] at q2;exact q2
       ·rename_i e;rw[e] at q2;exact q2
      | ret=>
       obtain⟨r,dA,rfl,q3⟩:=q;exact WK.ret ⟨r,dA,q2,q3⟩
      | _=>exact q.elim
     | none=>
      refine wp_loop_ghost (fun j a w=>∃dA,j≤n+1∧(run R L j (.code i (.loop b)::(k1++k2)) dA).hit l∧fx m cx dA a w) (n+1) ⟨st,aaW _,h,cj⟩ ?_;rintro j a1 w1 ⟨st1,hj,h1,nc⟩;cases j with
      | zero=>exact h1.elim
      | succ j=>
       have Xd:run R L (j+1) (.code i (.loop b)::(k1++k2)) st1=match L.f i with
        | some g=>(g st1).bind fun l=>match l with
         | .nrm dA=>run R L j (k1++k2) dA
         | .ext id dA=>match oS id (k1++k2) with
          | some RZ=>run R L j RZ dA
          | none=>.lf (.ext id dA)
         | .ret r dA=>.lf (.ret r dA)
        | none=>run R L j (.code (i+1) b::.code i (.loop b)::(k1++k2)) st1:=rfl
       rw[Xd,hf] at h1;have:=ih j (by omega) [.code (i+1) b] (.code i (.loop b)::(k1++k2)) st1 a1 w1 h1 nc (uF.cons (uF.cons Cz hc) fun q z hz=>by
        rw[act,adN 1 q];exact hc (q+1) z hz)
       refine wp_mono (c:=b) this fun e a2 w2 q=>?_;cases e with
       | normal=>
        obtain⟨j',dA,q1,q2,q3⟩:=q;exact⟨j',by omega,dA,by omega,q2,q3⟩
       | exit id=>
        obtain⟨j',dA,q1,q2,q3⟩:=q;exact N8 id j' dA a2 w2 (by omega) q3 q2
       | ret=>exact WK.ret q
       | _=>exact q.elim
    | _=>exact h.elim
theorem zl (np:cx.pb=R.pb) {n:Nat} {c:Code} {i:Nat} {st:dX} {a:Act} {w:World} {l:Lf} (h:(run R L n [.code i c] st).hit l) (cj:fx m cx st a w) (hk:∀j x,(kC c)[j]?=some x→loops[i+j]?=some x):c.wp P (LQ P R.fn m cx l) a w:=by
 have:=afg np n [.code i c] [] st a w h cj (uF.cons (fun _ _ h=>by cases h) hk);refine wp_mono (c:=c) this fun e a w q=>?_;cases e with
 | normal=>
  obtain⟨j,dA,_,q1,q2⟩:=q;cases j with
  | zero=>exact q1.elim
  | succ j=>exact⟨dA,q1,q2⟩
 | exit id=>
  obtain⟨j,dA,_,q1,q2⟩:=q;exact⟨dA,q1,q2⟩
 | ret=>exact q
 | _=>exact q.elim
end
inductive ZS where
 | d (t:Ty)
 | own (t:Ty) (e:TypeId)
 | any
inductive CS where
 | d (t:Ty)
 | own (t:Ty) (e:TypeId)
 | any
 | zc (t tn:Ty) (e:TypeId)
 | zip (t tn:Ty) (e:TypeId) (zs:List ZS)
 | mp (kt:Kt) (t:Ty)
 | mr (kt:Kt) (t:Ty) (e:TypeId)
inductive SS where
 | c (s:CS)
 | st (k:Nat)
 | box (ty:TypeId) (cs:List CS)
 | fn (k:FuncId)
 | rf (k:Nat)
 | cl (k:FuncId) (t:Ty)
 | sb (o o2:Nat)
def SS.isSb:SS→Bool
 | .sb _ _=>true
 | _=>false
def ZV:ZS→Type
 | .d t=>El t
 | .own t _=>List (El t)
 | .any=>Unit
def AT:List ZS→Type
 | []=>Unit
 | s::l=>ZV s×AT l
def CV:CS→Type
 | .d t=>El t
 | .own t _=>List (El t)
 | .any=>Unit
 | .zc t tn _=>Nat×List (El t)×List (El tn)
 | .zip t tn _ zs=>Nat×List (El t)×AT zs×List (El tn)
 | .mp kt t=>Nat×(kt.K→Option (El t))
 | .mr kt t _=>Nat×(kt.K→Option (List (El t)))
def fc:List CS→Type
 | []=>Unit
 | s::l=>CV s×fc l
def SW:SS→Type
 | .c s=>CV s
 | .st k=>FY k
 | .box _ cs=>fc cs
 | .fn _=>Unit
 | .rf k=>FY k
 | .cl _ t=>El t
 | .sb _ _=>Unit
def ct:List (Nat×SS)→Type
 | []=>Unit
 | p::l=>SW p.2×ct l
def Cb (n:Nat):(s:ZS)→ZV s→AV×List ai
 | .d t,x=>(one t x,[])
 | .own t e,rs=>(.own n,[.row t e rs])
 | .any,_=>(.any n,[.dead])
def sr (n:Nat):(l:List ZS)→AT l→List AV×List ai
 | [],_=>([],[])
 | s::l,x=>((Cb n s x.1).1::(sr (n+(Cb n s x.1).2.length) l x.2).1,(Cb n s x.1).2++(sr (n+(Cb n s x.1).2.length) l x.2).2)
def ue (n:Nat):(s:CS)→CV s→AV×List ai
 | .d t,x=>(one t x,[])
 | .own t e,rs=>(.own n,[.row t e rs])
 | .any,_=>(.any n,[.dead])
 | .zc t tn e,x=>(.own n,[.zc e t tn x.1 x.2.1 x.2.2])
 | .mp kt t,x=>(.mp n,[.mp kt t x.1 x.2])
 | .mr kt t e,x=>(.mp n,[.mq (n+1),.mr n kt t e x.1 x.2])
 | .zip t tn e zs,x=>(.own n,.zip (n+1) e t tn x.1 x.2.1 (sr (n+2) zs x.2.2.1).1 x.2.2.2::.dead::(sr (n+2) zs x.2.2.1).2)
def sw (n:Nat):(l:List CS)→fc l→List AV×List ai
 | [],_=>([],[])
 | s::l,x=>((ue n s x.1).1::(sw (n+(ue n s x.1).2.length) l x.2).1,(ue n s x.1).2++(sw (n+(ue n s x.1).2.length) l x.2).2)
def xj (n:Nat):(s:SS)→SW s→XV×List ai
 | .c s,x=>(.one (ue n s x).1,(ue n s x).2)
 | .st k,x=>(.agg (lR (.st k) x),[])
 | .fn k,_=>(.one (.val (.func (.func k) #[] #[])),[])
 | .rf k,x=>(.one (.ref (.st k) x 0),[])
 | .cl k t,x=>(.one (.cl k t x),[])
 | .sb o o2,_=>(.one (.sub o o2 0),[])
 | .box ty cs,x=>(.one (.ptr n 0),.cells ty (sw (n+1) cs x).1::(sw (n+1) cs x).2)
def su (n:Nat):(l:List (Nat×SS))→ct l→Env×List ai
 | [],_=>([],[])
 | p::l,x=>((p.1,(xj n p.2 x.1).1)::(su (n+(xj n p.2 x.1).2.length) l x.2).1,(xj n p.2 x.1).2++(su (n+(xj n p.2 x.1).2.length) l x.2).2)
def di (l:List (Nat×SS)) (x:ct l):dX:=⟨(su 0 l x).1,(su 0 l x).2⟩
def VW (H:List ai) (t:Ty) (e:TypeId):AV→Option (List (El t)×List (Option Nat))
 | .own o=>match H[o]? with
  | some (.row t' e' rs)=>if e'=e then(lj t (.list t' rs false)).map fun x=>(x,[some o]) else none
  | _=>none
 | .val (.slice none 0 0)=>some ([],[none])
 | _=>none
def rdN:AV→Option (Unit×List (Option Nat))
 | .any o=>some ((),[some o])
 | _=>some ((),[none])
def rdZ (H:List ai):(s:ZS)→AV→Option (ZV s×List (Option Nat))
 | .d t,a=>(KR t a).map fun x=>(x,[])
 | .own t e,a=>VW H t e a
 | .any,a=>rdN a
def BM (H:List ai):(l:List ZS)→List AV→Option (AT l×List (Option Nat))
 | [],[]=>some ((),[])
 | s::l,a::r=>match rdZ H s a,BM H l r with
  | some x,some y=>some ((x.1,y.1),x.2++y.2)
  | _,_=>none
 | _,_=>none
def Jo (H:List ai) (t tn:Ty) (e:TypeId):AV→Option ((Nat×List (El t)×List (El tn))×List (Option Nat))
 | .own o=>match H[o]? with
  | some (.zc e' t' LC hJ done rest)=>match Ty.eq? t' t,Ty.eq? LC tn with
   | some h,some h'=>if e'=e then some ((hJ,h.down▸done,h'.down▸rest),[some o]) else none
   | _,_=>none
  | _=>none
 | _=>none
def xW (H:List ai) (t tn:Ty) (e:TypeId) (zs:List ZS):AV→Option ((Nat×List (El t)×AT zs×List (El tn))×List (Option Nat))
 | .own o=>match H[o]? with
  | some (.zip o2 e' t' LC hJ done cur rest)=>match Ty.eq? t' t,Ty.eq? LC tn,BM H zs cur with
   | some h,some h',some x=>if e'=e then some ((hJ,h.down▸done,x.1,h'.down▸rest),some o::some o2::x.2) else none
   | _,_,_=>none
  | _=>none
 | _=>none
def Jq (H:List ai) (kt:Kt) (t:Ty):AV→Option ((Nat×(kt.K→Option (El t)))×List (Option Nat))
 | .mp o=>match H[o]? with
  | some (.mp kT t' n f)=>match Ty.eq? (.mp kT t') (.mp kt t) with
   | some h=>some ((n,(h.down▸(f:El (.mp kT t')):El (.mp kt t))),[some o])
   | none=>none
  | _=>none
 | _=>none
def Jp (H:List ai) (kt:Kt) (t:Ty) (e:TypeId):AV→Option ((Nat×(kt.K→Option (List (El t))))×List (Option Nat))
 | .mp p=>match H[p]? with
  | some (.mq q)=>match H[q]? with
   | some (.mr p' kT t' e' n f)=>match Ty.eq? (.mp kT (.list t')) (.mp kt (.list t)) with
    | some h=>if p'=p∧e'=e then some ((n,(h.down▸(f:El (.mp kT (.list t'))):El (.mp kt (.list t)))),[some p,some q]) else none
    | none=>none
   | _=>none
  | _=>none
 | _=>none
def YW (H:List ai):(s:CS)→AV→Option (CV s×List (Option Nat))
 | .d t,a=>(KR t a).map fun x=>(x,[])
 | .own t e,a=>VW H t e a
 | .any,a=>rdN a
 | .zc t tn e,a=>Jo H t tn e a
 | .zip t tn e zs,a=>xW H t tn e zs a
 | .mp kt t,a=>Jq H kt t a
 | .mr kt t e,a=>Jp H kt t e a
def xv (H:List ai):(l:List CS)→List AV→Option (fc l×List (Option Nat))
 | [],[]=>some ((),[])
 | s::l,a::r=>match YW H s a,xv H l r with
  | some x,some y=>some ((x.1,y.1),x.2++y.2)
  | _,_=>none
 | _,_=>none
def rdA (H:List ai) (s:CS):XV→Option (CV s×List (Option Nat))
 | .one a=>YW H s a
 | _=>none
def rdG (k:Nat):XV→Option (FY k×List (Option Nat))
 | .agg cs=>(un (.st k) cs).map fun x=>(x,[])
 | _=>none
def YX (H:List ai) (ty:TypeId) (cs:List CS):XV→Option (fc cs×List (Option Nat))
 | .one (.ptr o 0)=>match H[o]? with
  | some (.cells pk r)=>if pk=ty then(xv H cs r).map fun x=>(x.1,some o::x.2) else none
  | _=>none
 | _=>none
def VY (k:FuncId):XV→Option (Unit×List (Option Nat))
 | .one (.val (.func (.func j) a b))=>if j=k∧a.size=0∧b.size=0 then some ((),[]) else none
 | _=>none
def VV (k:Nat):XV→Option (FY k×List (Option Nat))
 | .one (.ref t x 0)=>match Ty.eq? t (.st k) with
  | some h=>some ((h.down▸x:El (.st k)),[])
  | none=>none
 | _=>none
def VZ (k:FuncId) (t:Ty):XV→Option (El t×List (Option Nat))
 | .one (.cl k' t' x)=>match Ty.eq? t' t with
  | some h=>if k'=k then some ((h.down▸x:El t),[]) else none
  | none=>none
 | _=>none
def VT:XV→Option (Unit×List (Option Nat))
 | .one (.sub _ _ 0)=>some ((),[])
 | _=>none
def QV (H:List ai):(s:SS)→XV→Option (SW s×List (Option Nat))
 | .c s,x=>rdA H s x
 | .st k,x=>rdG k x
 | .box ty cs,x=>YX H ty cs x
 | .fn k,x=>VY k x
 | .rf k,x=>VV k x
 | .cl k t,x=>VZ k t x
 | .sb _ _,x=>VT x
def Gy (H:List ai) (env:Env):(l:List (Nat×SS))→Option (ct l×List (Option Nat))
 | []=>some ((),[])
 | p::l=>match (env.lookup p.1).bind (QV H p.2),Gy H env l with
  | some x,some y=>some ((x.1,y.1),x.2++y.2)
  | _,_=>none
def Ct (pb:List Nat) (ids:List (Option Nat)):Bool:=(List.range ids.length).all (fun i=>(List.range i).all fun j=>match ids[i]?,ids[j]? with
 | some (some a),some (some b)=>a !=b
 | _,_=>true)&&pb.all fun i=>ids[i]?==some (some i)
def aaa (env:Env) (ids:List (Option Nat)) (l:List (Nat×SS)):Bool:=l.all fun p=>match p.2 with
 | .sb _ o2=>match env.lookup p.1 with
  | some (.one (.sub _ q _))=>ids[o2]?==some (some q)
  | _=>false
 | _=>true
def BN (H:List ai) (env:Env) (l:List (Nat×SS)):Option (ct l×List (Option Nat)):=if l.all (fun p=>!p.2.isSb) then Gy H env l else none
def oR (pb:List Nat) (l:List (Nat×SS)) (st:dX):Option (ct l):=(Gy st.heap st.env l).bind fun p=>if Ct pb p.2&&aaa st.env p.2 l then some p.1 else none
inductive Re (bs:List Value) (H:List ai):List (Option Nat)→List ai→List Value→Prop where
 | nil:Re bs H [] [] []
 | sm {o:Nat} {x y:ai} {v:Value} {ids:List (Option Nat)} {ys:List ai} {us:List Value}:H[o]?=some x→bs[o]?=some v→(∀c,Bk y v c→Bk x v c)→Re bs H ids ys us→Re bs H (some o::ids) (y::ys) (v::us)
 | nn {y:ai} {v:Value} {ids:List (Option Nat)} {ys:List ai} {us:List Value}:(∀c,¬Bk y v c)→Re bs H ids ys us→Re bs H (none::ids) (y::ys) (v::us)
section
variable {cx:Cx} {bs bm:List Value} {w:World} {S:Nat→Prop} {H:List ai} {m:Nat} {env:Env} {a:Act}
theorem Re.append {ids aa2:List (Option Nat)} {ys ZM:List ai} {us qh:List Value} (h:Re bs H ids ys us) (h':Re bs H aa2 ZM qh):Re bs H (ids++aa2) (ys++ZM) (us++qh):=by
 induction h with
 | nil=>exact h'
 | sm h1 h2 h3 _ ih=>exact .sm h1 h2 h3 ih
 | nn h1 _ ih=>exact .nn h1 ih
theorem Re.len {ids:List (Option Nat)} {ys:List ai} {us:List Value} (h:Re bs H ids ys us):ids.length=ys.length∧us.length=ys.length:=by
 induction h with
 | nil=>exact⟨rfl,rfl⟩
 | sm _ _ _ _ ih=>simp[ih.1,ih.2]
 | nn _ _ ih=>simp[ih.1,ih.2]
theorem Re.get {ids:List (Option Nat)} {ys:List ai} {us:List Value} (h:Re bs H ids ys us):∀(i:Nat) (y:ai) (v:Value),ys[i]?=some y→us[i]?=some v→(∃o x,ids[i]?=some (some o)∧H[o]?=some x∧bs[o]?=some v∧(∀c,Bk y v c→Bk x v c))∨(ids[i]?=some none∧∀c,¬Bk y v c):=by
 induction h with
 | nil=>intro i y v h;cases h
 | sm h1 h2 h3 _ ih=>
  intro i y v hy hv;cases i with
  | zero=>injection hy with hy;injection hv with hv;subst hy hv;exact .inl ⟨_,_,rfl,h1,h2,h3⟩
  | succ i=>exact ih i y v (by simpa using hy) (by simpa using hv)
 | nn h1 _ ih=>
  intro i y v hy hv;cases i with
  | zero=>injection hy with hy;injection hv with hv;subst hy hv;exact .inr ⟨rfl,h1⟩
  | succ i=>exact ih i y v (by simpa using hy) (by simpa using hv)
def Ed (bm us:List Value) (n:Nat):Prop:=∀(j:Nat) (u:Value),us[j]?=some u→bm[n+j]?=some u
theorem Ed.left {us qh:List Value} {n:Nat} (h:Ed bm (us++qh) n):Ed bm us n:=fun j u hj=>h j u (by rw[aaK (aab.1 hj).1];exact hj)
theorem Ed.right {us qh:List Value} {n:Nat} (h:Ed bm (us++qh) n):Ed bm qh (n+us.length):=fun j u hj=>by
 rw[act];exact h _ u (by rw[aag (by omega),abH];exact hj)
def jL (bm:List Value) (w:World) (S:Nat→Prop) (ys:List ai) (us:List Value):Prop:=∀(j:Nat) (y:ai) (u:Value),ys[j]?=some y→us[j]?=some u→OR bm w S y u
theorem jL.append {ys ZM:List ai} {us qh:List Value} (h:jL bm w S ys us) (h':jL bm w S ZM qh) (hl:us.length=ys.length):jL bm w S (ys++ZM) (us++qh):=fun j y u hy hu=>by
 by_cases hj:j<ys.length
 ·rw[aaK hj] at hy;rw[aaK (by omega)] at hu;exact h j y u hy hu
 ·rw[aag (by omega)] at hy;rw[aag (by omega),hl] at hu;exact h' _ y u hy hu
theorem V8 {t:Ty} {b:AV} {x:El t} {v:Value} (ht:t.one=true) (h:KR t b=some x) (hv:VR bs w S b v):VR bm w S (one t x) v:=uv ht (mn h hv)
theorem Qp {t:Ty} {b:AV} {x:El t} (h:KR t b=some x):t.one=true:=by
 cases t<;>first|rfl|cases h
theorem zD (hs:HS cx bs w S H) {s:ZS} {b:AV} {x:ZV s} {ids:List (Option Nat)} {v:Value} (h:rdZ H s b=some (x,ids)) (hv:VR bs w S b v) (n:Nat) : ∃us,Re bs H ids (Cb n s x).2 us∧∀bm,Ed bm us n→VR bm w S (Cb n s x).1 v∧jL bm w S (Cb n s x).2 us:=by
 cases s with
 | d t=>
  have h:(KR t b).map (fun x=>(x,([]:List (Option Nat))))=some (x,ids):=h;cases e:KR t b with
  | none=>rw[e] at h;cases h
  | some y=>
   rw[e] at h;injection h with h
   injection h with h1 h2
   subst h1 h2;exact⟨[],.nil,fun bm _=>⟨V8 (Qp e) e hv,fun j y u hy=>by cases hy⟩⟩
 | own t e=>
  replace h:VW H t e b=some (x,ids):=h;unfold VW at h;split at h
  ·rename_i o;split at h
   ·rename_i t' e' rs hH;split at h
    ·rename_i ee;subst ee;cases hu:lj t (.list t' rs false) with
     | none=>rw[hu] at h;cases h
     | some rs'=>
      rw[hu] at h;injection h with h
      injection h with h1 h2
      subst h1 h2;have:∃q:t'=t,rs'=q▸rs:=by
       unfold lj at hu;simp only at hu;split at hu
       ·rename_i q _;injection hu with hu
        exact⟨q.down,hu.symm⟩
       ·cases hu
      obtain⟨q,rfl⟩:=this;subst q;obtain⟨hb,fJ⟩:=hv;refine⟨[v],.sm hH hb (fun _ h=>h) .nil,fun bm lz=>⟨⟨lz 0 v rfl,fJ⟩,fun j y u hy hu=>?_⟩⟩;cases j with
      | zero=>injection hy with hy;injection hu with hu;subst hy hu;exact hs.o o _ _ hH hb
      | succ j=>cases hy
    ·cases h
   ·cases h
  ·injection h with h
   injection h with h1 h2
   subst h1 h2;obtain⟨rfl,_⟩:=hv;refine⟨[.slice none 0 0],.nn (fun _ h=>by cases h) .nil,fun bm lz=>⟨⟨lz 0 _ rfl,_,_,_,rfl⟩,fun j y u hy hu=>?_⟩⟩;cases j with
   | zero=>injection hy with hy;injection hu with hu;subst hy hu;exact Own.nil' w S (fun b q=>(hs.s b q).1) 0 e
   | succ j=>cases hy
  ·cases h
 | any=>
  have fin:∀{us:List Value},us=[v]→∀bm,Ed bm us n→VR bm w S (.any n) v∧jL bm w S [.dead] us:=by
   rintro us rfl bm lz;refine⟨⟨lz 0 v rfl,hv.one⟩,fun j y u hy hu=>?_⟩;cases j with
   | zero=>injection hy with hy;subst hy;exact trivial
   | succ j=>cases hy
  replace h:rdN b=some (x,ids):=h;unfold rdN at h;split at h
  ·rename_i o;injection h with h
   injection h with h1 h2
   subst h2;have ho:o<H.length:=by rw[←hs.len];exact(aab.1 hv.1).1
   exact⟨[v],.sm (aac ho) hv.1 (fun _ h=>by cases h) .nil,fin rfl⟩
  ·injection h with h
   injection h with h1 h2
   subst h2;exact⟨[v],.nn (fun _ h=>by cases h) .nil,fin rfl⟩
theorem Gu (hs:HS cx bs w S H):∀{l:List ZS} {qs:List AV} {x:AT l} {ids:List (Option Nat)} {vs:List Value},BM H l qs=some (x,ids)→F2 (VR bs w S) qs vs→∀n, ∃us,Re bs H ids (sr n l x).2 us∧∀bm,Ed bm us n→F2 (VR bm w S) (sr n l x).1 vs∧jL bm w S (sr n l x).2 us
 | [],[],x,ids,_,h,hv,n=>by cases hv;injection h with h;injection h with h1 h2;subst h1 h2;exact⟨[],.nil,fun _ _=>⟨.nil,fun j y u hy=>by cases hy⟩⟩
 | s::l,b::qs,x,ids,_,h,hv,n=>by
  cases hv with
  | cons h1 h2=>
   unfold BM at h;split at h
   ·rename_i p q hp hq;injection h with h
    injection h with e1 e2
    subst e1 e2;obtain⟨ZU,r1,k1⟩:=zD hs (x:=p.1) (ids:=p.2) hp h1 n;obtain⟨ZT,r2,k2⟩:=Gu hs (x:=q.1) (ids:=q.2) hq h2 (n+(Cb n s p.1).2.length);refine⟨ZU++ZT,r1.append r2,fun bm lz=>?_⟩;obtain⟨v1,o1⟩:=k1 bm lz.left;obtain⟨v2,o2⟩:=k2 bm (by have:=lz.right;rw[r1.len.2] at this;exact this);exact⟨.cons v1 v2,o1.append o2 r1.len.2⟩
   ·cases h
 | [],_::_,_,_,_,h,_,_=>by cases h
 | _::_,[],_,_,_,h,_,_=>by cases h
theorem Mp (hs:HS cx bs w S H) {s:CS} {b:AV} {x:CV s} {ids:List (Option Nat)} {v:Value} (h:YW H s b=some (x,ids)) (hv:VR bs w S b v) (n:Nat) : ∃us,Re bs H ids (ue n s x).2 us∧∀bm,Ed bm us n→VR bm w S (ue n s x).1 v∧jL bm w S (ue n s x).2 us:=by
 cases s with
 | d t=>exact zD hs (s:=.d t) h hv n
 | own t e=>exact zD hs (s:=.own t e) h hv n
 | any=>exact zD hs (s:=.any) h hv n
 | zc t tn e=>
  replace h:Jo H t tn e b=some (x,ids):=h;unfold Jo at h;split at h
  ·rename_i o;split at h
   ·rename_i e' t' LC hJ done rest hH;split at h
    ·rename_i q q' _ _;obtain⟨q⟩:=q;obtain⟨q'⟩:=q';subst q q';split at h
     ·rename_i ee;subst ee;injection h with h
      injection h with h1 h2
      subst h1 h2;obtain⟨hb,fJ⟩:=hv;refine⟨[v],.sm hH hb (fun _ h=>h) .nil,fun bm lz=>⟨⟨lz 0 v rfl,fJ⟩,fun j y u hy hu=>?_⟩⟩;cases j with
      | zero=>injection hy with hy;injection hu with hu;subst hy hu;exact hs.o o _ _ hH hb
      | succ j=>cases hy
     ·cases h
    ·cases h
   ·cases h
  ·cases h
 | zip t tn e zs=>
  replace h:xW H t tn e zs b=some (x,ids):=h;unfold xW at h;split at h
  ·rename_i o;split at h
   ·rename_i o2 e' t' LC hJ done cur rest hH;split at h
    ·rename_i q q' p _ _ hp;obtain⟨q⟩:=q;obtain⟨q'⟩:=q';subst q q';split at h
     ·rename_i ee;subst ee;injection h with h
      injection h with h1 h2
      subst h1 h2;obtain⟨hb,fJ⟩:=hv;obtain⟨bN,ho,hz,hl,u,sH,rF,hu3⟩:=hs.o o _ _ hH hb;have hr:bN[done.length]?=some (bN[done.length]'(by rw[hz.1];exact hl)):=aac _;have hf:=(hz.2 _ _ hr).2.1 rfl;obtain⟨us,r1,k1⟩:=Gu hs (x:=p.1) (ids:=p.2) hp hf (n+2);have nh:o2<H.length:=by rw[←hs.len];exact(aab.1 sH).1
      refine⟨v::u::us,.sm hH hb (fun _ h=>h) (.sm (aac nh) sH (fun _ h=>by cases h) r1),fun bm lz=>?_⟩;have sR:Ed bm us (n+2):=fun j u' hj=>by
       have:=lz (j+2) u' (by simpa using hj)
       rwa [show n+(j+2)=n+2+j by omega] at this
      obtain⟨v1,o1⟩:=k1 bm sR;refine⟨⟨lz 0 v rfl,fJ⟩,fun j y u' hy Cw=>?_⟩;cases j with
      | zero=>
       injection hy with hy;injection Cw with Cw;subst hy Cw
       refine⟨bN,ho,⟨hz.1,fun j r hj=>?_⟩,hl,u,lz 1 u rfl,rF,hu3⟩;obtain⟨z1,z2,z3⟩:=hz.2 j r hj;refine⟨z1,fun e=>?_,z3⟩;subst e;rw[hr] at hj;obtain rfl:=aae hj;exact v1
      | succ j=>
       cases j with
       | zero=>injection hy with hy;subst hy;exact trivial
       | succ j=>exact o1 j y u' (acR.symm.trans (acR.symm.trans hy)) (acR.symm.trans (acR.symm.trans Cw))
     ·cases h
    ·cases h
   ·cases h
  ·cases h
 | mp kt t=>
  replace h:Jq H kt t b=some (x,ids):=h;unfold Jq at h;split at h
  ·rename_i o;split at h
   ·rename_i kT t' m f hH;split at h
    ·rename_i q _;obtain⟨q⟩:=q;injection q with q1 q2
     subst q1 q2;injection h with h
     injection h with h1 h2
     subst h1 h2;obtain⟨hb,hm⟩:=hv;refine⟨[v],.sm hH hb (fun _ h=>h) .nil,fun bm lz=>⟨⟨lz 0 v rfl,hm⟩,fun j y u hy hu=>?_⟩⟩;cases j with
     | zero=>injection hy with hy;injection hu with hu;subst hy hu;exact hs.o o _ _ hH hb
     | succ j=>cases hy
    ·cases h
   ·cases h
  ·cases h
 | mr kt t e=>
  replace h:Jp H kt t e b=some (x,ids):=h;unfold Jp at h;split at h
  ·rename_i p;split at h
   ·rename_i q hP;split at h
    ·rename_i p' kT t' e' m f hQ;split at h
     ·rename_i q' _;obtain⟨q'⟩:=q';injection q' with q1 q2
      injection q2 with q2
      subst q1 q2;split at h
      ·rename_i ee;obtain⟨rfl,rfl⟩:=ee;injection h with h
       injection h with h1 h2
       subst h1 h2;obtain⟨hb,b0,rfl⟩:=hv;have Ho:q<bs.length:=by rw[hs.len];exact(aab.1 hQ).1
       have J4:=aac Ho;refine⟨[.map (some b0),bs[q]],.sm hP hb (fun _ h=>h) (.sm hQ J4 (fun _ h=>h) .nil),fun bm lz=>⟨⟨lz 0 _ rfl,_,rfl⟩,fun j y u hy hu=>?_⟩⟩;cases j with
       | zero=>injection hy with hy;injection hu with hu;subst hy hu;exact⟨_,rfl⟩
       | succ j=>
        cases j with
        | zero=>
         injection hy with hy;injection hu with hu;subst hy hu
         obtain⟨b,l,g,e1,h1,hr⟩:=hs.o q _ _ hQ J4;rw[hb] at h1;injection h1 with h1
         injection h1 with h1
         injection h1 with h1
         subst h1;exact⟨_,l,g,e1,lz 0 _ rfl,hr⟩
        | succ j=>cases hy
      ·cases h
     ·cases h
    ·cases h
   ·cases h
  ·cases h
theorem Gz (hs:HS cx bs w S H):∀{l:List CS} {qs:List AV} {x:fc l} {ids:List (Option Nat)} {vs:List Value},xv H l qs=some (x,ids)→F2 (VR bs w S) qs vs→∀n, ∃us,Re bs H ids (sw n l x).2 us∧∀bm,Ed bm us n→F2 (VR bm w S) (sw n l x).1 vs∧jL bm w S (sw n l x).2 us
 | [],[],x,ids,_,h,hv,n=>by cases hv;injection h with h;injection h with h1 h2;subst h1 h2;exact⟨[],.nil,fun _ _=>⟨.nil,fun j y u hy=>by cases hy⟩⟩
 | s::l,b::qs,x,ids,_,h,hv,n=>by
  cases hv with
  | cons h1 h2=>
   unfold xv at h;split at h
   ·rename_i p q hp hq;injection h with h
    injection h with e1 e2
    subst e1 e2;obtain⟨ZU,r1,k1⟩:=Mp hs (x:=p.1) (ids:=p.2) hp h1 n;obtain⟨ZT,r2,k2⟩:=Gz hs (x:=q.1) (ids:=q.2) hq h2 (n+(ue n s p.1).2.length);refine⟨ZU++ZT,r1.append r2,fun bm lz=>?_⟩;obtain⟨v1,o1⟩:=k1 bm lz.left;obtain⟨v2,o2⟩:=k2 bm (by have:=lz.right;rw[r1.len.2] at this;exact this);exact⟨.cons v1 v2,o1.append o2 r1.len.2⟩
   ·cases h
 | [],_::_,_,_,_,h,_,_=>by cases h
 | _::_,[],_,_,_,h,_,_=>by cases h
theorem QU (hs:HS cx bs w S H) {s:SS} {b:XV} {x:SW s} {ids:List (Option Nat)} {v:Value} (h:QV H s b=some (x,ids)) (hv:XR bs w S b v) (Zc:s.isSb=false) (n:Nat) : ∃us,Re bs H ids (xj n s x).2 us∧∀bm,Ed bm us n→XR bm w S (xj n s x).1 v∧jL bm w S (xj n s x).2 us:=by
 cases s with
 | c s=>
  replace h:rdA H s b=some (x,ids):=h;cases b with
  | one c=>exact Mp hs (s:=s) (x:=x) h hv n
  | _=>cases h
 | st k=>
  replace h:rdG k b=some (x,ids):=h;cases b with
  | agg cs=>
   replace h:(un (.st k) cs).map (fun x=>(x,([]:List (Option Nat))))=some (x,ids):=h;cases e:un (.st k) cs with
   | none=>rw[e] at h;cases h
   | some y=>
    rw[e] at h;injection h with h
    injection h with h1 h2
    subst h1 h2;obtain⟨vs,rfl,hf⟩:=hv;exact⟨[],.nil,fun bm _=>⟨⟨vs,rfl,j2 (lh e hf)⟩,fun j y u hy=>by cases hy⟩⟩
  | _=>cases h
 | box ty cs=>
  replace h:YX H ty cs b=some (x,ids):=h;unfold YX at h;split at h
  ·rename_i o;split at h
   ·rename_i pk qs hH;split at h
    ·rename_i ee;subst ee;cases hu:xv H cs qs with
     | none=>rw[hu] at h;cases h
     | some p=>
      rw[hu] at h;injection h with h
      injection h with h1 h2
      subst h1 h2;obtain⟨g,hb,rfl⟩:=hv;obtain⟨g',vs,e2,hk,hf⟩:=hs.o o _ _ hH hb;obtain⟨us,r1,k1⟩:=Gz hs (x:=p.1) (ids:=p.2) hu hf (n+1);refine⟨.pointer (some ⟨g,0,none⟩)::us,.sm hH hb (fun _ h=>h) r1,fun bm lz=>?_⟩;have sR:Ed bm us (n+1):=fun j u hj=>by
       have:=lz (j+1) u (by simpa using hj)
       rwa [show n+(j+1)=n+1+j by omega] at this
      obtain⟨v1,o1⟩:=k1 bm sR;refine⟨⟨g,lz 0 _ rfl,rfl⟩,fun j y u hy hu=>?_⟩;cases j with
      | zero=>injection hy with hy;injection hu with hu;subst hy hu;exact⟨g',vs,e2,hk,v1⟩
      | succ j=>exact o1 j y u (acR.symm.trans hy) (acR.symm.trans hu)
    ·cases h
   ·cases h
  ·cases h
 | fn k=>
  replace h:VY k b=some (x,ids):=h;unfold VY at h;split at h
  ·rename_i j a b';split at h
   ·rename_i e;obtain⟨rfl,ea,eb⟩:=e;injection h with h
    injection h with h1 h2
    subst h2;obtain rfl:=aco ea;obtain rfl:=aco eb;exact⟨[],.nil,fun bm _=>⟨hv,fun j y u hy=>by cases hy⟩⟩
   ·cases h
  ·cases h
 | sb o o2=>cases Zc
 | cl k t=>
  replace h:VZ k t b=some (x,ids):=h;unfold VZ at h;split at h
  ·split at h
   ·rename_i q _;obtain⟨q⟩:=q;subst q;split at h
    ·rename_i e;subst e;injection h with h
     injection h with h1 h2
     subst h1 h2;exact⟨[],.nil,fun bm _=>⟨hv,fun j y u hy=>by cases hy⟩⟩
    ·cases h
   ·cases h
  ·cases h
 | rf k=>
  replace h:VV k b=some (x,ids):=h;unfold VV at h;split at h
  ·split at h
   ·rename_i q _;obtain⟨q⟩:=q;subst q;injection h with h
    injection h with h1 h2
    subst h1 h2;exact⟨[],.nil,fun bm _=>⟨hv,fun j y u hy=>by cases hy⟩⟩
   ·cases h
  ·cases h
theorem VU (hs:HS cx bs w S H) {s:SS} {b:XV} {x:SW s} {ids:List (Option Nat)} {v:Value} (h:QV H s b=some (x,ids)) (hv:XR bs w S b v) (n:Nat) : ∃us,Re bs H ids (xj n s x).2 us∧∀bm,Ed bm us n→(∀o o2 o' q,s=.sb o o2→b=.one (.sub o' q 0)→bm[o2]?=bs[q]?)→XR bm w S (xj n s x).1 v∧jL bm w S (xj n s x).2 us:=by
 cases hb:s.isSb with
 | false=>obtain⟨us,r,k⟩:=QU hs h hv hb n;exact⟨us,r,fun bm lz _=>k bm lz⟩
 | true=>
  cases s with
  | sb o o2=>
   replace h:VT b=some (x,ids):=h;unfold VT at h;split at h
   ·rename_i o' q;injection h with h
    injection h with h1 h2
    subst h2;obtain⟨g,p,q1,q2⟩:=hv;exact⟨[],.nil,fun bm _ P6=>⟨⟨g,p,(P6 o o2 o' q rfl rfl).trans q1,q2⟩,fun j y u hy=>by cases hy⟩⟩
   ·cases h
  | _=>cases hb
def acO (bs bm:List Value) (env:Env) (l:List (Nat×SS)):Prop:=∀t o o2 o' q,(t,SS.sb o o2)∈l→env.lookup t=some (.one (.sub o' q 0))→bm[o2]?=bs[q]?
theorem Gw {l:List (Nat×SS)} {r:ct l×List (Option Nat)} (h:BN H env l=some r):Gy H env l=some r∧∀bs bm,acO bs bm env l:=by
 unfold BN at h;split at h
 ·rename_i hl;refine⟨h,fun bs bm t o o2 o' q hm=>?_⟩;have:=abq.1 hl _ hm;cases this
 ·cases h
theorem zE (hs:HS cx bs w S H) (he:ER m bs w S env a):∀{l:List (Nat×SS)} {x:ct l} {ids:List (Option Nat)},Gy H env l=some (x,ids)→∀n, ∃us,Re bs H ids (su n l x).2 us∧∀bm,Ed bm us n→acO bs bm env l→(∀t y,(t,y)∈(su n l x).1→∃v,a.tmps[t]?=some v∧XR bm w S y v)∧jL bm w S (su n l x).2 us
 | [],x,ids,h,n=>by injection h with h;injection h with h1 h2;subst h1 h2;exact⟨[],.nil,fun _ _ _=>⟨(fun _ _ h=>by cases h),fun j y u hy=>by cases hy⟩⟩
 | p::l,x,ids,h,n=>by
  unfold Gy at h;split at h
  ·rename_i q r hq hr;injection h with h
   injection h with e1 e2
   subst e1 e2;cases e:env.lookup p.1 with
   | none=>rw[e] at hq;cases hq
   | some y=>
    rw[e] at hq;obtain⟨v,hv,hx⟩:=he.k _ _ (kQ e);obtain⟨ZU,r1,k1⟩:=VU hs (x:=q.1) (ids:=q.2) hq hx n;obtain⟨ZT,r2,k2⟩:=zE hs he (x:=r.1) (ids:=r.2) hr (n+(xj n p.2 q.1).2.length);refine⟨ZU++ZT,r1.append r2,fun bm lz P6=>?_⟩;obtain⟨v1,o1⟩:=k1 bm lz.left fun o o2 o' q e1 e2=>P6 p.1 o o2 o' q (by rw[←e1];exact aaS) (by rw[e,e2]);obtain⟨v2,o2⟩:=k2 bm (by have:=lz.right;rw[r1.len.2] at this;exact this) fun t o o2 o' q hm=>P6 t o o2 o' q (aa9 _ hm);refine⟨fun t y hy=>?_,o1.append o2 r1.len.2⟩;rcases aba.1 hy with e3|hy
    ·injection e3 with e3 e4
     subst e3 e4;exact⟨v,hv,v1⟩
    ·exact v2 t y hy
  ·cases h
theorem AP {x y:ai} {v:Value} {b:Nat} (h:∀c,Bk y v c→Bk x v c) (hb:Bk y v b):Bk x v b:=h b hb
theorem nJ {st:dX} {l:List (Nat×SS)} {x:ct l} (h:oR cx.pb l st=some x) (hs:HS cx bs w S st.heap) (he:ER m bs w S st.env a):∃us,HS cx us w S (di l x).heap∧ER m us w S (di l x).env a:=by
 unfold oR at h;cases e:Gy st.heap st.env l with
 | none=>rw[e] at h;cases h
 | some p=>
  rw[e] at h;have h:(if Ct cx.pb p.2&&aaa st.env p.2 l then some p.1 else none)=some x:=h;split at h
  ·rename_i hid;rw[aaO] at hid;obtain⟨hid,agA⟩:=hid;injection h with h
   subst h;obtain⟨us,r,k⟩:=zE hs he (x:=p.1) (ids:=p.2) e 0;have bM:=r.len;obtain⟨k1,k2⟩:=k us (fun j u hj=>by rw[ace];exact hj) fun t o o2 o' q hm hl=>by
    have:=abq.1 agA _ hm;simp only[hl,beq_iff_eq] at this;have hi:o2<(su 0 l p.1).2.length:=by rw[←bM.1];exact(aab.1 this).1
    have hu:o2<us.length:=by rw[bM.2];exact hi
    rcases r.get o2 _ _ (aac hi) (aac hu) with⟨o3,x1,q1,q2,q3,q4⟩|⟨q1,_⟩
    ·rw[this] at q1;injection q1 with q1
     injection q1 with q1
     subst q1;rw[q3,aac hu]
    ·rw[this] at q1;cases q1
   unfold Ct at hid;rw[aaO] at hid;obtain⟨abK,aha⟩:=hid;refine⟨us,⟨bM.2,fun i y v hy hv=>k2 i y v hy hv,?_,?_,hs.s,hs.s0,hs.os,hs.tape,hs.output,hs.size,hs.old,?_⟩,he.d,he.s,k1⟩
   ·intro i j y z u v b xk hy hu hz hv cI bZ;rcases r.get i y u hy hu with⟨o,x1,q1,q2,q3,q4⟩|⟨_,q⟩
    ·rcases r.get j z v hz hv with⟨o',x2,q5,q6,q7,q8⟩|⟨_,q⟩
     ·refine hs.ap o o' x1 x2 u v b (fun eo=>?_) q2 q3 q6 q7 (AP q4 cI) (AP q8 bZ);subst eo;have hi:i<p.2.length:=(aab.1 q1).1;have hj:j<p.2.length:=(aab.1 q5).1;rcases Nat.lt_or_gt_of_ne xk with hlt|hlt
      ·have:=abq.1 (abq.1 abK j (abM.2 hj)) i (abM.2 hlt);rw[q1,q5] at this;simp at this
      ·have:=abq.1 (abq.1 abK i (abM.2 hi)) j (abM.2 hlt);rw[q1,q5] at this;simp at this
     ·exact absurd bZ (q b)
    ·exact absurd cI (q b)
   ·intro i y u b hy hu hb;rcases r.get i y u hy hu with⟨o,x1,q1,q2,q3,q4⟩|⟨_,q⟩
    ·exact hs.nw o x1 u b q2 q3 (AP q4 hb)
    ·exact absurd hb (q b)
   ·intro i g hip hg hg2;have hp:=abq.1 aha i hip;have hp:p.2[i]?=some (some i):=by simpa using hp
    have hi:i<(su 0 l p.1).2.length:=by rw[←bM.1];exact(aab.1 hp).1
    have hu:i<us.length:=by rw[bM.2];exact hi
    rcases r.get i _ _ (aac hi) (aac hu) with⟨o,x1,q1,q2,q3,q4⟩|⟨q,_⟩
    ·rw[hp] at q1;injection q1 with q1
     injection q1 with q1
     subst q1;have:=hs.an i g hip hg hg2;rw[q3] at this;rw[aac hu];exact this
    ·rw[hp] at q;cases q
  ·cases h
theorem uq {st:dX} {l:List (Nat×SS)} {x:ct l} (h:oR cx.pb l st=some x) (cj:fx m cx st a w):fx m cx (di l x) a w:=by
 obtain⟨bs,S,hs,he⟩:=cj;obtain⟨us,q1,q2⟩:=nJ h hs he;exact⟨us,S,q1,q2⟩
def BdT:(t:Ty)→El t→Prop
 | .list _,xs=>xs.length≤9223372036854775807
 | _,_=>True
def BdC:(s:CS)→CV s→Prop
 | .d t,x=>BdT t x
 | .own _ _,rs=>rs.length≤9223372036854775807
 | .any,_=>True
 | .zc _ _ _,_=>True
 | .zip _ _ _ _,_=>True
 | .mp _ _,_=>True
 | .mr _ _ _,_=>True
def BdF:(ts:List Ty)→IB ts→Prop
 | [],_=>True
 | t::ts,x=>BdT t x.1∧BdF ts x.2
def YR:(l:List CS)→fc l→Prop
 | [],_=>True
 | s::l,x=>BdC s x.1∧YR l x.2
def BdS:(s:SS)→SW s→Prop
 | .c s,x=>BdC s x
 | .st k,x=>BdF (tM k) (Bt k x)
 | .box _ cs,x=>YR cs x
 | .fn _,_=>True
 | .rf _,_=>True
 | .cl _ _,_=>True
 | .sb _ _,_=>True
def La:(l:List (Nat×SS))→ct l→Prop
 | [],_=>True
 | p::l,x=>BdS p.2 x.1∧La l x.2
theorem Mg {α:Type} (x:List α):x.length≤x.reverse.length:=by simp
theorem Pq {us:List Value} {t:Ty} {x:El t} {v:Value} (hx:VR us w S (one t x) v):BdT t x:=by
 cases t with
 | list t=>
  obtain⟨A,q,c,_,hr,_⟩:=hx;show List.length (α:=El t) x≤_;rw[hr.len];exact hr.max
 | _=>exact trivial
theorem Pt {us:List Value} {n:Nat} {s:CS} {x:CV s} {v:Value} (hx:VR us w S (ue n s x).1 v) (ho:∀(j:Nat) (y:ai) (u:Value),(ue n s x).2[j]?=some y→us[n+j]?=some u→OR us w S y u):BdC s x:=by
 cases s with
 | d t=>exact Pq hx
 | own t e=>
  obtain⟨hb,A,q,c,e1⟩:=hx;have h1:Own (α:=El t) w S 0 e v (List.reverse (α:=El t) x):=ho 0 _ v rfl (by rw[adA];exact hb);obtain⟨cs,⟨_,h2⟩,_⟩:=h1;show List.length (α:=El t) x≤_;rcases h2 with⟨_,h2⟩|⟨g,cap,cur,_,_,_,h3,h4,_⟩
  ·exact aa7 (Mg (α:=El t) x) (aa7 (Nat.le_of_eq h2) (by decide))
  ·unfold maxLen at h4;exact aa7 (Mg (α:=El t) x) (aa7 h3 h4)
 | any=>exact trivial
 | zc t tn e=>exact trivial
 | zip t tn e zs=>exact trivial
 | mp kt t=>exact trivial
 | mr kt t e=>exact trivial
theorem Ps {us:List Value}:∀{ts:List Ty} {x:IB ts} {vs:List Value},F2 (VR us w S) (H9 ts x) vs→BdF ts x
 | [],_,_,_=>trivial
 | t::ts,x,vs,h=>by
  cases h with
  | cons h1 h2=>exact⟨Pq h1,Ps h2⟩
theorem Ir {us:List Value}:∀{l:List CS} {x:fc l} {n:Nat} {vs:List Value},F2 (VR us w S) (sw n l x).1 vs→(∀(j:Nat) (y:ai) (u:Value),(sw n l x).2[j]?=some y→us[n+j]?=some u→OR us w S y u)→YR l x
 | [],_,_,_,_,_=>trivial
 | s::l,x,n,vs,h,ho=>by
  cases h with
  | cons h1 h2=>
   refine⟨Pt h1 fun j y u hy hu=>ho j y u (by
    show((ue n s x.1).2++_)[j]?=_;rw[aaK (aab.1 hy).1];exact hy) hu,Ir (n:=n+(ue n s x.1).2.length) h2 fun j y u hy hu=>ho ((ue n s x.1).2.length+j) y u ?_ (by rw[←act];exact hu)⟩
   show((ue n s x.1).2++_)[_]?=_;rw[aag (by omega),abH];exact hy
theorem Yu {us:List Value} {n:Nat} {s:SS} {x:SW s} {v:Value} (hx:XR us w S (xj n s x).1 v) (ho:∀(j:Nat) (y:ai) (u:Value),(xj n s x).2[j]?=some y→us[n+j]?=some u→OR us w S y u):BdS s x:=by
 cases s with
 | c s=>exact Pt hx ho
 | st k=>obtain⟨vs,_,h⟩:=hx;exact Ps h
 | box ty cs=>
  obtain⟨g,h1,_⟩:=hx;obtain⟨_,vs,_,_,h2⟩:=ho 0 _ _ rfl (by rw[adA];exact h1);exact Ir (n:=n+1) h2 fun j y u hy hu=>ho (j+1) y u hy (by rw[show n+(j+1)=n+1+j by omega];exact hu)
 | fn k=>exact trivial
 | rf k=>exact trivial
 | cl k t=>exact trivial
 | sb o o2=>exact trivial
theorem Pr {us:List Value}:∀{l:List (Nat×SS)} {x:ct l} {n:Nat},(∀t y,(t,y)∈(su n l x).1→∃v,XR us w S y v)→(∀(j:Nat) (y:ai) (u:Value),(su n l x).2[j]?=some y→us[n+j]?=some u→OR us w S y u)→La l x
 | [],_,_,_,_=>trivial
 | p::l,x,n,h1,h2=>by
  obtain⟨v,hv⟩:=h1 _ _ aaS;refine⟨Yu (n:=n) hv fun j y u hy hu=>h2 j y u (by
   show((xj n p.2 x.1).2++_)[j]?=_;rw[aaK (aab.1 hy).1];exact hy) hu,Pr (n:=n+(xj n p.2 x.1).2.length) (fun t y hy=>h1 t y (aa9 _ hy)) fun j y u hy hu=>?_⟩
  refine h2 ((xj n p.2 x.1).2.length+j) y u ?_ (by rw[←act];exact hu);show((xj n p.2 x.1).2++_)[_]?=_;rw[aag (by omega),abH];exact hy
theorem Pp {l:List (Nat×SS)} {x:ct l} (h:fx m cx (di l x) a w):La l x:=by
 obtain⟨us,S,hs,he⟩:=h;exact Pr (n:=0) (fun t y hy=>let ⟨v,_,hx⟩:=he.k t y hy;⟨v,hx⟩) fun j y u hy hu=>hs.o j y u hy (by rwa [ace] at hu)
end
end Go.Proofs.YtjlhbfbdcfajfaaGreatDoor
