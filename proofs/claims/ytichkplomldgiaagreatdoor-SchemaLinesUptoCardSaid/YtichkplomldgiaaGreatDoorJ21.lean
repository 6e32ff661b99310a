/- MRun1 MRun2 MSpec -/
import Derived.Test.YtichkplomldgiaaGreatDoorJ20
import Derived.Deep.LoopGhost
set_option maxHeartbeats 4000000
set_option maxRecDepth 100000
namespace Go.Proofs.YtichkplomldgiaaGreatDoor
open Go Go.RowKit
structure Yj (P:Program) where
 ty:TypeId->Option Ty
 D:List (Sm P)
 isP:Om P
def qh (m:Nat) (o:Oper):Bool:=match o.dst with
 | some t=>decide (t<m)
 | none=>true
def ow (Hv Hf:List aa):Prop:=Hv.length=Hf.length/\∀(i:Nat) (x:aa),Hv[i]?=some x->x=.dead\/Hf[i]?=some x
structure dN (P:Program) extends Yj P where
 eff:Oper->Bool
 x:Nat->Oper->bT->T bT
 xok:∀(m:Nat) (o:Oper) (cx:Cx) (st bG:bT) (a:Act) (w:World) (K:Act->World->Prop) (Q:Exit->Act->World->Prop),eff o=true->qh m o=true->(x m o st).hit bG->cP m cx st a w->(∀a' w',cP m cx bG a' w'->K a' w')->o.wp P a w K Q
 d:Oper->Env->List aa->T (XV×List (Nat×aa))
 dok:∀(m:Nat) (o:Oper) (cx:Cx) (bs:List Value) (S:Nat->Prop) (env:Env) (Hv Hf:List aa) (a:Act) (w:World) (r:XV×List (Nat×aa)) (K:Act->World->Prop) (Q:Exit->Act->World->Prop),eff o=true->ow Hv Hf->HS cx bs w S Hf->ER m bs w S env a->(d o env Hv).hit r->(∀v w' S',HS cx bs w' S' (er r.2 Hf)->(∀b,S b->S' b)->af S w w'->XR bs w' S' r.1 v->K (a.put o.dst v) w')->o.wp P a w K Q
def Jr (H:List aa):Option aa->List aa
 | none=>H
 | some x=>H++[x]
def oO (o:Oper) (st:bT):bT:=match o.op with
 | .buildSlice _ _ ps=>match gg st.env ps.toList with
  | some l=>(nf l).foldl (λst i=>IM i st) st
  | none=>st
 | _=>st
def TI {P:Program} (C:dN P) (m:Nat) (o:Oper) (st:bT):T bT:=if qh m o then if C.eff o then C.x m o st else(match o.op with
 | .store t x y=>match o.dst with
  | none=>(T.op (KG P st.heap t (ev st.env x) (ev st.env y))).bind λH=>.lf ⟨st.env,H⟩
  | some _=>.bad
 | .call { callee:=.builtin .append,args:=args,argTypes:=ts }=>match args.toList,ts.toList with
  | [s,x],[t,t']=>if t=t' then(Ru P C.ty st.heap t (ev st.env s) (ev st.env x)).bind λr=>.lf ⟨ko st.env o.dst (some r.1),r.2⟩ else .bad
  | _,_=>.bad
 | .mapUpdate t x k v=>match o.dst with
  | none=>(Lu P C.ty st.heap.length (st.heap++[.dead]) t (ev st.env x) (ev st.env k) (ev st.env v)).bind λr=>.lf ⟨st.env,er (r.1++[(st.heap.length,r.2.getD .dead)]) (st.heap++[.dead])⟩
  | some _=>.bad
 | _=>(λ(st:bT)=>(Kf C.ty C.D st.heap.length st.env st.heap o).bind λr=>.lf ⟨ko st.env o.dst (some r.1),Jr st.heap r.2⟩) (oO o st)) else .bad
def o7 (st:bT) (o:Oper):bT:=⟨ko st.env o.dst (some (.tup [])),st.heap⟩
def vW (st:bT) (t:Nat) (b:Bool):bT:=⟨ko st.env (some t) (some (.one (.val (.bool b)))),st.heap⟩
def Wy (m:Nat) (ops:Array Oper) (o:Oper) (f:bT->T bT) (st:bT):T bT:=match o.guard with
 | none=>f st
 | some (j,want)=>if qh m o then(match bJ ops j with
  | some t=>match st.env.lookup t with
   | some (.one (.val (.bool b)))=>if b==want then f st else .lf (o7 st o)
   | some (.one (.sym (.bool b)))=>.br b (if want then f (vW st t true) else .lf (o7 (vW st t true) o)) (if want then .lf (o7 (vW st t false) o) else f (vW st t false))
   | some (.tup [])=>.lf (o7 st o)
   | _=>.bad
  | none=>.bad) else .bad
def vA {P:Program} (C:dN P) (m:Nat) (ops:Array Oper):List Oper->bT->T bT
 | [],st=>.lf st
 | o::l,st=>(Wy m ops o (TI C m o) st).bind (vA C m ops l)
section
variable {P:Program} {o:Oper} {cx:Cx} {bs aD:List Value} {w w':World} {S:Nat->Prop} {H:List aa} {m:Nat} {env:Env} {a:Act} {bg:Nat} {K:Act->World->Prop} {Q:Exit->Act->World->Prop} {ops:Array Oper} {C:dN P} {st bG:bT}
theorem IG (hs:HS cx bs w S st.heap) (he:ER m bs w S st.env a) (hd:qh m o=true) {r:XV×Option aa} (h:eA P o bs w S a st.heap.length r) (hK:∀a' w',cP m cx ⟨ko st.env o.dst (some r.1),Jr st.heap r.2⟩ a' w'->K a' w'):o.wp P a w K Q:=by
 refine h K Q λv w' S' u hb hS hn hx hf=>hK _ _ ?_;have dl:=hs.grow hb hS hn;have pU:=he.grow hs hb hS;cases hr:r.2 with
 | none=>
  obtain⟨Il,_⟩:=hx bs (eI.refl _) (by rw[hr];intro h;cases h);exact⟨bs,S',dl,pU.put o.dst (some r.1) v hd λy hy=>by obtain rfl:=Option.some.inj hy;exact Il⟩
 | some x=>
  obtain⟨Il,wj⟩:=hx (bs++[u]) (i7 _ _) (by rw[hr];intro _;rw[<-hs.len,List.getElem?_append_right (Nat.le_refl _)];simp);have im:=hf x hr;have hj:(st.heap++[aa.dead])[st.heap.length]?=some .dead:=by rw[List.getElem?_append_right (Nat.le_refl _)];simp
  have nK:(bs++[undef])[st.heap.length]?=some undef:=by rw[<-hs.len,List.getElem?_append_right (Nat.le_refl _)];simp
  have rT:(st.heap++[aa.dead]).set st.heap.length x=st.heap++[x]:=by rw[List.set_append_right _ _ (Nat.le_refl _)];simp
  have pR:(bs++[undef]).set st.heap.length u=bs++[u]:=by rw[<-hs.len,List.set_append_right _ _ (Nat.le_refl _)];simp
  have fc:=dl.pad.fill (x:=x) (v:=u) hj nK rfl (by rw[pR];exact wj x hr) (λb dF=>⟨.inl (Nat.le_trans hs.size (im b dF).1),(im b dF).2,λi z q hz hq e=>by
   by_cases hi:i<st.heap.length
   ·rw[List.getElem?_append_left hi] at hz;rw[List.getElem?_append_left (by rw[hs.len];exact hi)] at hq;have:=(hs.o i z q hz hq).lt e;have:=(im b dF).1;omega
   ·have h1:=(List.getElem?_eq_some_iff.1 hz).1;have e2:i=st.heap.length:=by simp at h1;omega
    subst e2;rw[hj] at hz;obtain rfl:=Option.some.inj hz;cases e⟩)
  rw[rT,pR] at fc;exact⟨bs++[u],S',fc,(pU.keep (λ_ h=>h) (af.refl _ _) (i7 _ _)).put o.dst (some r.1) v hd λy hy=>by obtain rfl:=Option.some.inj hy;exact Il⟩
theorem yG:∀(l:List Nat) {st:bT},cP m cx st a w->cP m cx (l.foldl (λst i=>IM i st) st) a w
 | [],_,h=>h
 | i::l,_,h=>yG l (nW (i:=i) h)
theorem GR (h:cP m cx st a w):cP m cx (oO o st) a w:=by
 unfold oO;split
 ·split
  ·exact yG _ h
  ·exact h
 ·exact h
theorem Cu (h:(TI C m o st).hit bG) (aY:cP m cx st a w) (hK:∀a' w',cP m cx bG a' w'->K a' w'):o.wp P a w K Q:=by
 unfold TI at h;split at h
 ·rename_i hd;split at h
  ·rename_i Eh;exact C.xok m o cx st bG a w K Q Eh hd h aY hK
  obtain⟨bs,S,hs,he⟩:=aY;split at h
  ·rename_i t x y hop;split at h
   ·rename_i nP;obtain⟨H',h1,h2⟩:=T.hit_bind h;have h2:(⟨st.env,H'⟩:bT)=bG:=h2;subst h2;exact Gl hs he hop nP (T.hit_op h1) λw' q1 q2=>hK _ _ ⟨bs,S,q1,he.keep (λ_ h=>h) q2 (eI.refl _)⟩
   ·exact h.elim
  ·rename_i args ts hop;split at h
   ·rename_i s x t t' ha ht;split at h
    ·rename_i e;subst e;obtain⟨r,h1,h2⟩:=T.hit_bind h;have h2:(⟨ko st.env o.dst (some r.1),r.2⟩:bT)=bG:=h2;subst h2;have VU:args=#[s,x]:=by rw[<-Array.toArray_toList (xs:=args),ha]
     have Ip:ts=#[t,t]:=by rw[<-Array.toArray_toList (xs:=ts),ht]
     rw[VU,Ip] at hop;exact Ji hs he hop h1 λv w' aD q1 q2 qa q3=>hK _ _ ⟨aD,S,q1,(he.keep (λ_ h=>h) q2 qa).put o.dst (some r.1) v hd λy hy=>by obtain rfl:=Option.some.inj hy;exact q3⟩
    ·exact h.elim
   ·exact h.elim
  ·rename_i t x k v hop;split at h
   ·rename_i nP;obtain⟨r,h1,h2⟩:=T.hit_bind h;have h2:(⟨st.env,_⟩:bT)=bG:=h2;subst h2;have Zl:ER m (bs++[undef]) w S st.env a:=he.keep (λ_ h=>h) (af.refl _ _) (i7 _ _);exact Di hs.pad Zl C.isP hop nP (by rw[List.getElem?_append_right (Nat.le_refl _)];simp) (by rw[<-hs.len,List.getElem?_append_right (Nat.le_refl _)];simp) h1 λw' aD q1 q2 q3 _=>hK _ _ ⟨aD,S,q1,Zl.keep (λ_ h=>h) q2 q3⟩
   ·exact h.elim
  ·have ik:cP m cx (oO o st) a w:=GR ⟨bs,S,hs,he⟩;have h:((Kf C.ty C.D (oO o st).heap.length (oO o st).env (oO o st).heap o).bind λr=>T.lf (⟨ko (oO o st).env o.dst (some r.1),Jr (oO o st).heap r.2⟩:bT)).hit bG:=h;generalize oO o st=st1 at h ik;obtain⟨bs,S,hs,he⟩:=ik;obtain⟨r,h1,h2⟩:=T.hit_bind h;have h2:(⟨ko st1.env o.dst (some r.1),Jr st1.heap r.2⟩:bT)=bG:=h2;subst h2;exact IG hs he hd (sc C.isP hs he h1) hK
 ·exact h.elim
theorem ER.lit (he:ER m bs w S env a) {t:Nat} {y:XV} {v:Value} (hv:a.tmps[t]?=some v) (hx:XR bs w S y v):ER m bs w S (ko env (some t) (some y)) a:=by
 refine⟨he.d,he.s,λu z hz=>?_⟩;rcases List.mem_cons.1 hz with e|hz
 ·injection e with e1 e2
  subst e1 e2;exact⟨v,hv,hx⟩
 ·exact he.k u z (List.mem_filter.1 hz).1
theorem cP.lit (h:cP m cx st a w) {t:Nat} {b c:Bool} (hl:st.env.lookup t=some (.one (.sym (.bool b)))) (hc:b=c):cP m cx (vW st t c) a w:=by
 obtain⟨bs,S,hs,he⟩:=h;obtain⟨v,hv,hx⟩:=he.k _ _ (fR hl);obtain⟨rfl,_⟩:=hx;subst hc;exact⟨bs,S,hs,he.lit hv ⟨rfl,rfl⟩⟩
theorem cP.skip (h:cP m cx st a w) (hd:qh m o=true):cP m cx (o7 st o) (a.put o.dst undef) w:=by
 obtain⟨bs,S,hs,he⟩:=h;exact⟨bs,S,hs,he.put o.dst (some (.tup [])) undef hd λy hy=>by obtain rfl:=Option.some.inj hy;exact⟨[],rfl,.nil⟩⟩
theorem kV {j t:Nat} {want:Bool} (hg:o.guard=some (j,want)) (ht:bJ ops j=some t) (hv:a.tmps[t]?=some undef):Region.wanted o (yielded ops a.tmps)=false:=by
 unfold Region.wanted;rw[hg];have hy:yielded ops a.tmps j=none:=by
  unfold yielded;unfold bJ at ht;cases ho:ops[j]? with
  | none=>rw[ho] at ht;cases ht
  | some q=>
   rw[ho] at ht;have Ip:q.dst=some t:=ht;simp[Ip,hv,undef]
 simp only[hy];rfl
theorem zG (h:cP m cx st a w) {t:Nat} (hl:st.env.lookup t=some (.tup [])):a.tmps[t]?=some undef:=by
 obtain⟨bs,S,hs,he⟩:=h;obtain⟨v,hv,vs,e1,e2⟩:=he.k _ _ (fR hl);cases e2
 rw[hv,e1];rfl
theorem jf {j t:Nat} {want b:Bool} (hg:o.guard=some (j,want)) (ht:bJ ops j=some t) (hv:a.tmps[t]?=some (.bool b)):Region.wanted o (yielded ops a.tmps)=(b==want):=by
 unfold Region.wanted;rw[hg];have hy:yielded ops a.tmps j=some b:=by
  unfold yielded;unfold bJ at ht;cases ho:ops[j]? with
  | none=>rw[ho] at ht;cases ht
  | some q=>
   rw[ho] at ht;have Ip:q.dst=some t:=ht;simp[Ip,hv]
 simp only[hy];cases b<;>cases want<;>rfl
theorem Cz (h:cP m cx st a w) {t:Nat} {b:Bool} (hl:st.env.lookup t=some (.one (.sym (.bool b)))):a.tmps[t]?=some (.bool b):=by
 obtain⟨bs,S,hs,he⟩:=h;obtain⟨v,hv,hx⟩:=he.k _ _ (fR hl);obtain⟨rfl,_⟩:=hx;exact hv
theorem Cy (h:cP m cx st a w) {t:Nat} {b:Bool} (hl:st.env.lookup t=some (.one (.val (.bool b)))):a.tmps[t]?=some (.bool b):=by
 obtain⟨bs,S,hs,he⟩:=h;obtain⟨v,hv,hx⟩:=he.k _ _ (fR hl);obtain⟨rfl,_⟩:=hx;exact hv
theorem Ez {f:bT->T bT} {i:Nat} (ho:ops[i]?=some o) (h:(Wy m ops o f st).hit bG) (aY:cP m cx st a w) (hf:∀st,(f st).hit bG->cP m cx st a w->o.wp P a w K Q) (hK:∀a' w',cP m cx bG a' w'->K a' w'):wpOp P ops Q i K a w:=by
 have go:∀st,(f st).hit bG->cP m cx st a w->Region.wanted o (yielded ops a.tmps)=true->wpOp P ops Q i K a w:=λst h1 h2 h3=>mK ho h3 (hf st h1 h2);have no:∀st,qh m o=true->o7 st o=bG->cP m cx st a w->Region.wanted o (yielded ops a.tmps)=false->wpOp P ops Q i K a w:=by
  intro st hd h1 h2 h3;unfold wpOp;rw[ho];simp only[h3,Bool.false_eq_true,if_false];subst h1;exact hK _ _ (h2.skip hd)
 unfold Wy at h;split at h
 ·rename_i hg;exact go st h aY (by simp[Region.wanted,hg])
 ·rename_i j want hg;split at h
  ·rename_i hd;split at h
   ·rename_i t ht;split at h
    ·rename_i b hl;have hw:=jf hg ht (Cy aY hl);split at h
     ·rename_i e;rw[e] at hw;exact go st h aY hw
     ·rename_i e;rw[Bool.not_eq_true] at e;rw[e] at hw;exact no st hd h aY hw
    ·rename_i b hl;have hw:=jf hg ht (Cz aY hl);cases b with
     | true=>
      have h:=h.1 rfl;have ik:=aY.lit hl (c:=true) rfl;cases want with
      | true=>exact go _ h ik hw
      | false=>exact no _ hd h ik hw
     | false=>
      have h:=h.2 rfl;have ik:=aY.lit hl (c:=false) rfl;cases want with
      | true=>exact no _ hd h ik hw
      | false=>exact go _ h ik hw
    ·rename_i hl;exact no st hd h aY (kV hg ht (zG aY hl))
    ·exact h.elim
   ·exact h.elim
  ·exact h.elim
theorem qQ:∀(l:List Oper) (i:Nat) {st:bT} {a:Act} {w:World},ops.toList.drop i=l->(vA C m ops l st).hit bG->cP m cx st a w->(∀a' w',cP m cx bG a' w'->Q .normal a' w')->wpOps P ops Q (List.range' i l.length) a w
 | [],i,st,a,w,hl,h,aY,hQ=>by
  have h:st=bG:=h;subst h;exact hQ a w aY
 | o::l,i,st,a,w,hl,h,aY,hQ=>by
  obtain⟨st1,h1,h2⟩:=T.hit_bind h;have ho:ops[i]?=some o:=by
   have:=congrArg (λl:List Oper=>l[0]?) hl;simp only[List.getElem?_drop,Nat.add_zero,List.getElem?_cons_zero,Array.getElem?_toList] at this;exact this
  have oU:ops.toList.drop (i+1)=l:=by
   rw[<-List.drop_drop,hl];rfl
  rw[List.length_cons,List.range'_succ,wpOps_cons];exact Ez ho h1 aY (λst q1 q2=>Cu q1 q2 λa' w' q=>qQ l (i+1) oU h2 q hQ) λa' w' q=>qQ l (i+1) oU h2 q hQ
theorem zQ {id:Nat} (h:(vA C m ops ops.toList st).hit bG) (aY:cP m cx st a w) (hQ:∀a' w',cP m cx bG a' w'->Q .normal a' w'):(Code.region id ops false).wp P Q a w:=by
 refine wp_region ?_;have:=qQ (C:=C) ops.toList 0 rfl h aY hQ;rw[Array.length_toList] at this;rw[List.range_eq_range'];exact this
end
inductive Lf where
 | nrm (st:bT)
 | ext (id:Nat) (st:bT)
 | ret (r:XV) (st:bT)
inductive KI where
 | code (n:Nat) (c:Code)
 | blk (id:Nat)
def eZ:Code->List Code
 | .seq a b=>eZ a++eZ b
 | .cond _ a b=>eZ a++eZ b
 | .block _ b=>eZ b
 | .loop b=>.loop b::eZ b
 | _=>[]
def jq (id:Nat):List KI->Option (List KI)
 | []=>none
 | .blk j::ks=>if id=j then some ks else jq id ks
 | .code _ _::ks=>jq id ks
def Nq (P:Program) (fn:Func) (m:Nat) (cx:Cx) (r:XV) (st:bT) (a:Act) (w:World):Prop:=
 ∃bs S S',HS cx bs w S st.heap/\ER m bs w S st.env a/\(∀b,S' b->(cx.S0 b\/cx.w0.heap.size<=b\/cx.M b)/\b<w.heap.size)/\(cx.pb=[]\/∀b,S' b->S b)/\∃v,(results fn a.tmps).run P w=.ok v w/\XR [] w S' r v
structure Rg (P:Program) (m:Nat) where
 fn:Func
 pb:List Nat
 reg:Nat->Array Oper->Bool->bT->T bT
 ok:∀id ops dr (cx:Cx) (st bG:bT) (a:Act) (w:World) (Q:Exit->Act->World->Prop),(reg id ops dr st).hit bG->cP m cx st a w->(∀a' w',cP m cx bG a' w'->Q .normal a' w')->(Code.region id ops dr).wp P Q a w
 res:bT->Option XV
 resOk:∀(cx:Cx) (st:bT) (a:Act) (w:World) (r:XV),cx.pb=pb->res st=some r->cP m cx st a w->Nq P fn m cx r st a w
def LQ (P:Program) (fn:Func) (m:Nat) (cx:Cx) (l:Lf):Exit->Act->World->Prop
 | .normal,a,w=>∃st,Lf.nrm st=l/\cP m cx st a w
 | .exit id,a,w=>∃st,Lf.ext id st=l/\cP m cx st a w
 | .ret,a,w=>∃r st,Lf.ret r st=l/\Nq P fn m cx r st a w
 | _,_,_=>False
def sN (P:Program) (fn:Func) (m:Nat) (pb:List Nat) (c:Code) (f:bT->T Lf):Prop:=∀(cx:Cx) (st:bT) (a:Act) (w:World) (l:Lf),cx.pb=pb->(f st).hit l->cP m cx st a w->c.wp P (LQ P fn m cx l) a w
structure oX (P:Program) (fn:Func) (m:Nat) (pb:List Nat) (loops:List Code) where
 f:Nat->Option (bT->T Lf)
 ok:∀(k:Nat) (g:bT->T Lf) (c:Code),f k=some g->loops[k]?=some c->sN P fn m pb c g
def E6 (x:Operand) (st:bT) (f:Bool->bT->T Lf):T Lf:=match ev st.env x with
 | some (.one (.val (.bool v)))=>f v st
 | some (.one (.sym (.bool v)))=>match x with
  | .tmp t=>.br v (f true (vW st t true)) (f false (vW st t false))
  | _=>.bad
 | _=>.bad
section
variable {P:Program} {m:Nat} {loops:List Code} (R:Rg P m) (L:oX P R.fn m R.pb loops)
def run:Nat->List KI->bT->T Lf
 | 0,_,_=>.bad
 | _+1,[],st=>.lf (.nrm st)
 | n+1,.blk _::ks,st=>run n ks st
 | n+1,.code i c::ks,st=>match c with
  | .skip=>run n ks st
  | .label _=>run n ks st
  | .seq a b=>run n (.code i a::.code (i+(eZ a).length) b::ks) st
  | .block id b=>run n (.code i b::.blk id::ks) st
  | .exit id=>match jq id ks with
   | some Ia=>run n Ia st
   | none=>.lf (.ext id st)
  | .ret=>(T.op (R.res st)).bind λr=>.lf (.ret r st)
  | .cond x a b=>E6 x st λv st=>run n ((if v then .code i a else .code (i+(eZ a).length) b)::ks) st
  | .region id ops dr=>(R.reg id ops dr st).bind (run n ks)
  | .loop b=>match L.f i with
   | some g=>(g st).bind λl=>match l with
    | .nrm bG=>run n ks bG
    | .ext id bG=>match jq id ks with
     | some Ia=>run n Ia bG
     | none=>.lf (.ext id bG)
    | .ret r bG=>.lf (.ret r bG)
   | none=>run n (.code (i+1) b::.code i (.loop b)::ks) st
  | _=>.bad
end
def WK (P:Program) (Q:Exit->Act->World->Prop):List KI->Exit->Act->World->Prop
 | [],e,a,w=>Q e a w
 | .blk j::ks,e,a,w=>match e with
  | .exit id=>if id=j then WK P Q ks .normal a w else WK P Q ks (.exit id) a w
  | e=>WK P Q ks e a w
 | .code _ c::ks,e,a,w=>match e with
  | .normal=>c.wp P (WK P Q ks) a w
  | e=>WK P Q ks e a w
section
variable {P:Program} {Q Q':Exit->Act->World->Prop} {m:Nat} {cx:Cx} {loops:List Code} {R:Rg P m} {L:oX P R.fn m R.pb loops}
theorem WK.mono (h:∀e a w,Q e a w->Q' e a w):∀{ks:List KI} {e:Exit} {a:Act} {w:World},WK P Q ks e a w->WK P Q' ks e a w
 | [],_,_,_,hq=>h _ _ _ hq
 | .blk j::ks,e,a,w,hq=>by
  cases e with
  | exit id=>
   have hq:if id=j then WK P Q ks .normal a w else WK P Q ks (.exit id) a w:=hq
   show if id=j then WK P Q' ks .normal a w else WK P Q' ks (.exit id) a w
   split
   ·rename_i e;rw[if_pos e] at hq;exact WK.mono h hq
   ·rename_i e;rw[if_neg e] at hq;exact WK.mono h hq
  | _=>exact WK.mono (ks:=ks) h hq
 | .code i c::ks,e,a,w,hq=>by
  cases e with
  | normal=>exact wp_mono (c:=c) hq λe a w q=>WK.mono h q
  | _=>exact WK.mono (ks:=ks) h hq
theorem WK.ret:∀{ks:List KI} {a:Act} {w:World},Q .ret a w->WK P Q ks .ret a w
 | [],_,_,h=>h
 | .blk _::ks,_,_,h=>WK.ret (ks:=ks) h
 | .code _ _::ks,_,_,h=>WK.ret (ks:=ks) h
theorem WK.exit {id:Nat} {k2:List KI}:∀{k1:List KI} {a:Act} {w:World},(∀k3,jq id (k1++k2)=some (k3++k2)->(∃k0,k1=k0++.blk id::k3)->WK P Q k3 .normal a w)->(jq id (k1++k2)=jq id k2->Q (.exit id) a w)->WK P Q k1 (.exit id) a w
 | [],_,_,_,h=>h rfl
 | .blk j::ks,a,w,h1,h2=>by
  show if id=j then WK P Q ks .normal a w else WK P Q ks (.exit id) a w
  split
  ·rename_i e;subst e;exact h1 ks (by show(if id=id then some (ks++k2) else _)=_;rw[if_pos rfl]) ⟨[],rfl⟩
  ·rename_i e;have hp:jq id (.blk j::ks++k2)=jq id (ks++k2):=if_neg e;rw[hp] at h1 h2;exact WK.exit (k1:=ks) (λk3 q1 ⟨k0,q2⟩=>h1 k3 q1 ⟨.blk j::k0,by rw[q2];rfl⟩) h2
 | .code i c::ks,a,w,h1,h2=>by
  have hp:jq id (.code i c::ks++k2)=jq id (ks++k2):=rfl;rw[hp] at h1 h2;exact WK.exit (k1:=ks) (λk3 q1 ⟨k0,q2⟩=>h1 k3 q1 ⟨.code i c::k0,by rw[q2];rfl⟩) h2
def mH (loops:List Code) (ks:List KI):Prop:=∀i c,KI.code i c∈ks->∀j x,(eZ c)[j]?=some x->loops[i+j]?=some x
def RQ (R:Rg P m) (L:oX P R.fn m R.pb loops) (cx:Cx) (l:Lf) (n:Nat) (k2:List KI):Exit->Act->World->Prop
 | .normal,a,w=>∃j st,j<=n/\(run R L j k2 st).hit l/\cP m cx st a w
 | .exit id,a,w=>∃j st,j<=n/\(match jq id k2 with|some k3=>(run R L j k3 st).hit l|none=>Lf.ext id st=l)/\cP m cx st a w
 | .ret,a,w=>∃r st,Lf.ret r st=l/\Nq P R.fn m cx r st a w
 | _,_,_=>False
theorem RQ.up {l:Lf} {n n':Nat} {k2:List KI} (h:n<=n'):∀e a w,RQ R L cx l n k2 e a w->RQ R L cx l n' k2 e a w:=by
 intro e a w hq;cases e with
 | normal=>obtain⟨j,st,h1,h2⟩:=hq;exact⟨j,st,Nat.le_trans h1 h,h2⟩
 | exit id=>obtain⟨j,st,h1,h2⟩:=hq;exact⟨j,st,Nat.le_trans h1 h,h2⟩
 | _=>exact hq
theorem mH.tail {ks:List KI} {x:KI} (h:mH loops (x::ks)):mH loops ks:=λi c hm=>h i c (List.mem_cons_of_mem _ hm)
theorem mH.cons {ks:List KI} {i:Nat} {c:Code} (h:mH loops ks) (hc:∀j x,(eZ c)[j]?=some x->loops[i+j]?=some x):mH loops (.code i c::ks):=λi' c' hm j x hx=>by
 rcases List.mem_cons.1 hm with e|hm
 ·injection e with e1 e2;subst e1 e2;exact hc j x hx
 ·exact h i' c' hm j x hx
theorem mH.blk {ks:List KI} {i:Nat} (h:mH loops ks):mH loops (.blk i::ks):=λi' c' hm=>by
 rcases List.mem_cons.1 hm with e|hm
 ·cases e
 ·exact h i' c' hm
theorem mH.sub {k0 k1:List KI} (h:mH loops (k0++k1)):mH loops k1:=λi c hm=>h i c (List.mem_append_right _ hm)
theorem E5 {x:Operand} {st:bT} {f:Bool->bT->T Lf} {l:Lf} {a:Act} {w:World} {c d:Code} (h:(E6 x st f).hit l) (aY:cP m cx st a w) (ht:∀st,(f true st).hit l->cP m cx st a w->c.wp P Q a w) (hf:∀st,(f false st).hit l->cP m cx st a w->d.wp P Q a w):(Code.cond x c d).wp P Q a w:=by
 unfold E6 at h;split at h
 ·rename_i v hv;obtain⟨bs,S,hs,he⟩:=aY;have hx:=(aZ he hv).1;cases v with
  | true=>exact wp_cond_true hx (ht st h ⟨bs,S,hs,he⟩)
  | false=>exact wp_cond_false hx (hf st h ⟨bs,S,hs,he⟩)
 ·rename_i v hv;split at h
  ·rename_i t;have hx:a.eval (.tmp t)=.bool v:=by obtain⟨bs,S,hs,he⟩:=aY;exact(aZ he hv).1
   cases v with
   | true=>exact wp_cond_true hx (ht _ (h.1 rfl) (aY.lit hv rfl))
   | false=>exact wp_cond_false hx (hf _ (h.2 rfl) (aY.lit hv rfl))
  ·exact h.elim
 ·exact h.elim
theorem T2 {l:Lf} (jl:cx.pb=R.pb):∀(n:Nat) (k1 k2:List KI) (st:bT) (a:Act) (w:World),(run R L n (k1++k2) st).hit l->cP m cx st a w->mH loops (k1++k2)->WK P (RQ R L cx l n k2) k1 .normal a w:=by
 intro n;induction n using Nat.strongRecOn with
 | _ n ih=>
 intro k1 k2 st a w h aY hk;cases k1 with
 | nil=>exact⟨n,st,Nat.le_refl _,h,aY⟩
 | cons x k1=>
  cases n with
  | zero=>exact h.elim
  | succ n=>
   have Io:∀e a w,RQ R L cx l n k2 e a w->RQ R L cx l (n+1) k2 e a w:=RQ.up (Nat.le_succ n);have Ef:∀(id:Nat) (j:Nat) (st:bT) (a:Act) (w:World),j<=n->cP m cx st a w->(match jq id (k1++k2) with|some k3=>(run R L j k3 st).hit l|none=>Lf.ext id st=l)->WK P (RQ R L cx l (n+1) k2) k1 (.exit id) a w:=by
    intro id j st a w hj aY hp;refine WK.exit (k2:=k2) (λk3 q1 ⟨k0,q2⟩=>?_) λq=>?_
    ·rw[q1] at hp;exact WK.mono (RQ.up (by omega)) (ih j (by omega) k3 k2 st a w hp aY (by
      have rW:mH loops (k1++k2):=hk.tail;rw[q2,List.append_assoc] at rW;exact(mH.sub rW).tail))
    ·rw[q] at hp;exact⟨j,st,by omega,hp,aY⟩
   cases x with
   | blk id=>exact WK.mono (ks:=k1) Io (ih n (Nat.lt_succ_self n) k1 k2 st a w h aY hk.tail)
   | code i c=>
    have hc:=hk i c List.mem_cons_self;have ub:=hk.tail;show c.wp P (WK P (RQ R L cx l (n+1) k2) k1) a w;cases c with
    | skip=>exact wp_skip (WK.mono Io (ih n (Nat.lt_succ_self n) k1 k2 st a w h aY ub))
    | label q=>exact wp_label (WK.mono Io (ih n (Nat.lt_succ_self n) k1 k2 st a w h aY ub))
    | seq x y=>
     have hy:∀j z,(eZ y)[j]?=some z->loops[i+(eZ x).length+j]?=some z:=λj z hz=>by
      rw[Nat.add_assoc];refine hc _ z ?_;show(eZ x++eZ y)[_]?=_;rw[List.getElem?_append_right (by omega),Nat.add_sub_cancel_left];exact hz
     have hx:∀j z,(eZ x)[j]?=some z->loops[i+j]?=some z:=λj z hz=>hc j z (by
      show(eZ x++eZ y)[j]?=_;rw[List.getElem?_append_left (List.getElem?_eq_some_iff.1 hz).1];exact hz)
     have:=ih n (Nat.lt_succ_self n) (.code i x::.code (i+(eZ x).length) y::k1) k2 st a w h aY (mH.cons (mH.cons ub hy) hx);refine wp_seq (wp_mono (c:=x) (WK.mono (ks:=.code i x::.code (i+(eZ x).length) y::k1) Io this) λe a w q=>?_);cases e<;>exact q
    | block id b=>
     have:=ih n (Nat.lt_succ_self n) (.code i b::.blk id::k1) k2 st a w h aY (mH.cons (mH.blk ub) hc);refine wp_block (wp_mono (c:=b) (WK.mono (ks:=.code i b::.blk id::k1) Io this) λe a w q=>?_);cases e<;>exact q
    | exit id=>
     have h:(match jq id (k1++k2) with|some Ia=>run R L n Ia st|none=>T.lf (Lf.ext id st)).hit l:=h;refine wp_exit (Ef id n st a w (Nat.le_refl _) aY ?_);split
     ·rename_i k3 e;rw[e] at h;exact h
     ·rename_i e;rw[e] at h;exact h
    | ret=>
     obtain⟨r,q1,q2⟩:=T.hit_bind h;exact wp_ret (WK.ret ⟨r,st,q2,R.resOk cx st a w r jl (T.hit_op q1) aY⟩)
    | cond x c d=>
     refine E5 (P:=P) (Q:=WK P (RQ R L cx l (n+1) k2) k1) h aY (λst q1 q2=>?_) λst q1 q2=>?_
     ·exact WK.mono (ks:=.code i c::k1) Io (ih n (Nat.lt_succ_self n) (.code i c::k1) k2 st a w q1 q2 (mH.cons ub λj z hz=>hc j z (by
       show(eZ c++eZ d)[j]?=_;rw[List.getElem?_append_left (List.getElem?_eq_some_iff.1 hz).1];exact hz)))
     ·exact WK.mono (ks:=.code (i+(eZ c).length) d::k1) Io (ih n (Nat.lt_succ_self n) (.code (i+(eZ c).length) d::k1) k2 st a w q1 q2 (mH.cons ub λj z hz=>by
       rw[Nat.add_assoc];refine hc _ z ?_;show(eZ c++eZ d)[_]?=_;rw[List.getElem?_append_right (by omega),Nat.add_sub_cancel_left];exact hz))
    | region id ops dr=>
     obtain⟨st1,q1,q2⟩:=T.hit_bind h;exact R.ok id ops dr cx st st1 a w _ q1 aY λa' w' q3=>WK.mono Io (ih n (Nat.lt_succ_self n) k1 k2 st1 a' w' q2 q3 ub)
    | loop b=>
     have Qs:∀st,run R L (n+1) (.code i (.loop b)::(k1++k2)) st=match L.f i with
      | some g=>(g st).bind λl=>match l with
       | .nrm bG=>run R L n (k1++k2) bG
       | .ext id bG=>match jq id (k1++k2) with
        | some Ia=>run R L n Ia bG
        | none=>.lf (.ext id bG)
       | .ret r bG=>.lf (.ret r bG)
      | none=>run R L n (.code (i+1) b::.code i (.loop b)::(k1++k2)) st:=λ_=>rfl
     cases hf:L.f i with
     | some g=>
      have h:(run R L (n+1) (.code i (.loop b)::(k1++k2)) st).hit l:=h;rw[Qs,hf] at h;obtain⟨l',q1,q2⟩:=T.hit_bind h;refine wp_mono (L.ok i g (.loop b) hf (hc 0 _ rfl) cx st a w l' jl q1 aY) λe a' w' q=>?_;cases e with
      | normal=>
       obtain⟨bG,rfl,q3⟩:=q;exact WK.mono Io (ih n (Nat.lt_succ_self n) k1 k2 bG a' w' q2 q3 ub)
      | exit id=>
       obtain⟨bG,rfl,q3⟩:=q;refine Ef id n bG a' w' (Nat.le_refl _) q3 ?_;simp only at q2;split
       ·rename_i k3 e;rw[e] at q2;exact q2
       ·rename_i e;rw[e] at q2;exact q2
      | ret=>
       obtain⟨r,bG,rfl,q3⟩:=q;exact WK.ret ⟨r,bG,q2,q3⟩
      | _=>exact q.elim
     | none=>
      refine wp_loop_ghost (λj a w=>∃bG,j<=n+1/\(run R L j (.code i (.loop b)::(k1++k2)) bG).hit l/\cP m cx bG a w) (n+1) ⟨st,Nat.le_refl _,h,aY⟩ ?_;rintro j a1 w1 ⟨st1,hj,h1,jk⟩;cases j with
      | zero=>exact h1.elim
      | succ j=>
       have Mf:run R L (j+1) (.code i (.loop b)::(k1++k2)) st1=match L.f i with
        | some g=>(g st1).bind λl=>match l with
         | .nrm bG=>run R L j (k1++k2) bG
         | .ext id bG=>match jq id (k1++k2) with
          | some Ia=>run R L j Ia bG
          | none=>.lf (.ext id bG)
         | .ret r bG=>.lf (.ret r bG)
        | none=>run R L j (.code (i+1) b::.code i (.loop b)::(k1++k2)) st1:=rfl
       rw[Mf,hf] at h1;have:=ih j (by omega) [.code (i+1) b] (.code i (.loop b)::(k1++k2)) st1 a1 w1 h1 jk (mH.cons (mH.cons ub hc) λq z hz=>by
        rw[Nat.add_assoc,Nat.add_comm 1 q];exact hc (q+1) z hz)
       refine wp_mono (c:=b) this λe a2 w2 q=>?_;cases e with
       | normal=>
        obtain⟨j',bG,q1,q2,q3⟩:=q;exact⟨j',by omega,bG,by omega,q2,q3⟩
       | exit id=>
        obtain⟨j',bG,q1,q2,q3⟩:=q;exact Ef id j' bG a2 w2 (by omega) q3 q2
       | ret=>exact WK.ret q
       | _=>exact q.elim
    | _=>exact h.elim
theorem qz (jl:cx.pb=R.pb) {n:Nat} {c:Code} {i:Nat} {st:bT} {a:Act} {w:World} {l:Lf} (h:(run R L n [.code i c] st).hit l) (aY:cP m cx st a w) (hk:∀j x,(eZ c)[j]?=some x->loops[i+j]?=some x):c.wp P (LQ P R.fn m cx l) a w:=by
 have:=T2 jl n [.code i c] [] st a w h aY (mH.cons (λ_ _ h=>by cases h) hk);refine wp_mono (c:=c) this λe a w q=>?_;cases e with
 | normal=>
  obtain⟨j,bG,_,q1,q2⟩:=q;cases j with
  | zero=>exact q1.elim
  | succ j=>exact⟨bG,q1,q2⟩
 | exit id=>
  obtain⟨j,bG,_,q1,q2⟩:=q;exact⟨bG,q1,q2⟩
 | ret=>exact q
 | _=>exact q.elim
end
inductive ZS where
 | d (t:Ty)
 | own (t:Ty) (e:TypeId)
 | any
inductive CS where
 | d (t:Ty)
 | own (t:Ty) (e:TypeId)
 | any
 | zc (t tn:Ty) (e:TypeId)
 | zip (t tn:Ty) (e:TypeId) (zs:List ZS)
 | mp (kt:Kt) (t:Ty)
 | mr (kt:Kt) (t:Ty) (e:TypeId)
inductive SS where
 | c (s:CS)
 | st (k:Nat)
 | box (ty:TypeId) (cs:List CS)
 | fn (k:FuncId)
 | rf (k:Nat)
 | cl (k:FuncId) (t:Ty)
 | sb (o o2:Nat)
def SS.isSb:SS->Bool
 | .sb _ _=>true
 | _=>false
def ZV:ZS->Type
 | .d t=>El t
 | .own t _=>List (El t)
 | .any=>Unit
def sJ:List ZS->Type
 | []=>Unit
 | s::l=>ZV s×sJ l
def CV:CS->Type
 | .d t=>El t
 | .own t _=>List (El t)
 | .any=>Unit
 | .zc t tn _=>Nat×List (El t)×List (El tn)
 | .zip t tn _ zs=>Nat×List (El t)×sJ zs×List (El tn)
 | .mp kt t=>Nat×(kt.K->Option (El t))
 | .mr kt t _=>Nat×(kt.K->Option (List (El t)))
def eX:List CS->Type
 | []=>Unit
 | s::l=>CV s×eX l
def SW:SS->Type
 | .c s=>CV s
 | .st k=>wX k
 | .box _ cs=>eX cs
 | .fn _=>Unit
 | .rf k=>wX k
 | .cl _ t=>El t
 | .sb _ _=>Unit
def aG:List (Nat×SS)->Type
 | []=>Unit
 | p::l=>SW p.2×aG l
def tM (n:Nat):(s:ZS)->ZV s->AV×List aa
 | .d t,x=>(one t x,[])
 | .own t e,rs=>(.own n,[.row t e rs])
 | .any,_=>(.any n,[.dead])
def k8 (n:Nat):(l:List ZS)->sJ l->List AV×List aa
 | [],_=>([],[])
 | s::l,x=>((tM n s x.1).1::(k8 (n+(tM n s x.1).2.length) l x.2).1,(tM n s x.1).2++(k8 (n+(tM n s x.1).2.length) l x.2).2)
def me (n:Nat):(s:CS)->CV s->AV×List aa
 | .d t,x=>(one t x,[])
 | .own t e,rs=>(.own n,[.row t e rs])
 | .any,_=>(.any n,[.dead])
 | .zc t tn e,x=>(.own n,[.zc e t tn x.1 x.2.1 x.2.2])
 | .mp kt t,x=>(.mp n,[.mp kt t x.1 x.2])
 | .mr kt t e,x=>(.mp n,[.mq (n+1),.mr n kt t e x.1 x.2])
 | .zip t tn e zs,x=>(.own n,.zip (n+1) e t tn x.1 x.2.1 (k8 (n+2) zs x.2.2.1).1 x.2.2.2::.dead::(k8 (n+2) zs x.2.2.1).2)
def lh (n:Nat):(l:List CS)->eX l->List AV×List aa
 | [],_=>([],[])
 | s::l,x=>((me n s x.1).1::(lh (n+(me n s x.1).2.length) l x.2).1,(me n s x.1).2++(lh (n+(me n s x.1).2.length) l x.2).2)
def oC (n:Nat):(s:SS)->SW s->XV×List aa
 | .c s,x=>(.one (me n s x).1,(me n s x).2)
 | .st k,x=>(.agg (kS (.st k) x),[])
 | .fn k,_=>(.one (.val (.func (.func k) #[] #[])),[])
 | .rf k,x=>(.one (.ref (.st k) x 0),[])
 | .cl k t,x=>(.one (.cl k t x),[])
 | .sb o o2,_=>(.one (.sub o o2 0),[])
 | .box ty cs,x=>(.one (.ptr n 0),.cells ty (lh (n+1) cs x).1::(lh (n+1) cs x).2)
def lg (n:Nat):(l:List (Nat×SS))->aG l->Env×List aa
 | [],_=>([],[])
 | p::l,x=>((p.1,(oC n p.2 x.1).1)::(lg (n+(oC n p.2 x.1).2.length) l x.2).1,(oC n p.2 x.1).2++(lg (n+(oC n p.2 x.1).2.length) l x.2).2)
def bB (l:List (Nat×SS)) (x:aG l):bT:=⟨(lg 0 l x).1,(lg 0 l x).2⟩
def K4 (H:List aa) (t:Ty) (e:TypeId):AV->Option (List (El t)×List (Option Nat))
 | .own o=>match H[o]? with
  | some (.row t' e' rs)=>if e'=e then(gd t (.list t' rs false)).map λx=>(x,[some o]) else none
  | _=>none
 | .val (.slice none 0 0)=>some ([],[none])
 | _=>none
def Sk:AV->Option (Unit×List (Option Nat))
 | .any o=>some ((),[some o])
 | _=>some ((),[none])
def Pe (H:List aa):(s:ZS)->AV->Option (ZV s×List (Option Nat))
 | .d t,a=>(Ca t a).map λx=>(x,[])
 | .own t e,a=>K4 H t e a
 | .any,a=>Sk a
def tv (H:List aa):(l:List ZS)->List AV->Option (sJ l×List (Option Nat))
 | [],[]=>some ((),[])
 | s::l,a::r=>match Pe H s a,tv H l r with
  | some x,some y=>some ((x.1,y.1),x.2++y.2)
  | _,_=>none
 | _,_=>none
def zR (H:List aa) (t tn:Ty) (e:TypeId):AV->Option ((Nat×List (El t)×List (El tn))×List (Option Nat))
 | .own o=>match H[o]? with
  | some (.zc e' t' Cf dQ done rest)=>match Ty.eq? t' t,Ty.eq? Cf tn with
   | some h,some h'=>if e'=e then some ((dQ,h.down▸done,h'.down▸rest),[some o]) else none
   | _,_=>none
  | _=>none
 | _=>none
def pf (H:List aa) (t tn:Ty) (e:TypeId) (zs:List ZS):AV->Option ((Nat×List (El t)×sJ zs×List (El tn))×List (Option Nat))
 | .own o=>match H[o]? with
  | some (.zip o2 e' t' Cf dQ done cur rest)=>match Ty.eq? t' t,Ty.eq? Cf tn,tv H zs cur with
   | some h,some h',some x=>if e'=e then some ((dQ,h.down▸done,x.1,h'.down▸rest),some o::some o2::x.2) else none
   | _,_,_=>none
  | _=>none
 | _=>none
def zV (H:List aa) (kt:Kt) (t:Ty):AV->Option ((Nat×(kt.K->Option (El t)))×List (Option Nat))
 | .mp o=>match H[o]? with
  | some (.mp fU t' n f)=>match Ty.eq? (.mp fU t') (.mp kt t) with
   | some h=>some ((n,(h.down▸(f:El (.mp fU t')):El (.mp kt t))),[some o])
   | none=>none
  | _=>none
 | _=>none
def zU (H:List aa) (kt:Kt) (t:Ty) (e:TypeId):AV->Option ((Nat×(kt.K->Option (List (El t))))×List (Option Nat))
 | .mp p=>match H[p]? with
  | some (.mq q)=>match H[q]? with
   | some (.mr p' fU t' e' n f)=>match Ty.eq? (.mp fU (.list t')) (.mp kt (.list t)) with
    | some h=>if p'=p/\e'=e then some ((n,(h.down▸(f:El (.mp fU (.list t'))):El (.mp kt (.list t)))),[some p,some q]) else none
    | none=>none
   | _=>none
  | _=>none
 | _=>none
def NM (H:List aa):(s:CS)->AV->Option (CV s×List (Option Nat))
 | .d t,a=>(Ca t a).map λx=>(x,[])
 | .own t e,a=>K4 H t e a
 | .any,a=>Sk a
 | .zc t tn e,a=>zR H t tn e a
 | .zip t tn e zs,a=>pf H t tn e zs a
 | .mp kt t,a=>zV H kt t a
 | .mr kt t e,a=>zU H kt t e a
def oN (H:List aa):(l:List CS)->List AV->Option (eX l×List (Option Nat))
 | [],[]=>some ((),[])
 | s::l,a::r=>match NM H s a,oN H l r with
  | some x,some y=>some ((x.1,y.1),x.2++y.2)
  | _,_=>none
 | _,_=>none
def YH (H:List aa) (s:CS):XV->Option (CV s×List (Option Nat))
 | .one a=>NM H s a
 | _=>none
def YG (k:Nat):XV->Option (wX k×List (Option Nat))
 | .agg cs=>(un (.st k) cs).map λx=>(x,[])
 | _=>none
def NN (H:List aa) (ty:TypeId) (cs:List CS):XV->Option (eX cs×List (Option Nat))
 | .one (.ptr o 0)=>match H[o]? with
  | some (.cells jP r)=>if jP=ty then(oN H cs r).map λx=>(x.1,some o::x.2) else none
  | _=>none
 | _=>none
def K5 (k:FuncId):XV->Option (Unit×List (Option Nat))
 | .one (.val (.func (.func j) a b))=>if j=k/\a.size=0/\b.size=0 then some ((),[]) else none
 | _=>none
def K2 (k:Nat):XV->Option (wX k×List (Option Nat))
 | .one (.ref t x 0)=>match Ty.eq? t (.st k) with
  | some h=>some ((h.down▸x:El (.st k)),[])
  | none=>none
 | _=>none
def K6 (k:FuncId) (t:Ty):XV->Option (El t×List (Option Nat))
 | .one (.cl k' t' x)=>match Ty.eq? t' t with
  | some h=>if k'=k then some ((h.down▸x:El t),[]) else none
  | none=>none
 | _=>none
def KZ:XV->Option (Unit×List (Option Nat))
 | .one (.sub _ _ 0)=>some ((),[])
 | _=>none
def GJ (H:List aa):(s:SS)->XV->Option (SW s×List (Option Nat))
 | .c s,x=>YH H s x
 | .st k,x=>YG k x
 | .box ty cs,x=>NN H ty cs x
 | .fn k,x=>K5 k x
 | .rf k,x=>K2 k x
 | .cl k t,x=>K6 k t x
 | .sb _ _,x=>KZ x
def xL (H:List aa) (env:Env):(l:List (Nat×SS))->Option (aG l×List (Option Nat))
 | []=>some ((),[])
 | p::l=>match (env.lookup p.1).bind (GJ H p.2),xL H env l with
  | some x,some y=>some ((x.1,y.1),x.2++y.2)
  | _,_=>none
def t3 (pb:List Nat) (ids:List (Option Nat)):Bool:=(List.range ids.length).all (λi=>(List.range i).all λj=>match ids[i]?,ids[j]? with
 | some (some a),some (some b)=>a !=b
 | _,_=>true)&&pb.all λi=>ids[i]?==some (some i)
def OW (env:Env) (ids:List (Option Nat)) (l:List (Nat×SS)):Bool:=l.all λp=>match p.2 with
 | .sb _ o2=>match env.lookup p.1 with
  | some (.one (.sub _ q _))=>ids[o2]?==some (some q)
  | _=>false
 | _=>true
def tw (H:List aa) (env:Env) (l:List (Nat×SS)):Option (aG l×List (Option Nat)):=if l.all (λp=>!p.2.isSb) then xL H env l else none
def jp (pb:List Nat) (l:List (Nat×SS)) (st:bT):Option (aG l):=(xL st.heap st.env l).bind λp=>if t3 pb p.2&&OW st.env p.2 l then some p.1 else none
inductive Re (bs:List Value) (H:List aa):List (Option Nat)->List aa->List Value->Prop where
 | nil:Re bs H [] [] []
 | sm {o:Nat} {x y:aa} {v:Value} {ids:List (Option Nat)} {ys:List aa} {us:List Value}:H[o]?=some x->bs[o]?=some v->(∀c,Bk y v c->Bk x v c)->Re bs H ids ys us->Re bs H (some o::ids) (y::ys) (v::us)
 | nn {y:aa} {v:Value} {ids:List (Option Nat)} {ys:List aa} {us:List Value}:(∀c,¬Bk y v c)->Re bs H ids ys us->Re bs H (none::ids) (y::ys) (v::us)
section
variable {cx:Cx} {bs aD:List Value} {w:World} {S:Nat->Prop} {H:List aa} {m:Nat} {env:Env} {a:Act}
theorem Re.append {ids P0:List (Option Nat)} {ys OE:List aa} {us kj:List Value} (h:Re bs H ids ys us) (h':Re bs H P0 OE kj):Re bs H (ids++P0) (ys++OE) (us++kj):=by
 induction h with
 | nil=>exact h'
 | sm h1 h2 h3 _ ih=>exact .sm h1 h2 h3 ih
 | nn h1 _ ih=>exact .nn h1 ih
theorem Re.len {ids:List (Option Nat)} {ys:List aa} {us:List Value} (h:Re bs H ids ys us):ids.length=ys.length/\us.length=ys.length:=by
 induction h with
 | nil=>exact⟨rfl,rfl⟩
 | sm _ _ _ _ ih=>simp[ih.1,ih.2]
 | nn _ _ ih=>simp[ih.1,ih.2]
theorem Re.get {ids:List (Option Nat)} {ys:List aa} {us:List Value} (h:Re bs H ids ys us):∀(i:Nat) (y:aa) (v:Value),ys[i]?=some y->us[i]?=some v->(∃o x,ids[i]?=some (some o)/\H[o]?=some x/\bs[o]?=some v/\(∀c,Bk y v c->Bk x v c))\/(ids[i]?=some none/\∀c,¬Bk y v c):=by
 induction h with
 | nil=>intro i y v h;cases h
 | sm h1 h2 h3 _ ih=>
  intro i y v hy hv;cases i with
  | zero=>injection hy with hy;injection hv with hv;subst hy hv;exact .inl ⟨_,_,rfl,h1,h2,h3⟩
  | succ i=>exact ih i y v (by simpa using hy) (by simpa using hv)
 | nn h1 _ ih=>
  intro i y v hy hv;cases i with
  | zero=>injection hy with hy;injection hv with hv;subst hy hv;exact .inr ⟨rfl,h1⟩
  | succ i=>exact ih i y v (by simpa using hy) (by simpa using hv)
def u4 (aD us:List Value) (n:Nat):Prop:=∀(j:Nat) (u:Value),us[j]?=some u->aD[n+j]?=some u
theorem u4.left {us kj:List Value} {n:Nat} (h:u4 aD (us++kj) n):u4 aD us n:=λj u hj=>h j u (by rw[List.getElem?_append_left (List.getElem?_eq_some_iff.1 hj).1];exact hj)
theorem u4.right {us kj:List Value} {n:Nat} (h:u4 aD (us++kj) n):u4 aD kj (n+us.length):=λj u hj=>by
 rw[Nat.add_assoc];exact h _ u (by rw[List.getElem?_append_right (by omega),Nat.add_sub_cancel_left];exact hj)
def eW (aD:List Value) (w:World) (S:Nat->Prop) (ys:List aa) (us:List Value):Prop:=∀(j:Nat) (y:aa) (u:Value),ys[j]?=some y->us[j]?=some u->OR aD w S y u
theorem eW.append {ys OE:List aa} {us kj:List Value} (h:eW aD w S ys us) (h':eW aD w S OE kj) (hl:us.length=ys.length):eW aD w S (ys++OE) (us++kj):=λj y u hy hu=>by
 by_cases hj:j<ys.length
 ·rw[List.getElem?_append_left hj] at hy;rw[List.getElem?_append_left (by omega)] at hu;exact h j y u hy hu
 ·rw[List.getElem?_append_right (by omega)] at hy;rw[List.getElem?_append_right (by omega),hl] at hu;exact h' _ y u hy hu
theorem Lj {t:Ty} {b:AV} {x:El t} {v:Value} (ht:t.one=true) (h:Ca t b=some x) (hv:VR bs w S b v):VR aD w S (one t x) v:=mn ht (jh h hv)
theorem F9 {t:Ty} {b:AV} {x:El t} (h:Ca t b=some x):t.one=true:=by
 cases t<;>first|rfl|cases h
theorem qX (hs:HS cx bs w S H) {s:ZS} {b:AV} {x:ZV s} {ids:List (Option Nat)} {v:Value} (h:Pe H s b=some (x,ids)) (hv:VR bs w S b v) (n:Nat) : ∃us,Re bs H ids (tM n s x).2 us/\∀aD,u4 aD us n->VR aD w S (tM n s x).1 v/\eW aD w S (tM n s x).2 us:=by
 cases s with
 | d t=>
  have h:(Ca t b).map (λx=>(x,([]:List (Option Nat))))=some (x,ids):=h;cases e:Ca t b with
  | none=>rw[e] at h;cases h
  | some y=>
   rw[e] at h;injection h with h
   injection h with h1 h2
   subst h1 h2;exact⟨[],.nil,λaD _=>⟨Lj (F9 e) e hv,λj y u hy=>by cases hy⟩⟩
 | own t e=>
  replace h:K4 H t e b=some (x,ids):=h;unfold K4 at h;split at h
  ·rename_i o;split at h
   ·rename_i t' e' rs hH;split at h
    ·rename_i ee;subst ee;cases hu:gd t (.list t' rs false) with
     | none=>rw[hu] at h;cases h
     | some rs'=>
      rw[hu] at h;injection h with h
      injection h with h1 h2
      subst h1 h2;have:∃q:t'=t,rs'=q▸rs:=by
       unfold gd at hu;simp only at hu;split at hu
       ·rename_i q _;injection hu with hu
        exact⟨q.down,hu.symm⟩
       ·cases hu
      obtain⟨q,rfl⟩:=this;subst q;obtain⟨hb,dh⟩:=hv;refine⟨[v],.sm hH hb (λ_ h=>h) .nil,λaD jH=>⟨⟨jH 0 v rfl,dh⟩,λj y u hy hu=>?_⟩⟩;cases j with
      | zero=>injection hy with hy;injection hu with hu;subst hy hu;exact hs.o o _ _ hH hb
      | succ j=>cases hy
    ·cases h
   ·cases h
  ·injection h with h
   injection h with h1 h2
   subst h1 h2;obtain⟨rfl,_⟩:=hv;refine⟨[.slice none 0 0],.nn (λ_ h=>by cases h) .nil,λaD jH=>⟨⟨jH 0 _ rfl,_,_,_,rfl⟩,λj y u hy hu=>?_⟩⟩;cases j with
   | zero=>injection hy with hy;injection hu with hu;subst hy hu;exact Own.nil' w S (λb q=>(hs.s b q).1) 0 e
   | succ j=>cases hy
  ·cases h
 | any=>
  have fin:∀{us:List Value},us=[v]->∀aD,u4 aD us n->VR aD w S (.any n) v/\eW aD w S [.dead] us:=by
   rintro us rfl aD jH;refine⟨⟨jH 0 v rfl,hv.one⟩,λj y u hy hu=>?_⟩;cases j with
   | zero=>injection hy with hy;subst hy;exact trivial
   | succ j=>cases hy
  replace h:Sk b=some (x,ids):=h;unfold Sk at h;split at h
  ·rename_i o;injection h with h
   injection h with h1 h2
   subst h2;have ho:o<H.length:=by rw[<-hs.len];exact(List.getElem?_eq_some_iff.1 hv.1).1
   exact⟨[v],.sm (List.getElem?_eq_getElem ho) hv.1 (λ_ h=>by cases h) .nil,fin rfl⟩
  ·injection h with h
   injection h with h1 h2
   subst h2;exact⟨[v],.nn (λ_ h=>by cases h) .nil,fin rfl⟩
theorem xH (hs:HS cx bs w S H):∀{l:List ZS} {qs:List AV} {x:sJ l} {ids:List (Option Nat)} {vs:List Value},tv H l qs=some (x,ids)->F2 (VR bs w S) qs vs->∀n, ∃us,Re bs H ids (k8 n l x).2 us/\∀aD,u4 aD us n->F2 (VR aD w S) (k8 n l x).1 vs/\eW aD w S (k8 n l x).2 us
 | [],[],x,ids,_,h,hv,n=>by cases hv;injection h with h;injection h with h1 h2;subst h1 h2;exact⟨[],.nil,λ_ _=>⟨.nil,λj y u hy=>by cases hy⟩⟩
 | s::l,b::qs,x,ids,_,h,hv,n=>by
  cases hv with
  | cons h1 h2=>
   unfold tv at h;split at h
   ·rename_i p q hp hq;injection h with h
    injection h with e1 e2
    subst e1 e2;obtain⟨OK,r1,k1⟩:=qX hs (x:=p.1) (ids:=p.2) hp h1 n;obtain⟨OJ,r2,k2⟩:=xH hs (x:=q.1) (ids:=q.2) hq h2 (n+(tM n s p.1).2.length);refine⟨OK++OJ,r1.append r2,λaD jH=>?_⟩;obtain⟨v1,o1⟩:=k1 aD jH.left;obtain⟨v2,o2⟩:=k2 aD (by have:=jH.right;rw[r1.len.2] at this;exact this);exact⟨.cons v1 v2,o1.append o2 r1.len.2⟩
   ·cases h
 | [],_::_,_,_,_,h,_,_=>by cases h
 | _::_,[],_,_,_,h,_,_=>by cases h
theorem CZ (hs:HS cx bs w S H) {s:CS} {b:AV} {x:CV s} {ids:List (Option Nat)} {v:Value} (h:NM H s b=some (x,ids)) (hv:VR bs w S b v) (n:Nat) : ∃us,Re bs H ids (me n s x).2 us/\∀aD,u4 aD us n->VR aD w S (me n s x).1 v/\eW aD w S (me n s x).2 us:=by
 cases s with
 | d t=>exact qX hs (s:=.d t) h hv n
 | own t e=>exact qX hs (s:=.own t e) h hv n
 | any=>exact qX hs (s:=.any) h hv n
 | zc t tn e=>
  replace h:zR H t tn e b=some (x,ids):=h;unfold zR at h;split at h
  ·rename_i o;split at h
   ·rename_i e' t' Cf dQ done rest hH;split at h
    ·rename_i q q' _ _;obtain⟨q⟩:=q;obtain⟨q'⟩:=q';subst q q';split at h
     ·rename_i ee;subst ee;injection h with h
      injection h with h1 h2
      subst h1 h2;obtain⟨hb,dh⟩:=hv;refine⟨[v],.sm hH hb (λ_ h=>h) .nil,λaD jH=>⟨⟨jH 0 v rfl,dh⟩,λj y u hy hu=>?_⟩⟩;cases j with
      | zero=>injection hy with hy;injection hu with hu;subst hy hu;exact hs.o o _ _ hH hb
      | succ j=>cases hy
     ·cases h
    ·cases h
   ·cases h
  ·cases h
 | zip t tn e zs=>
  replace h:pf H t tn e zs b=some (x,ids):=h;unfold pf at h;split at h
  ·rename_i o;split at h
   ·rename_i o2 e' t' Cf dQ done cur rest hH;split at h
    ·rename_i q q' p _ _ hp;obtain⟨q⟩:=q;obtain⟨q'⟩:=q';subst q q';split at h
     ·rename_i ee;subst ee;injection h with h
      injection h with h1 h2
      subst h1 h2;obtain⟨hb,dh⟩:=hv;obtain⟨aO,ho,hz,hl,u,nG,kR,P5⟩:=hs.o o _ _ hH hb;have hr:aO[done.length]?=some (aO[done.length]'(by rw[hz.1];exact hl)):=List.getElem?_eq_getElem _;have hf:=(hz.2 _ _ hr).2.1 rfl;obtain⟨us,r1,k1⟩:=xH hs (x:=p.1) (ids:=p.2) hp hf (n+2);have FU:o2<H.length:=by rw[<-hs.len];exact(List.getElem?_eq_some_iff.1 nG).1
      refine⟨v::u::us,.sm hH hb (λ_ h=>h) (.sm (List.getElem?_eq_getElem FU) nG (λ_ h=>by cases h) r1),λaD jH=>?_⟩;have Et:u4 aD us (n+2):=λj u' hj=>by
       have:=jH (j+2) u' (by simpa using hj)
       rwa [show n+(j+2)=n+2+j by omega] at this
      obtain⟨v1,o1⟩:=k1 aD Et;refine⟨⟨jH 0 v rfl,dh⟩,λj y u' hy t8=>?_⟩;cases j with
      | zero=>
       injection hy with hy;injection t8 with t8;subst hy t8
       refine⟨aO,ho,⟨hz.1,λj r hj=>?_⟩,hl,u,jH 1 u rfl,kR,P5⟩;obtain⟨z1,z2,z3⟩:=hz.2 j r hj;refine⟨z1,λe=>?_,z3⟩;subst e;rw[hr] at hj;obtain rfl:=Option.some.inj hj;exact v1
      | succ j=>
       cases j with
       | zero=>injection hy with hy;subst hy;exact trivial
       | succ j=>exact o1 j y u' (List.getElem?_cons_succ.symm.trans (List.getElem?_cons_succ.symm.trans hy)) (List.getElem?_cons_succ.symm.trans (List.getElem?_cons_succ.symm.trans t8))
     ·cases h
    ·cases h
   ·cases h
  ·cases h
 | mp kt t=>
  replace h:zV H kt t b=some (x,ids):=h;unfold zV at h;split at h
  ·rename_i o;split at h
   ·rename_i fU t' m f hH;split at h
    ·rename_i q _;obtain⟨q⟩:=q;injection q with q1 q2
     subst q1 q2;injection h with h
     injection h with h1 h2
     subst h1 h2;obtain⟨hb,hm⟩:=hv;refine⟨[v],.sm hH hb (λ_ h=>h) .nil,λaD jH=>⟨⟨jH 0 v rfl,hm⟩,λj y u hy hu=>?_⟩⟩;cases j with
     | zero=>injection hy with hy;injection hu with hu;subst hy hu;exact hs.o o _ _ hH hb
     | succ j=>cases hy
    ·cases h
   ·cases h
  ·cases h
 | mr kt t e=>
  replace h:zU H kt t e b=some (x,ids):=h;unfold zU at h;split at h
  ·rename_i p;split at h
   ·rename_i q hP;split at h
    ·rename_i p' fU t' e' m f hQ;split at h
     ·rename_i q' _;obtain⟨q'⟩:=q';injection q' with q1 q2
      injection q2 with q2
      subst q1 q2;split at h
      ·rename_i ee;obtain⟨rfl,rfl⟩:=ee;injection h with h
       injection h with h1 h2
       subst h1 h2;obtain⟨hb,b0,rfl⟩:=hv;have AB:q<bs.length:=by rw[hs.len];exact(List.getElem?_eq_some_iff.1 hQ).1
       have AK:=List.getElem?_eq_getElem AB;refine⟨[.map (some b0),bs[q]],.sm hP hb (λ_ h=>h) (.sm hQ AK (λ_ h=>h) .nil),λaD jH=>⟨⟨jH 0 _ rfl,_,rfl⟩,λj y u hy hu=>?_⟩⟩;cases j with
       | zero=>injection hy with hy;injection hu with hu;subst hy hu;exact⟨_,rfl⟩
       | succ j=>
        cases j with
        | zero=>
         injection hy with hy;injection hu with hu;subst hy hu
         obtain⟨b,l,g,e1,h1,hr⟩:=hs.o q _ _ hQ AK;rw[hb] at h1;injection h1 with h1
         injection h1 with h1
         injection h1 with h1
         subst h1;exact⟨_,l,g,e1,jH 0 _ rfl,hr⟩
        | succ j=>cases hy
      ·cases h
     ·cases h
    ·cases h
   ·cases h
  ·cases h
theorem xM (hs:HS cx bs w S H):∀{l:List CS} {qs:List AV} {x:eX l} {ids:List (Option Nat)} {vs:List Value},oN H l qs=some (x,ids)->F2 (VR bs w S) qs vs->∀n, ∃us,Re bs H ids (lh n l x).2 us/\∀aD,u4 aD us n->F2 (VR aD w S) (lh n l x).1 vs/\eW aD w S (lh n l x).2 us
 | [],[],x,ids,_,h,hv,n=>by cases hv;injection h with h;injection h with h1 h2;subst h1 h2;exact⟨[],.nil,λ_ _=>⟨.nil,λj y u hy=>by cases hy⟩⟩
 | s::l,b::qs,x,ids,_,h,hv,n=>by
  cases hv with
  | cons h1 h2=>
   unfold oN at h;split at h
   ·rename_i p q hp hq;injection h with h
    injection h with e1 e2
    subst e1 e2;obtain⟨OK,r1,k1⟩:=CZ hs (x:=p.1) (ids:=p.2) hp h1 n;obtain⟨OJ,r2,k2⟩:=xM hs (x:=q.1) (ids:=q.2) hq h2 (n+(me n s p.1).2.length);refine⟨OK++OJ,r1.append r2,λaD jH=>?_⟩;obtain⟨v1,o1⟩:=k1 aD jH.left;obtain⟨v2,o2⟩:=k2 aD (by have:=jH.right;rw[r1.len.2] at this;exact this);exact⟨.cons v1 v2,o1.append o2 r1.len.2⟩
   ·cases h
 | [],_::_,_,_,_,h,_,_=>by cases h
 | _::_,[],_,_,_,h,_,_=>by cases h
theorem GI (hs:HS cx bs w S H) {s:SS} {b:XV} {x:SW s} {ids:List (Option Nat)} {v:Value} (h:GJ H s b=some (x,ids)) (hv:XR bs w S b v) (NZ:s.isSb=false) (n:Nat) : ∃us,Re bs H ids (oC n s x).2 us/\∀aD,u4 aD us n->XR aD w S (oC n s x).1 v/\eW aD w S (oC n s x).2 us:=by
 cases s with
 | c s=>
  replace h:YH H s b=some (x,ids):=h;cases b with
  | one c=>exact CZ hs (s:=s) (x:=x) h hv n
  | _=>cases h
 | st k=>
  replace h:YG k b=some (x,ids):=h;cases b with
  | agg cs=>
   replace h:(un (.st k) cs).map (λx=>(x,([]:List (Option Nat))))=some (x,ids):=h;cases e:un (.st k) cs with
   | none=>rw[e] at h;cases h
   | some y=>
    rw[e] at h;injection h with h
    injection h with h1 h2
    subst h1 h2;obtain⟨vs,rfl,hf⟩:=hv;exact⟨[],.nil,λaD _=>⟨⟨vs,rfl,fZ (gQ e hf)⟩,λj y u hy=>by cases hy⟩⟩
  | _=>cases h
 | box ty cs=>
  replace h:NN H ty cs b=some (x,ids):=h;unfold NN at h;split at h
  ·rename_i o;split at h
   ·rename_i jP qs hH;split at h
    ·rename_i ee;subst ee;cases hu:oN H cs qs with
     | none=>rw[hu] at h;cases h
     | some p=>
      rw[hu] at h;injection h with h
      injection h with h1 h2
      subst h1 h2;obtain⟨g,hb,rfl⟩:=hv;obtain⟨g',vs,e2,hk,hf⟩:=hs.o o _ _ hH hb;obtain⟨us,r1,k1⟩:=xM hs (x:=p.1) (ids:=p.2) hu hf (n+1);refine⟨.pointer (some ⟨g,0,none⟩)::us,.sm hH hb (λ_ h=>h) r1,λaD jH=>?_⟩;have Et:u4 aD us (n+1):=λj u hj=>by
       have:=jH (j+1) u (by simpa using hj)
       rwa [show n+(j+1)=n+1+j by omega] at this
      obtain⟨v1,o1⟩:=k1 aD Et;refine⟨⟨g,jH 0 _ rfl,rfl⟩,λj y u hy hu=>?_⟩;cases j with
      | zero=>injection hy with hy;injection hu with hu;subst hy hu;exact⟨g',vs,e2,hk,v1⟩
      | succ j=>exact o1 j y u (List.getElem?_cons_succ.symm.trans hy) (List.getElem?_cons_succ.symm.trans hu)
    ·cases h
   ·cases h
  ·cases h
 | fn k=>
  replace h:K5 k b=some (x,ids):=h;unfold K5 at h;split at h
  ·rename_i j a b';split at h
   ·rename_i e;obtain⟨rfl,ea,eb⟩:=e;injection h with h
    injection h with h1 h2
    subst h2;obtain rfl:=Array.eq_empty_of_size_eq_zero ea;obtain rfl:=Array.eq_empty_of_size_eq_zero eb;exact⟨[],.nil,λaD _=>⟨hv,λj y u hy=>by cases hy⟩⟩
   ·cases h
  ·cases h
 | sb o o2=>cases NZ
 | cl k t=>
  replace h:K6 k t b=some (x,ids):=h;unfold K6 at h;split at h
  ·split at h
   ·rename_i q _;obtain⟨q⟩:=q;subst q;split at h
    ·rename_i e;subst e;injection h with h
     injection h with h1 h2
     subst h1 h2;exact⟨[],.nil,λaD _=>⟨hv,λj y u hy=>by cases hy⟩⟩
    ·cases h
   ·cases h
  ·cases h
 | rf k=>
  replace h:K2 k b=some (x,ids):=h;unfold K2 at h;split at h
  ·split at h
   ·rename_i q _;obtain⟨q⟩:=q;subst q;injection h with h
    injection h with h1 h2
    subst h1 h2;exact⟨[],.nil,λaD _=>⟨hv,λj y u hy=>by cases hy⟩⟩
   ·cases h
  ·cases h
theorem K1 (hs:HS cx bs w S H) {s:SS} {b:XV} {x:SW s} {ids:List (Option Nat)} {v:Value} (h:GJ H s b=some (x,ids)) (hv:XR bs w S b v) (n:Nat) : ∃us,Re bs H ids (oC n s x).2 us/\∀aD,u4 aD us n->(∀o o2 o' q,s=.sb o o2->b=.one (.sub o' q 0)->aD[o2]?=bs[q]?)->XR aD w S (oC n s x).1 v/\eW aD w S (oC n s x).2 us:=by
 cases hb:s.isSb with
 | false=>obtain⟨us,r,k⟩:=GI hs h hv hb n;exact⟨us,r,λaD jH _=>k aD jH⟩
 | true=>
  cases s with
  | sb o o2=>
   replace h:KZ b=some (x,ids):=h;unfold KZ at h;split at h
   ·rename_i o' q;injection h with h
    injection h with h1 h2
    subst h2;obtain⟨g,p,q1,q2⟩:=hv;exact⟨[],.nil,λaD _ FS=>⟨⟨g,p,(FS o o2 o' q rfl rfl).trans q1,q2⟩,λj y u hy=>by cases hy⟩⟩
   ·cases h
  | _=>cases hb
def RA (bs aD:List Value) (env:Env) (l:List (Nat×SS)):Prop:=∀t o o2 o' q,(t,SS.sb o o2)∈l->env.lookup t=some (.one (.sub o' q 0))->aD[o2]?=bs[q]?
theorem xJ {l:List (Nat×SS)} {r:aG l×List (Option Nat)} (h:tw H env l=some r):xL H env l=some r/\∀bs aD,RA bs aD env l:=by
 unfold tw at h;split at h
 ·rename_i hl;refine⟨h,λbs aD t o o2 o' q hm=>?_⟩;have:=List.all_eq_true.1 hl _ hm;cases this
 ·cases h
theorem qY (hs:HS cx bs w S H) (he:ER m bs w S env a):∀{l:List (Nat×SS)} {x:aG l} {ids:List (Option Nat)},xL H env l=some (x,ids)->∀n, ∃us,Re bs H ids (lg n l x).2 us/\∀aD,u4 aD us n->RA bs aD env l->(∀t y,(t,y)∈(lg n l x).1->∃v,a.tmps[t]?=some v/\XR aD w S y v)/\eW aD w S (lg n l x).2 us
 | [],x,ids,h,n=>by injection h with h;injection h with h1 h2;subst h1 h2;exact⟨[],.nil,λ_ _ _=>⟨(λ_ _ h=>by cases h),λj y u hy=>by cases hy⟩⟩
 | p::l,x,ids,h,n=>by
  unfold xL at h;split at h
  ·rename_i q r hq hr;injection h with h
   injection h with e1 e2
   subst e1 e2;cases e:env.lookup p.1 with
   | none=>rw[e] at hq;cases hq
   | some y=>
    rw[e] at hq;obtain⟨v,hv,hx⟩:=he.k _ _ (fR e);obtain⟨OK,r1,k1⟩:=K1 hs (x:=q.1) (ids:=q.2) hq hx n;obtain⟨OJ,r2,k2⟩:=qY hs he (x:=r.1) (ids:=r.2) hr (n+(oC n p.2 q.1).2.length);refine⟨OK++OJ,r1.append r2,λaD jH FS=>?_⟩;obtain⟨v1,o1⟩:=k1 aD jH.left λo o2 o' q e1 e2=>FS p.1 o o2 o' q (by rw[<-e1];exact List.mem_cons_self) (by rw[e,e2]);obtain⟨v2,o2⟩:=k2 aD (by have:=jH.right;rw[r1.len.2] at this;exact this) λt o o2 o' q hm=>FS t o o2 o' q (List.mem_cons_of_mem _ hm);refine⟨λt y hy=>?_,o1.append o2 r1.len.2⟩;rcases List.mem_cons.1 hy with e3|hy
    ·injection e3 with e3 e4
     subst e3 e4;exact⟨v,hv,v1⟩
    ·exact v2 t y hy
  ·cases h
theorem sE {x y:aa} {v:Value} {b:Nat} (h:∀c,Bk y v c->Bk x v c) (hb:Bk y v b):Bk x v b:=h b hb
theorem iI {st:bT} {l:List (Nat×SS)} {x:aG l} (h:jp cx.pb l st=some x) (hs:HS cx bs w S st.heap) (he:ER m bs w S st.env a):∃us,HS cx us w S (bB l x).heap/\ER m us w S (bB l x).env a:=by
 unfold jp at h;cases e:xL st.heap st.env l with
 | none=>rw[e] at h;cases h
 | some p=>
  rw[e] at h;have h:(if t3 cx.pb p.2&&OW st.env p.2 l then some p.1 else none)=some x:=h;split at h
  ·rename_i hid;rw[Bool.and_eq_true] at hid;obtain⟨hid,U3⟩:=hid;injection h with h
   subst h;obtain⟨us,r,k⟩:=qY hs he (x:=p.1) (ids:=p.2) e 0;have hlen:=r.len;obtain⟨k1,k2⟩:=k us (λj u hj=>by rw[Nat.zero_add];exact hj) λt o o2 o' q hm hl=>by
    have:=List.all_eq_true.1 U3 _ hm;simp only[hl,beq_iff_eq] at this;have hi:o2<(lg 0 l p.1).2.length:=by rw[<-hlen.1];exact(List.getElem?_eq_some_iff.1 this).1
    have hu:o2<us.length:=by rw[hlen.2];exact hi
    rcases r.get o2 _ _ (List.getElem?_eq_getElem hi) (List.getElem?_eq_getElem hu) with⟨o3,x1,q1,q2,q3,q4⟩|⟨q1,_⟩
    ·rw[this] at q1;injection q1 with q1
     injection q1 with q1
     subst q1;rw[q3,List.getElem?_eq_getElem hu]
    ·rw[this] at q1;cases q1
   unfold t3 at hid;rw[Bool.and_eq_true] at hid;obtain⟨Qy,VA⟩:=hid;refine⟨us,⟨hlen.2,λi y v hy hv=>k2 i y v hy hv,?_,?_,hs.s,hs.s0,hs.os,hs.tape,hs.output,hs.size,hs.old,?_⟩,he.d,he.s,k1⟩
   ·intro i j y z u v b oE hy hu hz hv bp bQ;rcases r.get i y u hy hu with⟨o,x1,q1,q2,q3,q4⟩|⟨_,q⟩
    ·rcases r.get j z v hz hv with⟨o',x2,q5,q6,q7,q8⟩|⟨_,q⟩
     ·refine hs.ap o o' x1 x2 u v b (λeo=>?_) q2 q3 q6 q7 (sE q4 bp) (sE q8 bQ);subst eo;have hi:i<p.2.length:=(List.getElem?_eq_some_iff.1 q1).1;have hj:j<p.2.length:=(List.getElem?_eq_some_iff.1 q5).1;rcases Nat.lt_or_gt_of_ne oE with hlt|hlt
      ·have:=List.all_eq_true.1 (List.all_eq_true.1 Qy j (List.mem_range.2 hj)) i (List.mem_range.2 hlt);rw[q1,q5] at this;simp at this
      ·have:=List.all_eq_true.1 (List.all_eq_true.1 Qy i (List.mem_range.2 hi)) j (List.mem_range.2 hlt);rw[q1,q5] at this;simp at this
     ·exact absurd bQ (q b)
    ·exact absurd bp (q b)
   ·intro i y u b hy hu hb;rcases r.get i y u hy hu with⟨o,x1,q1,q2,q3,q4⟩|⟨_,q⟩
    ·exact hs.nw o x1 u b q2 q3 (sE q4 hb)
    ·exact absurd hb (q b)
   ·intro i g hip hg hg2;have hp:=List.all_eq_true.1 VA i hip;have hp:p.2[i]?=some (some i):=by simpa using hp
    have hi:i<(lg 0 l p.1).2.length:=by rw[<-hlen.1];exact(List.getElem?_eq_some_iff.1 hp).1
    have hu:i<us.length:=by rw[hlen.2];exact hi
    rcases r.get i _ _ (List.getElem?_eq_getElem hi) (List.getElem?_eq_getElem hu) with⟨o,x1,q1,q2,q3,q4⟩|⟨q,_⟩
    ·rw[hp] at q1;injection q1 with q1
     injection q1 with q1
     subst q1;have:=hs.an i g hip hg hg2;rw[q3] at this;rw[List.getElem?_eq_getElem hu];exact this
    ·rw[hp] at q;cases q
  ·cases h
theorem mj {st:bT} {l:List (Nat×SS)} {x:aG l} (h:jp cx.pb l st=some x) (aY:cP m cx st a w):cP m cx (bB l x) a w:=by
 obtain⟨bs,S,hs,he⟩:=aY;obtain⟨us,q1,q2⟩:=iI h hs he;exact⟨us,S,q1,q2⟩
def Yl:(t:Ty)->El t->Prop
 | .list _,xs=>xs.length<=9223372036854775807
 | _,_=>True
def Yn:(s:CS)->CV s->Prop
 | .d t,x=>Yl t x
 | .own _ _,rs=>rs.length<=9223372036854775807
 | .any,_=>True
 | .zc _ _ _,_=>True
 | .zip _ _ _ _,_=>True
 | .mp _ _,_=>True
 | .mr _ _ _,_=>True
def Ym:(ts:List Ty)->yZ ts->Prop
 | [],_=>True
 | t::ts,x=>Yl t x.1/\Ym ts x.2
def NH:(l:List CS)->eX l->Prop
 | [],_=>True
 | s::l,x=>Yn s x.1/\NH l x.2
def BdS:(s:SS)->SW s->Prop
 | .c s,x=>Yn s x
 | .st k,x=>Ym (lZ k) (tf k x)
 | .box _ cs,x=>NH cs x
 | .fn _,_=>True
 | .rf _,_=>True
 | .cl _ _,_=>True
 | .sb _ _,_=>True
def xe:(l:List (Nat×SS))->aG l->Prop
 | [],_=>True
 | p::l,x=>BdS p.2 x.1/\xe l x.2
theorem CL {α:Type} (x:List α):x.length<=x.reverse.length:=by simp
theorem Fo {us:List Value} {t:Ty} {x:El t} {v:Value} (hx:VR us w S (one t x) v):Yl t x:=by
 cases t with
 | list t=>
  obtain⟨A,q,c,_,hr,_⟩:=hx;show List.length (α:=El t) x<=_;rw[hr.len];exact hr.max
 | _=>exact trivial
theorem Fs {us:List Value} {n:Nat} {s:CS} {x:CV s} {v:Value} (hx:VR us w S (me n s x).1 v) (ho:∀(j:Nat) (y:aa) (u:Value),(me n s x).2[j]?=some y->us[n+j]?=some u->OR us w S y u):Yn s x:=by
 cases s with
 | d t=>exact Fo hx
 | own t e=>
  obtain⟨hb,A,q,c,e1⟩:=hx;have h1:Own (α:=El t) w S 0 e v (List.reverse (α:=El t) x):=ho 0 _ v rfl (by rw[Nat.add_zero];exact hb);obtain⟨cs,⟨_,h2⟩,_⟩:=h1;show List.length (α:=El t) x<=_;rcases h2 with⟨_,h2⟩|⟨g,cap,cur,_,_,_,h3,h4,_⟩
  ·exact Nat.le_trans (CL (α:=El t) x) (Nat.le_trans (Nat.le_of_eq h2) (by decide))
  ·unfold maxLen at h4;exact Nat.le_trans (CL (α:=El t) x) (Nat.le_trans h3 h4)
 | any=>exact trivial
 | zc t tn e=>exact trivial
 | zip t tn e zs=>exact trivial
 | mp kt t=>exact trivial
 | mr kt t e=>exact trivial
theorem Fq {us:List Value}:∀{ts:List Ty} {x:yZ ts} {vs:List Value},F2 (VR us w S) (yH ts x) vs->Ym ts x
 | [],_,_,_=>trivial
 | t::ts,x,vs,h=>by
  cases h with
  | cons h1 h2=>exact⟨Fo h1,Fq h2⟩
theorem yU {us:List Value}:∀{l:List CS} {x:eX l} {n:Nat} {vs:List Value},F2 (VR us w S) (lh n l x).1 vs->(∀(j:Nat) (y:aa) (u:Value),(lh n l x).2[j]?=some y->us[n+j]?=some u->OR us w S y u)->NH l x
 | [],_,_,_,_,_=>trivial
 | s::l,x,n,vs,h,ho=>by
  cases h with
  | cons h1 h2=>
   refine⟨Fs h1 λj y u hy hu=>ho j y u (by
    show((me n s x.1).2++_)[j]?=_;rw[List.getElem?_append_left (List.getElem?_eq_some_iff.1 hy).1];exact hy) hu,yU (n:=n+(me n s x.1).2.length) h2 λj y u hy hu=>ho ((me n s x.1).2.length+j) y u ?_ (by rw[<-Nat.add_assoc];exact hu)⟩
   show((me n s x.1).2++_)[_]?=_;rw[List.getElem?_append_right (by omega),Nat.add_sub_cancel_left];exact hy
theorem Nl {us:List Value} {n:Nat} {s:SS} {x:SW s} {v:Value} (hx:XR us w S (oC n s x).1 v) (ho:∀(j:Nat) (y:aa) (u:Value),(oC n s x).2[j]?=some y->us[n+j]?=some u->OR us w S y u):BdS s x:=by
 cases s with
 | c s=>exact Fs hx ho
 | st k=>obtain⟨vs,_,h⟩:=hx;exact Fq h
 | box ty cs=>
  obtain⟨g,h1,_⟩:=hx;obtain⟨_,vs,_,_,h2⟩:=ho 0 _ _ rfl (by rw[Nat.add_zero];exact h1);exact yU (n:=n+1) h2 λj y u hy hu=>ho (j+1) y u hy (by rw[show n+(j+1)=n+1+j by omega];exact hu)
 | fn k=>exact trivial
 | rf k=>exact trivial
 | cl k t=>exact trivial
 | sb o o2=>exact trivial
theorem Fp {us:List Value}:∀{l:List (Nat×SS)} {x:aG l} {n:Nat},(∀t y,(t,y)∈(lg n l x).1->∃v,XR us w S y v)->(∀(j:Nat) (y:aa) (u:Value),(lg n l x).2[j]?=some y->us[n+j]?=some u->OR us w S y u)->xe l x
 | [],_,_,_,_=>trivial
 | p::l,x,n,h1,h2=>by
  obtain⟨v,hv⟩:=h1 _ _ List.mem_cons_self;refine⟨Nl (n:=n) hv λj y u hy hu=>h2 j y u (by
   show((oC n p.2 x.1).2++_)[j]?=_;rw[List.getElem?_append_left (List.getElem?_eq_some_iff.1 hy).1];exact hy) hu,Fp (n:=n+(oC n p.2 x.1).2.length) (λt y hy=>h1 t y (List.mem_cons_of_mem _ hy)) λj y u hy hu=>?_⟩
  refine h2 ((oC n p.2 x.1).2.length+j) y u ?_ (by rw[<-Nat.add_assoc];exact hu);show((oC n p.2 x.1).2++_)[_]?=_;rw[List.getElem?_append_right (by omega),Nat.add_sub_cancel_left];exact hy
theorem Fl {l:List (Nat×SS)} {x:aG l} (h:cP m cx (bB l x) a w):xe l x:=by
 obtain⟨us,S,hs,he⟩:=h;exact Fp (n:=0) (λt y hy=>let ⟨v,_,hx⟩:=he.k t y hy;⟨v,hx⟩) λj y u hy hu=>hs.o j y u hy (by rwa [Nat.zero_add] at hu)
end
end Go.Proofs.YtichkplomldgiaaGreatDoor
