/- MRun1 MRun2 MSpec -/
import Derived.Test.YtdbpbfglhbiadaaGreatDoorF00
import Derived.Test.YtdbpbfglhbiadaaGreatDoorF26
import Derived.Deep.LoopGhost
set_option maxHeartbeats 8000000
set_option maxRecDepth 100000
namespace Go.Proofs.YtdbpbfglhbiadaaGreatDoor
open Go Go.RowKit
structure akZ (P:Program) where
 ty:TypeId->Option Ty
 D:List (Sm P)
 isP:IsP P
def xH (m:Nat) (o:Oper):Bool:=match o.dst with
 | some t=>decide (t<m)
 | none=>true
def vi (Hv Hf:List ah):Prop:=Hv.length=Hf.length/\∀(i:Nat) (x:ah),Hv[i]?=some x->x=.dead\/Hf[i]?=some x
structure gb (P:Program) extends akZ P where
 eff:Oper->Bool
 x:Nat->Oper->dw->T dw
 xok:∀(m:Nat) (o:Oper) (cx:Cx) (st cQ:dw) (a:Act) (w:World) (K:Act->World->Prop) (Q:Exit->Act->World->Prop),eff o=true->xH m o=true->(x m o st).hit cQ->eO m cx st a w->(∀a' w',eO m cx cQ a' w'->K a' w')->o.wp P a w K Q
 d:Oper->Env->List ah->T (XV×List (Nat×ah))
 dok:∀(m:Nat) (o:Oper) (cx:Cx) (bs:List Value) (S:Nat->Prop) (env:Env) (Hv Hf:List ah) (a:Act) (w:World) (r:XV×List (Nat×ah)) (K:Act->World->Prop) (Q:Exit->Act->World->Prop),eff o=true->vi Hv Hf->HS cx bs w S Hf->ER m bs w S env a->(d o env Hv).hit r->(∀v w' S',HS cx bs w' S' (ig r.2 Hf)->(∀b,S b->S' b)->aw S w w'->XR bs w' S' r.1 v->K (a.put o.dst v) w')->o.wp P a w K Q
def TD (H:List ah):Option ah->List ah
 | none=>H
 | some x=>H++[x]
def vW (o:Oper) (st:dw):dw:=match o.op with
 | .buildSlice _ _ ps=>match ka st.env ps.toList with
  | some l=>(tL l).foldl (λst i=>SF i st) st
  | none=>st
 | _=>st
def sop {P:Program} (C:gb P) (m:Nat) (o:Oper) (st:dw):T dw:=if xH m o then if C.eff o then C.x m o st else(match o.op with
 | .store t x y=>match o.dst with
  | none=>(T.op (VC P st.heap t (ev st.env x) (ev st.env y))).bind λH=>.lf ⟨st.env,H⟩
  | some _=>.bad
 | .call { callee:=.builtin .append,args:=args,argTypes:=ts }=>match args.toList,ts.toList with
  | [s,x],[t,t']=>if t=t' then(adS P C.ty st.heap t (ev st.env s) (ev st.env x)).bind λr=>.lf ⟨oV st.env o.dst (some r.1),r.2⟩ else .bad
  | _,_=>.bad
 | .mapUpdate t x k v=>match o.dst with
  | none=>(Ww P C.ty st.heap.length (st.heap++[.dead]) t (ev st.env x) (ev st.env k) (ev st.env v)).bind λr=>.lf ⟨st.env,ig (r.1++[(st.heap.length,r.2.getD .dead)]) (st.heap++[.dead])⟩
  | some _=>.bad
 | _=>(λ(st:dw)=>(U2 C.ty C.D st.heap.length st.env st.heap o).bind λr=>.lf ⟨oV st.env o.dst (some r.1),TD st.heap r.2⟩) (vW o st)) else .bad
def wF (st:dw) (o:Oper):dw:=⟨oV st.env o.dst (some (.tup [])),st.heap⟩
def Ec (st:dw) (t:Nat) (b:Bool):dw:=⟨oV st.env (some t) (some (.one (.val (.bool b)))),st.heap⟩
def gdT (m:Nat) (ops:Array Oper) (o:Oper) (f:dw->T dw) (st:dw):T dw:=match o.guard with
 | none=>f st
 | some (j,want)=>if xH m o then(match cR ops j with
  | some t=>match st.env.lookup t with
   | some (.one (.val (.bool b)))=>if b==want then f st else .lf (wF st o)
   | some (.one (.sym (.bool b)))=>.br b (if want then f (Ec st t true) else .lf (wF (Ec st t true) o)) (if want then .lf (wF (Ec st t false) o) else f (Ec st t false))
   | some (.tup [])=>.lf (wF st o)
   | _=>.bad
  | none=>.bad) else .bad
def DK {P:Program} (C:gb P) (m:Nat) (ops:Array Oper):List Oper->dw->T dw
 | [],st=>.lf st
 | o::l,st=>(gdT m ops o (sop C m o) st).bind (DK C m ops l)
section
variable {P:Program} {o:Oper} {cx:Cx} {bs aU:List Value} {w w':World} {S:Nat->Prop} {H:List ah} {m:Nat} {env:Env} {a:Act} {bW:Nat} {K:Act->World->Prop} {Q:Exit->Act->World->Prop} {ops:Array Oper} {C:gb P} {st cQ:dw}
theorem Sz (hs:HS cx bs w S st.heap) (he:ER m bs w S st.env a) (hd:xH m o=true) {r:XV×Option ah} (h:iw P o bs w S a st.heap.length r) (hK:∀a' w',eO m cx ⟨oV st.env o.dst (some r.1),TD st.heap r.2⟩ a' w'->K a' w'):o.wp P a w K Q:=by
 refine h K Q λv w' S' u hb hS hn hx hf=>hK _ _ ?_;have eY:=hs.grow hb hS hn;have xw:=he.grow hs hb hS;cases hr:r.2 with
 | none=>
  obtain⟨R0,_⟩:=hx bs (iC.refl _) (by rw[hr];intro h;cases h);exact⟨bs,S',eY,xw.put o.dst (some r.1) v hd λy hy=>by obtain rfl:=aad hy;exact R0⟩
 | some x=>
  obtain⟨R0,zI⟩:=hx (bs++[u]) (mM _ _) (by rw[hr];intro _;rw[<-hs.len,aaf (aam _)];simp);have lF:=hf x hr;have hj:(st.heap++[ah.dead])[st.heap.length]?=some .dead:=by rw[aaf (aam _)];simp
  have uz:(bs++[undef])[st.heap.length]?=some undef:=by rw[<-hs.len,aaf (aam _)];simp
  have pf:(st.heap++[ah.dead]).set st.heap.length x=st.heap++[x]:=by rw[act _ _ (aam _)];simp
  have xt:(bs++[undef]).set st.heap.length u=bs++[u]:=by rw[<-hs.len,act _ _ (aam _)];simp
  have iW:=eY.pad.fill (x:=x) (v:=u) hj uz rfl (by rw[xt];exact zI x hr) (λb fF=>⟨.inl (aao hs.size (lF b fF).1),(lF b fF).2,λi z q hz hq e=>by
   by_cases hi:i<st.heap.length
   ·rw[aai hi] at hz;rw[aai (by rw[hs.len];exact hi)] at hq;have:=(hs.o i z q hz hq).lt e;have:=(lF b fF).1;omega
   ·have h1:=(aab.1 hz).1;have e2:i=st.heap.length:=by simp at h1;omega
    subst e2;rw[hj] at hz;obtain rfl:=aad hz;cases e⟩)
  rw[pf,xt] at iW;exact⟨bs++[u],S',iW,(xw.keep (λ_ h=>h) (aw.refl _ _) (mM _ _)).put o.dst (some r.1) v hd λy hy=>by obtain rfl:=aad hy;exact R0⟩
theorem GM:∀(l:List Nat) {st:dw},eO m cx st a w->eO m cx (l.foldl (λst i=>SF i st) st) a w
 | [],_,h=>h
 | i::l,_,h=>GM l (uI (i:=i) h)
theorem QP (h:eO m cx st a w):eO m cx (vW o st) a w:=by
 unfold vW;split
 ·split
  ·exact GM _ h
  ·exact h
 ·exact h
theorem Lo (h:(sop C m o st).hit cQ) (bL:eO m cx st a w) (hK:∀a' w',eO m cx cQ a' w'->K a' w'):o.wp P a w K Q:=by
 unfold sop at h;split at h
 ·rename_i hd;split at h
  ·rename_i NN;exact C.xok m o cx st cQ a w K Q NN hd h bL hK
  obtain⟨bs,S,hs,he⟩:=bL;split at h
  ·rename_i t x y hop;split at h
   ·rename_i uD;obtain⟨H',h1,h2⟩:=T.hit_bind h;have h2:(⟨st.env,H'⟩:dw)=cQ:=h2;subst h2;exact Qr hs he hop uD (T.hit_op h1) λw' q1 q2=>hK _ _ ⟨bs,S,q1,he.keep (λ_ h=>h) q2 (iC.refl _)⟩
   ·exact h.elim
  ·rename_i args ts hop;split at h
   ·rename_i s x t t' ha ht;split at h
    ·rename_i e;subst e;obtain⟨r,h1,h2⟩:=T.hit_bind h;have h2:(⟨oV st.env o.dst (some r.1),r.2⟩:dw)=cQ:=h2;subst h2;have ha':args=#[s,x]:=by rw[<-abs (xs:=args),ha]
     have R4:ts=#[t,t]:=by rw[<-abs (xs:=ts),ht]
     rw[ha',R4] at hop;exact Tu hs he hop h1 λv w' aU q1 q2 qa q3=>hK _ _ ⟨aU,S,q1,(he.keep (λ_ h=>h) q2 qa).put o.dst (some r.1) v hd λy hy=>by obtain rfl:=aad hy;exact q3⟩
    ·exact h.elim
   ·exact h.elim
  ·rename_i t x k v hop;split at h
   ·rename_i uD;obtain⟨r,h1,h2⟩:=T.hit_bind h;have h2:(⟨st.env,_⟩:dw)=cQ:=h2;subst h2;have hpe:ER m (bs++[undef]) w S st.env a:=he.keep (λ_ h=>h) (aw.refl _ _) (mM _ _);exact Mk hs.pad hpe C.isP hop uD (by rw[aaf (aam _)];simp) (by rw[<-hs.len,aaf (aam _)];simp) h1 λw' aU q1 q2 q3 _=>hK _ _ ⟨aU,S,q1,hpe.keep (λ_ h=>h) q2 q3⟩
   ·exact h.elim
  ·have lE:eO m cx (vW o st) a w:=QP ⟨bs,S,hs,he⟩;have h:((U2 C.ty C.D (vW o st).heap.length (vW o st).env (vW o st).heap o).bind λr=>T.lf (⟨oV (vW o st).env o.dst (some r.1),TD (vW o st).heap r.2⟩:dw)).hit cQ:=h;generalize vW o st=st1 at h lE;obtain⟨bs,S,hs,he⟩:=lE;obtain⟨r,h1,h2⟩:=T.hit_bind h;have h2:(⟨oV st1.env o.dst (some r.1),TD st1.heap r.2⟩:dw)=cQ:=h2;subst h2;exact Sz hs he hd (za C.isP hs he h1) hK
 ·exact h.elim
theorem ER.lit (he:ER m bs w S env a) {t:Nat} {y:XV} {v:Value} (hv:a.tmps[t]?=some v) (hx:XR bs w S y v):ER m bs w S (oV env (some t) (some y)) a:=by
 refine⟨he.d,he.s,λu z hz=>?_⟩;rcases aas.1 hz with e|hz
 ·injection e with e1 e2
  subst e1 e2;exact⟨v,hv,hx⟩
 ·exact he.k u z (adv.1 hz).1
theorem eO.lit (h:eO m cx st a w) {t:Nat} {b c:Bool} (hl:st.env.lookup t=some (.one (.sym (.bool b)))) (hc:b=c):eO m cx (Ec st t c) a w:=by
 obtain⟨bs,S,hs,he⟩:=h;obtain⟨v,hv,hx⟩:=he.k _ _ (jO hl);obtain⟨rfl,_⟩:=hx;subst hc;exact⟨bs,S,hs,he.lit hv ⟨rfl,rfl⟩⟩
theorem eO.skip (h:eO m cx st a w) (hd:xH m o=true):eO m cx (wF st o) (a.put o.dst undef) w:=by
 obtain⟨bs,S,hs,he⟩:=h;exact⟨bs,S,hs,he.put o.dst (some (.tup [])) undef hd λy hy=>by obtain rfl:=aad hy;exact⟨[],rfl,.nil⟩⟩
theorem qf {j t:Nat} {want:Bool} (hg:o.guard=some (j,want)) (ht:cR ops j=some t) (hv:a.tmps[t]?=some undef):Region.wanted o (yielded ops a.tmps)=false:=by
 unfold Region.wanted;rw[hg];have hy:yielded ops a.tmps j=none:=by
  unfold yielded;unfold cR at ht;cases ho:ops[j]? with
  | none=>rw[ho] at ht;cases ht
  | some q=>
   rw[ho] at ht;have R4:q.dst=some t:=ht;simp[R4,hv,undef]
 simp only[hy];rfl
theorem Im (h:eO m cx st a w) {t:Nat} (hl:st.env.lookup t=some (.tup [])):a.tmps[t]?=some undef:=by
 obtain⟨bs,S,hs,he⟩:=h;obtain⟨v,hv,vs,e1,e2⟩:=he.k _ _ (jO hl);cases e2
 rw[hv,e1];rfl
theorem mV {j t:Nat} {want b:Bool} (hg:o.guard=some (j,want)) (ht:cR ops j=some t) (hv:a.tmps[t]?=some (.bool b)):Region.wanted o (yielded ops a.tmps)=(b==want):=by
 unfold Region.wanted;rw[hg];have hy:yielded ops a.tmps j=some b:=by
  unfold yielded;unfold cR at ht;cases ho:ops[j]? with
  | none=>rw[ho] at ht;cases ht
  | some q=>
   rw[ho] at ht;have R4:q.dst=some t:=ht;simp[R4,hv]
 simp only[hy];cases b<;>cases want<;>rfl
theorem Lq (h:eO m cx st a w) {t:Nat} {b:Bool} (hl:st.env.lookup t=some (.one (.sym (.bool b)))):a.tmps[t]?=some (.bool b):=by
 obtain⟨bs,S,hs,he⟩:=h;obtain⟨v,hv,hx⟩:=he.k _ _ (jO hl);obtain⟨rfl,_⟩:=hx;exact hv
theorem Lp (h:eO m cx st a w) {t:Nat} {b:Bool} (hl:st.env.lookup t=some (.one (.val (.bool b)))):a.tmps[t]?=some (.bool b):=by
 obtain⟨bs,S,hs,he⟩:=h;obtain⟨v,hv,hx⟩:=he.k _ _ (jO hl);obtain⟨rfl,_⟩:=hx;exact hv
theorem Od {f:dw->T dw} {i:Nat} (ho:ops[i]?=some o) (h:(gdT m ops o f st).hit cQ) (bL:eO m cx st a w) (hf:∀st,(f st).hit cQ->eO m cx st a w->o.wp P a w K Q) (hK:∀a' w',eO m cx cQ a' w'->K a' w'):wpOp P ops Q i K a w:=by
 have go:∀st,(f st).hit cQ->eO m cx st a w->Region.wanted o (yielded ops a.tmps)=true->wpOp P ops Q i K a w:=λst h1 h2 h3=>sR ho h3 (hf st h1 h2);have no:∀st,xH m o=true->wF st o=cQ->eO m cx st a w->Region.wanted o (yielded ops a.tmps)=false->wpOp P ops Q i K a w:=by
  intro st hd h1 h2 h3;unfold wpOp;rw[ho];simp only[h3,acg,if_false];subst h1;exact hK _ _ (h2.skip hd)
 unfold gdT at h;split at h
 ·rename_i hg;exact go st h bL (by simp[Region.wanted,hg])
 ·rename_i j want hg;split at h
  ·rename_i hd;split at h
   ·rename_i t ht;split at h
    ·rename_i b hl;have hw:=mV hg ht (Lp bL hl);split at h
     ·rename_i e;rw[e] at hw;exact go st h bL hw
     ·rename_i e;rw[Bool.not_eq_true] at e;rw[e] at hw;exact no st hd h bL hw
    ·rename_i b hl;have hw:=mV hg ht (Lq bL hl);cases b with
     | true=>
      have h:=h.1 rfl;have lE:=bL.lit hl (c:=true) rfl;cases want with
      | true=>exact go _ h lE hw
      | false=>exact no _ hd h lE hw
     | false=>
      have h:=h.2 rfl;have lE:=bL.lit hl (c:=false) rfl;cases want with
      | true=>exact no _ hd h lE hw
      | false=>exact go _ h lE hw
    ·rename_i hl;exact no st hd h bL (qf hg ht (Im bL hl))
    ·exact h.elim
   ·exact h.elim
  ·exact h.elim
theorem yi:∀(l:List Oper) (i:Nat) {st:dw} {a:Act} {w:World},ops.toList.drop i=l->(DK C m ops l st).hit cQ->eO m cx st a w->(∀a' w',eO m cx cQ a' w'->Q .normal a' w')->wpOps P ops Q (List.range' i l.length) a w
 | [],i,st,a,w,hl,h,bL,hQ=>by
  have h:st=cQ:=h;subst h;exact hQ a w bL
 | o::l,i,st,a,w,hl,h,bL,hQ=>by
  obtain⟨st1,h1,h2⟩:=T.hit_bind h;have ho:ops[i]?=some o:=by
   have:=congrArg (λl:List Oper=>l[0]?) hl;simp only[acc,adX,adC,Array.getElem?_toList] at this;exact this
  have wo:ops.toList.drop (i+1)=l:=by
   rw[<-aei,hl];rfl
  rw[aar,List.range'_succ,wpOps_cons];exact Od ho h1 bL (λst q1 q2=>Lo q1 q2 λa' w' q=>yi l (i+1) wo h2 q hQ) λa' w' q=>yi l (i+1) wo h2 q hQ
theorem IC {id:Nat} (h:(DK C m ops ops.toList st).hit cQ) (bL:eO m cx st a w) (hQ:∀a' w',eO m cx cQ a' w'->Q .normal a' w'):(Code.region id ops false).wp P Q a w:=by
 refine wp_region ?_;have:=yi (C:=C) ops.toList 0 rfl h bL hQ;rw[aaD] at this;rw[List.range_eq_range'];exact this
end
inductive Lf where
 | nrm (st:dw)
 | ext (id:Nat) (st:dw)
 | ret (r:XV) (st:dw)
inductive KI where
 | code (n:Nat) (c:Code)
 | blk (id:Nat)
def jE:Code->List Code
 | .seq a b=>jE a++jE b
 | .cond _ a b=>jE a++jE b
 | .block _ b=>jE b
 | .loop b=>.loop b::jE b
 | _=>[]
def ny (id:Nat):List KI->Option (List KI)
 | []=>none
 | .blk j::ks=>if id=j then some ks else ny id ks
 | .code _ _::ks=>ny id ks
def Zl (P:Program) (fn:Func) (m:Nat) (cx:Cx) (r:XV) (st:dw) (a:Act) (w:World):Prop:=
 ∃bs S S',HS cx bs w S st.heap/\ER m bs w S st.env a/\(∀b,S' b->(cx.S0 b\/cx.w0.heap.size<=b\/cx.M b)/\b<w.heap.size)/\(cx.pb=[]\/∀b,S' b->S b)/\∃v,(results fn a.tmps).run P w=.ok v w/\XR [] w S' r v
structure Rg (P:Program) (m:Nat) where
 fn:Func
 pb:List Nat
 reg:Nat->Array Oper->Bool->dw->T dw
 ok:∀id ops dr (cx:Cx) (st cQ:dw) (a:Act) (w:World) (Q:Exit->Act->World->Prop),(reg id ops dr st).hit cQ->eO m cx st a w->(∀a' w',eO m cx cQ a' w'->Q .normal a' w')->(Code.region id ops dr).wp P Q a w
 res:dw->Option XV
 resOk:∀(cx:Cx) (st:dw) (a:Act) (w:World) (r:XV),cx.pb=pb->res st=some r->eO m cx st a w->Zl P fn m cx r st a w
def LQ (P:Program) (fn:Func) (m:Nat) (cx:Cx) (l:Lf):Exit->Act->World->Prop
 | .normal,a,w=>∃st,Lf.nrm st=l/\eO m cx st a w
 | .exit id,a,w=>∃st,Lf.ext id st=l/\eO m cx st a w
 | .ret,a,w=>∃r st,Lf.ret r st=l/\Zl P fn m cx r st a w
 | _,_,_=>False
def zD (P:Program) (fn:Func) (m:Nat) (pb:List Nat) (c:Code) (f:dw->T Lf):Prop:=∀(cx:Cx) (st:dw) (a:Act) (w:World) (l:Lf),cx.pb=pb->(f st).hit l->eO m cx st a w->c.wp P (LQ P fn m cx l) a w
structure zz (P:Program) (fn:Func) (m:Nat) (pb:List Nat) (loops:List Code) where
 f:Nat->Option (dw->T Lf)
 ok:∀(k:Nat) (g:dw->T Lf) (c:Code),f k=some g->loops[k]?=some c->zD P fn m pb c g
def OK (x:Operand) (st:dw) (f:Bool->dw->T Lf):T Lf:=match ev st.env x with
 | some (.one (.val (.bool v)))=>f v st
 | some (.one (.sym (.bool v)))=>match x with
  | .tmp t=>.br v (f true (Ec st t true)) (f false (Ec st t false))
  | _=>.bad
 | _=>.bad
section
variable {P:Program} {m:Nat} {loops:List Code} (R:Rg P m) (L:zz P R.fn m R.pb loops)
def run:Nat->List KI->dw->T Lf
 | 0,_,_=>.bad
 | _+1,[],st=>.lf (.nrm st)
 | n+1,.blk _::ks,st=>run n ks st
 | n+1,.code i c::ks,st=>match c with
  | .skip=>run n ks st
  | .label _=>run n ks st
  | .seq a b=>run n (.code i a::.code (i+(jE a).length) b::ks) st
  | .block id b=>run n (.code i b::.blk id::ks) st
  | .exit id=>match ny id ks with
   | some RL=>run n RL st
   | none=>.lf (.ext id st)
  | .ret=>(T.op (R.res st)).bind λr=>.lf (.ret r st)
  | .cond x a b=>OK x st λv st=>run n ((if v then .code i a else .code (i+(jE a).length) b)::ks) st
  | .region id ops dr=>(R.reg id ops dr st).bind (run n ks)
  | .loop b=>match L.f i with
   | some g=>(g st).bind λl=>match l with
    | .nrm cQ=>run n ks cQ
    | .ext id cQ=>match ny id ks with
     | some RL=>run n RL cQ
     | none=>.lf (.ext id cQ)
    | .ret r cQ=>.lf (.ret r cQ)
   | none=>run n (.code (i+1) b::.code i (.loop b)::ks) st
  | _=>.bad
end
def WK (P:Program) (Q:Exit->Act->World->Prop):List KI->Exit->Act->World->Prop
 | [],e,a,w=>Q e a w
 | .blk j::ks,e,a,w=>match e with
  | .exit id=>if id=j then WK P Q ks .normal a w else WK P Q ks (.exit id) a w
  | e=>WK P Q ks e a w
 | .code _ c::ks,e,a,w=>match e with
  | .normal=>c.wp P (WK P Q ks) a w
  | e=>WK P Q ks e a w
section
variable {P:Program} {Q Q':Exit->Act->World->Prop} {m:Nat} {cx:Cx} {loops:List Code} {R:Rg P m} {L:zz P R.fn m R.pb loops}
theorem WK.mono (h:∀e a w,Q e a w->Q' e a w):∀{ks:List KI} {e:Exit} {a:Act} {w:World},WK P Q ks e a w->WK P Q' ks e a w
 | [],_,_,_,hq=>h _ _ _ hq
 | .blk j::ks,e,a,w,hq=>by
  cases e with
  | exit id=>
   have hq:if id=j then WK P Q ks .normal a w else WK P Q ks (.exit id) a w:=hq
   show if id=j then WK P Q' ks .normal a w else WK P Q' ks (.exit id) a w
   split
   ·rename_i e;rw[if_pos e] at hq;exact WK.mono h hq
   ·rename_i e;rw[if_neg e] at hq;exact WK.mono h hq
  | _=>exact WK.mono (ks:=ks) h hq
 | .code i c::ks,e,a,w,hq=>by
  cases e with
  | normal=>exact wp_mono (c:=c) hq λe a w q=>WK.mono h q
  | _=>exact WK.mono (ks:=ks) h hq
theorem WK.ret:∀{ks:List KI} {a:Act} {w:World},Q .ret a w->WK P Q ks .ret a w
 | [],_,_,h=>h
 | .blk _::ks,_,_,h=>WK.ret (ks:=ks) h
 | .code _ _::ks,_,_,h=>WK.ret (ks:=ks) h
theorem WK.exit {id:Nat} {k2:List KI}:∀{k1:List KI} {a:Act} {w:World},(∀k3,ny id (k1++k2)=some (k3++k2)->(∃k0,k1=k0++.blk id::k3)->WK P Q k3 .normal a w)->(ny id (k1++k2)=ny id k2->Q (.exit id) a w)->WK P Q k1 (.exit id) a w
 | [],_,_,_,h=>h rfl
 | .blk j::ks,a,w,h1,h2=>by
  show if id=j then WK P Q ks .normal a w else WK P Q ks (.exit id) a w
  split
  ·rename_i e;subst e;exact h1 ks (by show(if id=id then some (ks++k2) else _)=_;rw[if_pos rfl]) ⟨[],rfl⟩
  ·rename_i e;have hp:ny id (.blk j::ks++k2)=ny id (ks++k2):=if_neg e;rw[hp] at h1 h2;exact WK.exit (k1:=ks) (λk3 q1 ⟨k0,q2⟩=>h1 k3 q1 ⟨.blk j::k0,by rw[q2];rfl⟩) h2
 | .code i c::ks,a,w,h1,h2=>by
  have hp:ny id (.code i c::ks++k2)=ny id (ks++k2):=rfl;rw[hp] at h1 h2;exact WK.exit (k1:=ks) (λk3 q1 ⟨k0,q2⟩=>h1 k3 q1 ⟨.code i c::k0,by rw[q2];rfl⟩) h2
def sK (loops:List Code) (ks:List KI):Prop:=∀i c,KI.code i c∈ks->∀j x,(jE c)[j]?=some x->loops[i+j]?=some x
def RQ (R:Rg P m) (L:zz P R.fn m R.pb loops) (cx:Cx) (l:Lf) (n:Nat) (k2:List KI):Exit->Act->World->Prop
 | .normal,a,w=>∃j st,j<=n/\(run R L j k2 st).hit l/\eO m cx st a w
 | .exit id,a,w=>∃j st,j<=n/\(match ny id k2 with|some k3=>(run R L j k3 st).hit l|none=>Lf.ext id st=l)/\eO m cx st a w
 | .ret,a,w=>∃r st,Lf.ret r st=l/\Zl P R.fn m cx r st a w
 | _,_,_=>False
theorem RQ.up {l:Lf} {n n':Nat} {k2:List KI} (h:n<=n'):∀e a w,RQ R L cx l n k2 e a w->RQ R L cx l n' k2 e a w:=by
 intro e a w hq;cases e with
 | normal=>obtain⟨j,st,h1,h2⟩:=hq;exact⟨j,st,aao h1 h,h2⟩
 | exit id=>obtain⟨j,st,h1,h2⟩:=hq;exact⟨j,st,aao h1 h,h2⟩
 | _=>exact hq
theorem sK.tail {ks:List KI} {x:KI} (h:sK loops (x::ks)):sK loops ks:=λi c hm=>h i c (aap _ hm)
theorem sK.cons {ks:List KI} {i:Nat} {c:Code} (h:sK loops ks) (hc:∀j x,(jE c)[j]?=some x->loops[i+j]?=some x):sK loops (.code i c::ks):=λi' c' hm j x hx=>by
 rcases aas.1 hm with e|hm
 ·injection e with e1 e2;subst e1 e2;exact hc j x hx
 ·exact h i' c' hm j x hx
theorem sK.blk {ks:List KI} {i:Nat} (h:sK loops ks):sK loops (.blk i::ks):=λi' c' hm=>by
 rcases aas.1 hm with e|hm
 ·cases e
 ·exact h i' c' hm
theorem sK.sub {k0 k1:List KI} (h:sK loops (k0++k1)):sK loops k1:=λi c hm=>h i c (adY _ hm)
theorem OJ {x:Operand} {st:dw} {f:Bool->dw->T Lf} {l:Lf} {a:Act} {w:World} {c d:Code} (h:(OK x st f).hit l) (bL:eO m cx st a w) (ht:∀st,(f true st).hit l->eO m cx st a w->c.wp P Q a w) (hf:∀st,(f false st).hit l->eO m cx st a w->d.wp P Q a w):(Code.cond x c d).wp P Q a w:=by
 unfold OK at h;split at h
 ·rename_i v hv;obtain⟨bs,S,hs,he⟩:=bL;have hx:=(bO he hv).1;cases v with
  | true=>exact wp_cond_true hx (ht st h ⟨bs,S,hs,he⟩)
  | false=>exact wp_cond_false hx (hf st h ⟨bs,S,hs,he⟩)
 ·rename_i v hv;split at h
  ·rename_i t;have hx:a.eval (.tmp t)=.bool v:=by obtain⟨bs,S,hs,he⟩:=bL;exact(bO he hv).1
   cases v with
   | true=>exact wp_cond_true hx (ht _ (h.1 rfl) (bL.lit hv rfl))
   | false=>exact wp_cond_false hx (hf _ (h.2 rfl) (bL.lit hv rfl))
  ·exact h.elim
 ·exact h.elim
theorem agp {l:Lf} (lQ:cx.pb=R.pb):∀(n:Nat) (k1 k2:List KI) (st:dw) (a:Act) (w:World),(run R L n (k1++k2) st).hit l->eO m cx st a w->sK loops (k1++k2)->WK P (RQ R L cx l n k2) k1 .normal a w:=by
 intro n;induction n using Nat.strongRecOn with
 | _ n ih=>
 intro k1 k2 st a w h bL hk;cases k1 with
 | nil=>exact⟨n,st,aam _,h,bL⟩
 | cons x k1=>
  cases n with
  | zero=>exact h.elim
  | succ n=>
   have R3:∀e a w,RQ R L cx l n k2 e a w->RQ R L cx l (n+1) k2 e a w:=RQ.up (Nat.le_succ n);have NL:∀(id:Nat) (j:Nat) (st:dw) (a:Act) (w:World),j<=n->eO m cx st a w->(match ny id (k1++k2) with|some k3=>(run R L j k3 st).hit l|none=>Lf.ext id st=l)->WK P (RQ R L cx l (n+1) k2) k1 (.exit id) a w:=by
    intro id j st a w hj bL hp;refine WK.exit (k2:=k2) (λk3 q1 ⟨k0,q2⟩=>?_) λq=>?_
    ·rw[q1] at hp;exact WK.mono (RQ.up (by omega)) (ih j (by omega) k3 k2 st a w hp bL (by
      have kC:sK loops (k1++k2):=hk.tail;rw[q2,aaR] at kC;exact(sK.sub kC).tail))
    ·rw[q] at hp;exact⟨j,st,by omega,hp,bL⟩
   cases x with
   | blk id=>exact WK.mono (ks:=k1) R3 (ih n (acQ n) k1 k2 st a w h bL hk.tail)
   | code i c=>
    have hc:=hk i c aah;have Bt:=hk.tail;show c.wp P (WK P (RQ R L cx l (n+1) k2) k1) a w;cases c with
    | skip=>exact wp_skip (WK.mono R3 (ih n (acQ n) k1 k2 st a w h bL Bt))
    | label q=>exact wp_label (WK.mono R3 (ih n (acQ n) k1 k2 st a w h bL Bt))
    | seq x y=>
     have hy:∀j z,(jE y)[j]?=some z->loops[i+(jE x).length+j]?=some z:=λj z hz=>by
      rw[ab5];refine hc _ z ?_;show(jE x++jE y)[_]?=_;rw[aaf (by omega),aaB];exact hz
     have hx:∀j z,(jE x)[j]?=some z->loops[i+j]?=some z:=λj z hz=>hc j z (by
      show(jE x++jE y)[j]?=_;rw[aai (aab.1 hz).1];exact hz)
     have:=ih n (acQ n) (.code i x::.code (i+(jE x).length) y::k1) k2 st a w h bL (sK.cons (sK.cons Bt hy) hx);refine wp_seq (wp_mono (c:=x) (WK.mono (ks:=.code i x::.code (i+(jE x).length) y::k1) R3 this) λe a w q=>?_);cases e<;>exact q
    | block id b=>
     have:=ih n (acQ n) (.code i b::.blk id::k1) k2 st a w h bL (sK.cons (sK.blk Bt) hc);refine wp_block (wp_mono (c:=b) (WK.mono (ks:=.code i b::.blk id::k1) R3 this) λe a w q=>?_);cases e<;>exact q
    | exit id=>
     have h:(match ny id (k1++k2) with|some RL=>run R L n RL st|none=>T.lf (Lf.ext id st)).hit l:=h;refine wp_exit (NL id n st a w (aam _) bL ?_);split
     ·rename_i k3 e;rw[e] at h;exact h
     ·rename_i e;rw[e] at h;exact h
    | ret=>
     obtain⟨r,q1,q2⟩:=T.hit_bind h;exact wp_ret (WK.ret ⟨r,st,q2,R.resOk cx st a w r lQ (T.hit_op q1) bL⟩)
    | cond x c d=>
     refine OJ (P:=P) (Q:=WK P (RQ R L cx l (n+1) k2) k1) h bL (λst q1 q2=>?_) λst q1 q2=>?_
     ·exact WK.mono (ks:=.code i c::k1) R3 (ih n (acQ n) (.code i c::k1) k2 st a w q1 q2 (sK.cons Bt λj z hz=>hc j z (by
       show(jE c++jE d)[j]?=_;rw[aai (aab.1 hz).1];exact hz)))
     ·exact WK.mono (ks:=.code (i+(jE c).length) d::k1) R3 (ih n (acQ n) (.code (i+(jE c).length) d::k1) k2 st a w q1 q2 (sK.cons Bt λj z hz=>by
       rw[ab5];refine hc _ z ?_;show(jE c++jE d)[_]?=_;rw[aaf (by omega),aaB];exact hz))
    | region id ops dr=>
     obtain⟨st1,q1,q2⟩:=T.hit_bind h;exact R.ok id ops dr cx st st1 a w _ q1 bL λa' w' q3=>WK.mono R3 (ih n (acQ n) k1 k2 st1 a' w' q2 q3 Bt)
    | loop b=>
     have acO:∀st,run R L (n+1) (.code i (.loop b)::(k1++k2)) st=match L.f i with
      | some g=>(g st).bind λl=>match l with
       | .nrm cQ=>run R L n (k1++k2) cQ
       | .ext id cQ=>match ny id (k1++k2) with
        | some RL=>run R L n RL cQ
        | none=>.lf (.ext id cQ)
       | .ret r cQ=>.lf (.ret r cQ)
      | none=>run R L n (.code (i+1) b::.code i (.loop b)::(k1++k2)) st:=λ_=>rfl
     cases hf:L.f i with
     | some g=>
      have h:(run R L (n+1) (.code i (.loop b)::(k1++k2)) st).hit l:=h;rw[acO,hf] at h;obtain⟨l',q1,q2⟩:=T.hit_bind h;refine wp_mono (L.ok i g (.loop b) hf (hc 0 _ rfl) cx st a w l' lQ q1 bL) λe a' w' q=>?_;cases e with
      | normal=>
       obtain⟨cQ,rfl,q3⟩:=q;exact WK.mono R3 (ih n (acQ n) k1 k2 cQ a' w' q2 q3 Bt)
      | exit id=>
       obtain⟨cQ,rfl,q3⟩:=q;refine NL id n cQ a' w' (aam _) q3 ?_;simp only at q2;split
       ·rename_i k3 e;rw[e] at q2;exact q2
       ·rename_i e;rw[e] at q2;exact q2
      | ret=>
       obtain⟨r,cQ,rfl,q3⟩:=q;exact WK.ret ⟨r,cQ,q2,q3⟩
      | _=>exact q.elim
     | none=>
      refine wp_loop_ghost (λj a w=>∃cQ,j<=n+1/\(run R L j (.code i (.loop b)::(k1++k2)) cQ).hit l/\eO m cx cQ a w) (n+1) ⟨st,aam _,h,bL⟩ ?_;rintro j a1 w1 ⟨st1,hj,h1,lJ⟩;cases j with
      | zero=>exact h1.elim
      | succ j=>
       have XC:run R L (j+1) (.code i (.loop b)::(k1++k2)) st1=match L.f i with
        | some g=>(g st1).bind λl=>match l with
         | .nrm cQ=>run R L j (k1++k2) cQ
         | .ext id cQ=>match ny id (k1++k2) with
          | some RL=>run R L j RL cQ
          | none=>.lf (.ext id cQ)
         | .ret r cQ=>.lf (.ret r cQ)
        | none=>run R L j (.code (i+1) b::.code i (.loop b)::(k1++k2)) st1:=rfl
       rw[XC,hf] at h1;have:=ih j (by omega) [.code (i+1) b] (.code i (.loop b)::(k1++k2)) st1 a1 w1 h1 lJ (sK.cons (sK.cons Bt hc) λq z hz=>by
        rw[ab5,ad7 1 q];exact hc (q+1) z hz)
       refine wp_mono (c:=b) this λe a2 w2 q=>?_;cases e with
       | normal=>
        obtain⟨j',cQ,q1,q2,q3⟩:=q;exact⟨j',by omega,cQ,by omega,q2,q3⟩
       | exit id=>
        obtain⟨j',cQ,q1,q2,q3⟩:=q;exact NL id j' cQ a2 w2 (by omega) q3 q2
       | ret=>exact WK.ret q
       | _=>exact q.elim
    | _=>exact h.elim
theorem xY (lQ:cx.pb=R.pb) {n:Nat} {c:Code} {i:Nat} {st:dw} {a:Act} {w:World} {l:Lf} (h:(run R L n [.code i c] st).hit l) (bL:eO m cx st a w) (hk:∀j x,(jE c)[j]?=some x->loops[i+j]?=some x):c.wp P (LQ P R.fn m cx l) a w:=by
 have:=agp lQ n [.code i c] [] st a w h bL (sK.cons (λ_ _ h=>by cases h) hk);refine wp_mono (c:=c) this λe a w q=>?_;cases e with
 | normal=>
  obtain⟨j,cQ,_,q1,q2⟩:=q;cases j with
  | zero=>exact q1.elim
  | succ j=>exact⟨cQ,q1,q2⟩
 | exit id=>
  obtain⟨j,cQ,_,q1,q2⟩:=q;exact⟨cQ,q1,q2⟩
 | ret=>exact q
 | _=>exact q.elim
end
inductive ZS where
 | d (t:Ty)
 | own (t:Ty) (e:TypeId)
 | any
inductive CS where
 | d (t:Ty)
 | own (t:Ty) (e:TypeId)
 | any
 | zc (t tn:Ty) (e:TypeId)
 | zip (t tn:Ty) (e:TypeId) (zs:List ZS)
 | mp (kt:Kt) (t:Ty)
 | mr (kt:Kt) (t:Ty) (e:TypeId)
inductive SS where
 | c (s:CS)
 | st (k:Nat)
 | box (ty:TypeId) (cs:List CS)
 | fn (k:FuncId)
 | rf (k:Nat)
 | cl (k:FuncId) (t:Ty)
 | sb (o o2:Nat)
def SS.isSb:SS->Bool
 | .sb _ _=>true
 | _=>false
def ZV:ZS->Type
 | .d t=>El t
 | .own t _=>List (El t)
 | .any=>Unit
def zy:List ZS->Type
 | []=>Unit
 | s::l=>ZV s×zy l
def CV:CS->Type
 | .d t=>El t
 | .own t _=>List (El t)
 | .any=>Unit
 | .zc t tn _=>Nat×List (El t)×List (El tn)
 | .zip t tn _ zs=>Nat×List (El t)×zy zs×List (El tn)
 | .mp kt t=>Nat×(kt.K->Option (El t))
 | .mr kt t _=>Nat×(kt.K->Option (List (El t)))
def dZ:List CS->Type
 | []=>Unit
 | s::l=>CV s×dZ l
def SW:SS->Type
 | .c s=>CV s
 | .st k=>Fc k
 | .box _ cs=>dZ cs
 | .fn _=>Unit
 | .rf k=>Fc k
 | .cl _ t=>El t
 | .sb _ _=>Unit
def bM:List (Nat×SS)->Type
 | []=>Unit
 | p::l=>SW p.2×bM l
def AU (n:Nat):(s:ZS)->ZV s->AV×List ah
 | .d t,x=>(one t x,[])
 | .own t e,rs=>(.own n,[.row t e rs])
 | .any,_=>(.any n,[.dead])
def qu (n:Nat):(l:List ZS)->zy l->List AV×List ah
 | [],_=>([],[])
 | s::l,x=>((AU n s x.1).1::(qu (n+(AU n s x.1).2.length) l x.2).1,(AU n s x.1).2++(qu (n+(AU n s x.1).2.length) l x.2).2)
def rU (n:Nat):(s:CS)->CV s->AV×List ah
 | .d t,x=>(one t x,[])
 | .own t e,rs=>(.own n,[.row t e rs])
 | .any,_=>(.any n,[.dead])
 | .zc t tn e,x=>(.own n,[.zc e t tn x.1 x.2.1 x.2.2])
 | .mp kt t,x=>(.mp n,[.mp kt t x.1 x.2])
 | .mr kt t e,x=>(.mp n,[.mq (n+1),.mr n kt t e x.1 x.2])
 | .zip t tn e zs,x=>(.own n,.zip (n+1) e t tn x.1 x.2.1 (qu (n+2) zs x.2.2.1).1 x.2.2.2::.dead::(qu (n+2) zs x.2.2.1).2)
def qx (n:Nat):(l:List CS)->dZ l->List AV×List ah
 | [],_=>([],[])
 | s::l,x=>((rU n s x.1).1::(qx (n+(rU n s x.1).2.length) l x.2).1,(rU n s x.1).2++(qx (n+(rU n s x.1).2.length) l x.2).2)
def vG (n:Nat):(s:SS)->SW s->XV×List ah
 | .c s,x=>(.one (rU n s x).1,(rU n s x).2)
 | .st k,x=>(.agg (jV (.st k) x),[])
 | .fn k,_=>(.one (.val (.func (.func k) #[] #[])),[])
 | .rf k,x=>(.one (.ref (.st k) x 0),[])
 | .cl k t,x=>(.one (.cl k t x),[])
 | .sb o o2,_=>(.one (.sub o o2 0),[])
 | .box ty cs,x=>(.one (.ptr n 0),.cells ty (qx (n+1) cs x).1::(qx (n+1) cs x).2)
def qw (n:Nat):(l:List (Nat×SS))->bM l->Env×List ah
 | [],_=>([],[])
 | p::l,x=>((p.1,(vG n p.2 x.1).1)::(qw (n+(vG n p.2 x.1).2.length) l x.2).1,(vG n p.2 x.1).2++(qw (n+(vG n p.2 x.1).2.length) l x.2).2)
def cH (l:List (Nat×SS)) (x:bM l):dw:=⟨(qw 0 l x).1,(qw 0 l x).2⟩
def V8 (H:List ah) (t:Ty) (e:TypeId):AV->Option (List (El t)×List (Option Nat))
 | .own o=>match H[o]? with
  | some (.row t' e' rs)=>if e'=e then(j4 t (.list t' rs false)).map λx=>(x,[some o]) else none
  | _=>none
 | .val (.slice none 0 0)=>some ([],[none])
 | _=>none
def rdN:AV->Option (Unit×List (Option Nat))
 | .any o=>some ((),[some o])
 | _=>some ((),[none])
def rdZ (H:List ah):(s:ZS)->AV->Option (ZV s×List (Option Nat))
 | .d t,a=>(KX t a).map λx=>(x,[])
 | .own t e,a=>V8 H t e a
 | .any,a=>rdN a
def AG (H:List ah):(l:List ZS)->List AV->Option (zy l×List (Option Nat))
 | [],[]=>some ((),[])
 | s::l,a::r=>match rdZ H s a,AG H l r with
  | some x,some y=>some ((x.1,y.1),x.2++y.2)
  | _,_=>none
 | _,_=>none
def IF (H:List ah) (t tn:Ty) (e:TypeId):AV->Option ((Nat×List (El t)×List (El tn))×List (Option Nat))
 | .own o=>match H[o]? with
  | some (.zc e' t' KZ gw done rest)=>match Ty.eq? t' t,Ty.eq? KZ tn with
   | some h,some h'=>if e'=e then some ((gw,h.down▸done,h'.down▸rest),[some o]) else none
   | _,_=>none
  | _=>none
 | _=>none
def wJ (H:List ah) (t tn:Ty) (e:TypeId) (zs:List ZS):AV->Option ((Nat×List (El t)×zy zs×List (El tn))×List (Option Nat))
 | .own o=>match H[o]? with
  | some (.zip o2 e' t' KZ gw done cur rest)=>match Ty.eq? t' t,Ty.eq? KZ tn,AG H zs cur with
   | some h,some h',some x=>if e'=e then some ((gw,h.down▸done,x.1,h'.down▸rest),some o::some o2::x.2) else none
   | _,_,_=>none
  | _=>none
 | _=>none
def IH (H:List ah) (kt:Kt) (t:Ty):AV->Option ((Nat×(kt.K->Option (El t)))×List (Option Nat))
 | .mp o=>match H[o]? with
  | some (.mp jR t' n f)=>match Ty.eq? (.mp jR t') (.mp kt t) with
   | some h=>some ((n,(h.down▸(f:El (.mp jR t')):El (.mp kt t))),[some o])
   | none=>none
  | _=>none
 | _=>none
def IG (H:List ah) (kt:Kt) (t:Ty) (e:TypeId):AV->Option ((Nat×(kt.K->Option (List (El t))))×List (Option Nat))
 | .mp p=>match H[p]? with
  | some (.mq q)=>match H[q]? with
   | some (.mr p' jR t' e' n f)=>match Ty.eq? (.mp jR (.list t')) (.mp kt (.list t)) with
    | some h=>if p'=p/\e'=e then some ((n,(h.down▸(f:El (.mp jR (.list t'))):El (.mp kt (.list t)))),[some p,some q]) else none
    | none=>none
   | _=>none
  | _=>none
 | _=>none
def ZM (H:List ah):(s:CS)->AV->Option (CV s×List (Option Nat))
 | .d t,a=>(KX t a).map λx=>(x,[])
 | .own t e,a=>V8 H t e a
 | .any,a=>rdN a
 | .zc t tn e,a=>IF H t tn e a
 | .zip t tn e zs,a=>wJ H t tn e zs a
 | .mp kt t,a=>IH H kt t a
 | .mr kt t e,a=>IG H kt t e a
def vV (H:List ah):(l:List CS)->List AV->Option (dZ l×List (Option Nat))
 | [],[]=>some ((),[])
 | s::l,a::r=>match ZM H s a,vV H l r with
  | some x,some y=>some ((x.1,y.1),x.2++y.2)
  | _,_=>none
 | _,_=>none
def rdA (H:List ah) (s:CS):XV->Option (CV s×List (Option Nat))
 | .one a=>ZM H s a
 | _=>none
def rdG (k:Nat):XV->Option (Fc k×List (Option Nat))
 | .agg cs=>(un (.st k) cs).map λx=>(x,[])
 | _=>none
def ZN (H:List ah) (ty:TypeId) (cs:List CS):XV->Option (dZ cs×List (Option Nat))
 | .one (.ptr o 0)=>match H[o]? with
  | some (.cells nU r)=>if nU=ty then(vV H cs r).map λx=>(x.1,some o::x.2) else none
  | _=>none
 | _=>none
def V9 (k:FuncId):XV->Option (Unit×List (Option Nat))
 | .one (.val (.func (.func j) a b))=>if j=k/\a.size=0/\b.size=0 then some ((),[]) else none
 | _=>none
def V7 (k:Nat):XV->Option (Fc k×List (Option Nat))
 | .one (.ref t x 0)=>match Ty.eq? t (.st k) with
  | some h=>some ((h.down▸x:El (.st k)),[])
  | none=>none
 | _=>none
def Wa (k:FuncId) (t:Ty):XV->Option (El t×List (Option Nat))
 | .one (.cl k' t' x)=>match Ty.eq? t' t with
  | some h=>if k'=k then some ((h.down▸x:El t),[]) else none
  | none=>none
 | _=>none
def V5:XV->Option (Unit×List (Option Nat))
 | .one (.sub _ _ 0)=>some ((),[])
 | _=>none
def QM (H:List ah):(s:SS)->XV->Option (SW s×List (Option Nat))
 | .c s,x=>rdA H s x
 | .st k,x=>rdG k x
 | .box ty cs,x=>ZN H ty cs x
 | .fn k,x=>V9 k x
 | .rf k,x=>V7 k x
 | .cl k t,x=>Wa k t x
 | .sb _ _,x=>V5 x
def FT (H:List ah) (env:Env):(l:List (Nat×SS))->Option (bM l×List (Option Nat))
 | []=>some ((),[])
 | p::l=>match (env.lookup p.1).bind (QM H p.2),FT H env l with
  | some x,some y=>some ((x.1,y.1),x.2++y.2)
  | _,_=>none
def Bo (pb:List Nat) (ids:List (Option Nat)):Bool:=(List.range ids.length).all (λi=>(List.range i).all λj=>match ids[i]?,ids[j]? with
 | some (some a),some (some b)=>a !=b
 | _,_=>true)&&pb.all λi=>ids[i]?==some (some i)
def aa0 (env:Env) (ids:List (Option Nat)) (l:List (Nat×SS)):Bool:=l.all λp=>match p.2 with
 | .sb _ o2=>match env.lookup p.1 with
  | some (.one (.sub _ q _))=>ids[o2]?==some (some q)
  | _=>false
 | _=>true
def AH (H:List ah) (env:Env) (l:List (Nat×SS)):Option (bM l×List (Option Nat)):=if l.all (λp=>!p.2.isSb) then FT H env l else none
def nr (pb:List Nat) (l:List (Nat×SS)) (st:dw):Option (bM l):=(FT st.heap st.env l).bind λp=>if Bo pb p.2&&aa0 st.env p.2 l then some p.1 else none
inductive Re (bs:List Value) (H:List ah):List (Option Nat)->List ah->List Value->Prop where
 | nil:Re bs H [] [] []
 | sm {o:Nat} {x y:ah} {v:Value} {ids:List (Option Nat)} {ys:List ah} {us:List Value}:H[o]?=some x->bs[o]?=some v->(∀c,Bk y v c->Bk x v c)->Re bs H ids ys us->Re bs H (some o::ids) (y::ys) (v::us)
 | nn {y:ah} {v:Value} {ids:List (Option Nat)} {ys:List ah} {us:List Value}:(∀c,¬Bk y v c)->Re bs H ids ys us->Re bs H (none::ids) (y::ys) (v::us)
section
variable {cx:Cx} {bs aU:List Value} {w:World} {S:Nat->Prop} {H:List ah} {m:Nat} {env:Env} {a:Act}
theorem Re.append {ids acb:List (Option Nat)} {ys ys':List ah} {us oN:List Value} (h:Re bs H ids ys us) (h':Re bs H acb ys' oN):Re bs H (ids++acb) (ys++ys') (us++oN):=by
 induction h with
 | nil=>exact h'
 | sm h1 h2 h3 _ ih=>exact .sm h1 h2 h3 ih
 | nn h1 _ ih=>exact .nn h1 ih
theorem Re.len {ids:List (Option Nat)} {ys:List ah} {us:List Value} (h:Re bs H ids ys us):ids.length=ys.length/\us.length=ys.length:=by
 induction h with
 | nil=>exact⟨rfl,rfl⟩
 | sm _ _ _ _ ih=>simp[ih.1,ih.2]
 | nn _ _ ih=>simp[ih.1,ih.2]
theorem Re.get {ids:List (Option Nat)} {ys:List ah} {us:List Value} (h:Re bs H ids ys us):∀(i:Nat) (y:ah) (v:Value),ys[i]?=some y->us[i]?=some v->(∃o x,ids[i]?=some (some o)/\H[o]?=some x/\bs[o]?=some v/\(∀c,Bk y v c->Bk x v c))\/(ids[i]?=some none/\∀c,¬Bk y v c):=by
 induction h with
 | nil=>intro i y v h;cases h
 | sm h1 h2 h3 _ ih=>
  intro i y v hy hv;cases i with
  | zero=>injection hy with hy;injection hv with hv;subst hy hv;exact .inl ⟨_,_,rfl,h1,h2,h3⟩
  | succ i=>exact ih i y v (by simpa using hy) (by simpa using hv)
 | nn h1 _ ih=>
  intro i y v hy hv;cases i with
  | zero=>injection hy with hy;injection hv with hv;subst hy hv;exact .inr ⟨rfl,h1⟩
  | succ i=>exact ih i y v (by simpa using hy) (by simpa using hv)
def Dd (aU us:List Value) (n:Nat):Prop:=∀(j:Nat) (u:Value),us[j]?=some u->aU[n+j]?=some u
theorem Dd.left {us oN:List Value} {n:Nat} (h:Dd aU (us++oN) n):Dd aU us n:=λj u hj=>h j u (by rw[aai (aab.1 hj).1];exact hj)
theorem Dd.right {us oN:List Value} {n:Nat} (h:Dd aU (us++oN) n):Dd aU oN (n+us.length):=λj u hj=>by
 rw[ab5];exact h _ u (by rw[aaf (by omega),aaB];exact hj)
def iU (aU:List Value) (w:World) (S:Nat->Prop) (ys:List ah) (us:List Value):Prop:=∀(j:Nat) (y:ah) (u:Value),ys[j]?=some y->us[j]?=some u->OR aU w S y u
theorem iU.append {ys ys':List ah} {us oN:List Value} (h:iU aU w S ys us) (h':iU aU w S ys' oN) (hl:us.length=ys.length):iU aU w S (ys++ys') (us++oN):=λj y u hy hu=>by
 by_cases hj:j<ys.length
 ·rw[aai hj] at hy;rw[aai (by omega)] at hu;exact h j y u hy hu
 ·rw[aaf (by omega)] at hy;rw[aaf (by omega),hl] at hu;exact h' _ y u hy hu
theorem Wk {t:Ty} {b:AV} {x:El t} {v:Value} (ht:t.one=true) (h:KX t b=some x) (hv:VR bs w S b v):VR aU w S (one t x) v:=so ht (mW h hv)
theorem Qf {t:Ty} {b:AV} {x:El t} (h:KX t b=some x):t.one=true:=by
 cases t<;>first|rfl|cases h
theorem yp (hs:HS cx bs w S H) {s:ZS} {b:AV} {x:ZV s} {ids:List (Option Nat)} {v:Value} (h:rdZ H s b=some (x,ids)) (hv:VR bs w S b v) (n:Nat) : ∃us,Re bs H ids (AU n s x).2 us/\∀aU,Dd aU us n->VR aU w S (AU n s x).1 v/\iU aU w S (AU n s x).2 us:=by
 cases s with
 | d t=>
  have h:(KX t b).map (λx=>(x,([]:List (Option Nat))))=some (x,ids):=h;cases e:KX t b with
  | none=>rw[e] at h;cases h
  | some y=>
   rw[e] at h;injection h with h
   injection h with h1 h2
   subst h1 h2;exact⟨[],.nil,λaU _=>⟨Wk (Qf e) e hv,λj y u hy=>by cases hy⟩⟩
 | own t e=>
  replace h:V8 H t e b=some (x,ids):=h;unfold V8 at h;split at h
  ·rename_i o;split at h
   ·rename_i t' e' rs hH;split at h
    ·rename_i ee;subst ee;cases hu:j4 t (.list t' rs false) with
     | none=>rw[hu] at h;cases h
     | some rs'=>
      rw[hu] at h;injection h with h
      injection h with h1 h2
      subst h1 h2;have:∃q:t'=t,rs'=q▸rs:=by
       unfold j4 at hu;simp only at hu;split at hu
       ·rename_i q _;injection hu with hu
        exact⟨q.down,hu.symm⟩
       ·cases hu
      obtain⟨q,rfl⟩:=this;subst q;obtain⟨hb,eX⟩:=hv;refine⟨[v],.sm hH hb (λ_ h=>h) .nil,λaU km=>⟨⟨km 0 v rfl,eX⟩,λj y u hy hu=>?_⟩⟩;cases j with
      | zero=>injection hy with hy;injection hu with hu;subst hy hu;exact hs.o o _ _ hH hb
      | succ j=>cases hy
    ·cases h
   ·cases h
  ·injection h with h
   injection h with h1 h2
   subst h1 h2;obtain⟨rfl,_⟩:=hv;refine⟨[.slice none 0 0],.nn (λ_ h=>by cases h) .nil,λaU km=>⟨⟨km 0 _ rfl,_,_,_,rfl⟩,λj y u hy hu=>?_⟩⟩;cases j with
   | zero=>injection hy with hy;injection hu with hu;subst hy hu;exact Own.nil' w S (λb q=>(hs.s b q).1) 0 e
   | succ j=>cases hy
  ·cases h
 | any=>
  have fin:∀{us:List Value},us=[v]->∀aU,Dd aU us n->VR aU w S (.any n) v/\iU aU w S [.dead] us:=by
   rintro us rfl aU km;refine⟨⟨km 0 v rfl,hv.one⟩,λj y u hy hu=>?_⟩;cases j with
   | zero=>injection hy with hy;subst hy;exact trivial
   | succ j=>cases hy
  replace h:rdN b=some (x,ids):=h;unfold rdN at h;split at h
  ·rename_i o;injection h with h
   injection h with h1 h2
   subst h2;have ho:o<H.length:=by rw[<-hs.len];exact(aab.1 hv.1).1
   exact⟨[v],.sm (aaa ho) hv.1 (λ_ h=>by cases h) .nil,fin rfl⟩
  ·injection h with h
   injection h with h1 h2
   subst h2;exact⟨[v],.nn (λ_ h=>by cases h) .nil,fin rfl⟩
theorem FO (hs:HS cx bs w S H):∀{l:List ZS} {qs:List AV} {x:zy l} {ids:List (Option Nat)} {vs:List Value},AG H l qs=some (x,ids)->F2 (VR bs w S) qs vs->∀n, ∃us,Re bs H ids (qu n l x).2 us/\∀aU,Dd aU us n->F2 (VR aU w S) (qu n l x).1 vs/\iU aU w S (qu n l x).2 us
 | [],[],x,ids,_,h,hv,n=>by cases hv;injection h with h;injection h with h1 h2;subst h1 h2;exact⟨[],.nil,λ_ _=>⟨.nil,λj y u hy=>by cases hy⟩⟩
 | s::l,b::qs,x,ids,_,h,hv,n=>by
  cases hv with
  | cons h1 h2=>
   unfold AG at h;split at h
   ·rename_i p q hp hq;injection h with h
    injection h with e1 e2
    subst e1 e2;obtain⟨us1,r1,k1⟩:=yp hs (x:=p.1) (ids:=p.2) hp h1 n;obtain⟨us2,r2,k2⟩:=FO hs (x:=q.1) (ids:=q.2) hq h2 (n+(AU n s p.1).2.length);refine⟨us1++us2,r1.append r2,λaU km=>?_⟩;obtain⟨v1,o1⟩:=k1 aU km.left;obtain⟨v2,o2⟩:=k2 aU (by have:=km.right;rw[r1.len.2] at this;exact this);exact⟨.cons v1 v2,o1.append o2 r1.len.2⟩
   ·cases h
 | [],_::_,_,_,_,h,_,_=>by cases h
 | _::_,[],_,_,_,h,_,_=>by cases h
theorem LP (hs:HS cx bs w S H) {s:CS} {b:AV} {x:CV s} {ids:List (Option Nat)} {v:Value} (h:ZM H s b=some (x,ids)) (hv:VR bs w S b v) (n:Nat) : ∃us,Re bs H ids (rU n s x).2 us/\∀aU,Dd aU us n->VR aU w S (rU n s x).1 v/\iU aU w S (rU n s x).2 us:=by
 cases s with
 | d t=>exact yp hs (s:=.d t) h hv n
 | own t e=>exact yp hs (s:=.own t e) h hv n
 | any=>exact yp hs (s:=.any) h hv n
 | zc t tn e=>
  replace h:IF H t tn e b=some (x,ids):=h;unfold IF at h;split at h
  ·rename_i o;split at h
   ·rename_i e' t' KZ gw done rest hH;split at h
    ·rename_i q q' _ _;obtain⟨q⟩:=q;obtain⟨q'⟩:=q';subst q q';split at h
     ·rename_i ee;subst ee;injection h with h
      injection h with h1 h2
      subst h1 h2;obtain⟨hb,eX⟩:=hv;refine⟨[v],.sm hH hb (λ_ h=>h) .nil,λaU km=>⟨⟨km 0 v rfl,eX⟩,λj y u hy hu=>?_⟩⟩;cases j with
      | zero=>injection hy with hy;injection hu with hu;subst hy hu;exact hs.o o _ _ hH hb
      | succ j=>cases hy
     ·cases h
    ·cases h
   ·cases h
  ·cases h
 | zip t tn e zs=>
  replace h:wJ H t tn e zs b=some (x,ids):=h;unfold wJ at h;split at h
  ·rename_i o;split at h
   ·rename_i o2 e' t' KZ gw done cur rest hH;split at h
    ·rename_i q q' p _ _ hp;obtain⟨q⟩:=q;obtain⟨q'⟩:=q';subst q q';split at h
     ·rename_i ee;subst ee;injection h with h
      injection h with h1 h2
      subst h1 h2;obtain⟨hb,eX⟩:=hv;obtain⟨bq,ho,hz,hl,u,qD,pY,hu3⟩:=hs.o o _ _ hH hb;have hr:bq[done.length]?=some (bq[done.length]'(by rw[hz.1];exact hl)):=aaa _;have hf:=(hz.2 _ _ hr).2.1 rfl;obtain⟨us,r1,k1⟩:=FO hs (x:=p.1) (ids:=p.2) hp hf (n+2);have lL:o2<H.length:=by rw[<-hs.len];exact(aab.1 qD).1
      refine⟨v::u::us,.sm hH hb (λ_ h=>h) (.sm (aaa lL) qD (λ_ h=>by cases h) r1),λaU km=>?_⟩;have qH:Dd aU us (n+2):=λj u' hj=>by
       have:=km (j+2) u' (by simpa using hj)
       rwa [show n+(j+2)=n+2+j by omega] at this
      obtain⟨v1,o1⟩:=k1 aU qH;refine⟨⟨km 0 v rfl,eX⟩,λj y u' hy sw=>?_⟩;cases j with
      | zero=>
       injection hy with hy;injection sw with sw;subst hy sw
       refine⟨bq,ho,⟨hz.1,λj r hj=>?_⟩,hl,u,km 1 u rfl,pY,hu3⟩;obtain⟨z1,z2,z3⟩:=hz.2 j r hj;refine⟨z1,λe=>?_,z3⟩;subst e;rw[hr] at hj;obtain rfl:=aad hj;exact v1
      | succ j=>
       cases j with
       | zero=>injection hy with hy;subst hy;exact trivial
       | succ j=>exact o1 j y u' (acN.symm.trans (acN.symm.trans hy)) (acN.symm.trans (acN.symm.trans sw))
     ·cases h
    ·cases h
   ·cases h
  ·cases h
 | mp kt t=>
  replace h:IH H kt t b=some (x,ids):=h;unfold IH at h;split at h
  ·rename_i o;split at h
   ·rename_i jR t' m f hH;split at h
    ·rename_i q _;obtain⟨q⟩:=q;injection q with q1 q2
     subst q1 q2;injection h with h
     injection h with h1 h2
     subst h1 h2;obtain⟨hb,hm⟩:=hv;refine⟨[v],.sm hH hb (λ_ h=>h) .nil,λaU km=>⟨⟨km 0 v rfl,hm⟩,λj y u hy hu=>?_⟩⟩;cases j with
     | zero=>injection hy with hy;injection hu with hu;subst hy hu;exact hs.o o _ _ hH hb
     | succ j=>cases hy
    ·cases h
   ·cases h
  ·cases h
 | mr kt t e=>
  replace h:IG H kt t e b=some (x,ids):=h;unfold IG at h;split at h
  ·rename_i p;split at h
   ·rename_i q hP;split at h
    ·rename_i p' jR t' e' m f hQ;split at h
     ·rename_i q' _;obtain⟨q'⟩:=q';injection q' with q1 q2
      injection q2 with q2
      subst q1 q2;split at h
      ·rename_i ee;obtain⟨rfl,rfl⟩:=ee;injection h with h
       injection h with h1 h2
       subst h1 h2;obtain⟨hb,b0,rfl⟩:=hv;have GA:q<bs.length:=by rw[hs.len];exact(aab.1 hQ).1
       have Js:=aaa GA;refine⟨[.map (some b0),bs[q]],.sm hP hb (λ_ h=>h) (.sm hQ Js (λ_ h=>h) .nil),λaU km=>⟨⟨km 0 _ rfl,_,rfl⟩,λj y u hy hu=>?_⟩⟩;cases j with
       | zero=>injection hy with hy;injection hu with hu;subst hy hu;exact⟨_,rfl⟩
       | succ j=>
        cases j with
        | zero=>
         injection hy with hy;injection hu with hu;subst hy hu
         obtain⟨b,l,g,e1,h1,hr⟩:=hs.o q _ _ hQ Js;rw[hb] at h1;injection h1 with h1
         injection h1 with h1
         injection h1 with h1
         subst h1;exact⟨_,l,g,e1,km 0 _ rfl,hr⟩
        | succ j=>cases hy
      ·cases h
     ·cases h
    ·cases h
   ·cases h
  ·cases h
theorem FU (hs:HS cx bs w S H):∀{l:List CS} {qs:List AV} {x:dZ l} {ids:List (Option Nat)} {vs:List Value},vV H l qs=some (x,ids)->F2 (VR bs w S) qs vs->∀n, ∃us,Re bs H ids (qx n l x).2 us/\∀aU,Dd aU us n->F2 (VR aU w S) (qx n l x).1 vs/\iU aU w S (qx n l x).2 us
 | [],[],x,ids,_,h,hv,n=>by cases hv;injection h with h;injection h with h1 h2;subst h1 h2;exact⟨[],.nil,λ_ _=>⟨.nil,λj y u hy=>by cases hy⟩⟩
 | s::l,b::qs,x,ids,_,h,hv,n=>by
  cases hv with
  | cons h1 h2=>
   unfold vV at h;split at h
   ·rename_i p q hp hq;injection h with h
    injection h with e1 e2
    subst e1 e2;obtain⟨us1,r1,k1⟩:=LP hs (x:=p.1) (ids:=p.2) hp h1 n;obtain⟨us2,r2,k2⟩:=FU hs (x:=q.1) (ids:=q.2) hq h2 (n+(rU n s p.1).2.length);refine⟨us1++us2,r1.append r2,λaU km=>?_⟩;obtain⟨v1,o1⟩:=k1 aU km.left;obtain⟨v2,o2⟩:=k2 aU (by have:=km.right;rw[r1.len.2] at this;exact this);exact⟨.cons v1 v2,o1.append o2 r1.len.2⟩
   ·cases h
 | [],_::_,_,_,_,h,_,_=>by cases h
 | _::_,[],_,_,_,h,_,_=>by cases h
theorem QL (hs:HS cx bs w S H) {s:SS} {b:XV} {x:SW s} {ids:List (Option Nat)} {v:Value} (h:QM H s b=some (x,ids)) (hv:XR bs w S b v) (Z4:s.isSb=false) (n:Nat) : ∃us,Re bs H ids (vG n s x).2 us/\∀aU,Dd aU us n->XR aU w S (vG n s x).1 v/\iU aU w S (vG n s x).2 us:=by
 cases s with
 | c s=>
  replace h:rdA H s b=some (x,ids):=h;cases b with
  | one c=>exact LP hs (s:=s) (x:=x) h hv n
  | _=>cases h
 | st k=>
  replace h:rdG k b=some (x,ids):=h;cases b with
  | agg cs=>
   replace h:(un (.st k) cs).map (λx=>(x,([]:List (Option Nat))))=some (x,ids):=h;cases e:un (.st k) cs with
   | none=>rw[e] at h;cases h
   | some y=>
    rw[e] at h;injection h with h
    injection h with h1 h2
    subst h1 h2;obtain⟨vs,rfl,hf⟩:=hv;exact⟨[],.nil,λaU _=>⟨⟨vs,rfl,jg (jr e hf)⟩,λj y u hy=>by cases hy⟩⟩
  | _=>cases h
 | box ty cs=>
  replace h:ZN H ty cs b=some (x,ids):=h;unfold ZN at h;split at h
  ·rename_i o;split at h
   ·rename_i nU qs hH;split at h
    ·rename_i ee;subst ee;cases hu:vV H cs qs with
     | none=>rw[hu] at h;cases h
     | some p=>
      rw[hu] at h;injection h with h
      injection h with h1 h2
      subst h1 h2;obtain⟨g,hb,rfl⟩:=hv;obtain⟨g',vs,e2,hk,hf⟩:=hs.o o _ _ hH hb;obtain⟨us,r1,k1⟩:=FU hs (x:=p.1) (ids:=p.2) hu hf (n+1);refine⟨.pointer (some ⟨g,0,none⟩)::us,.sm hH hb (λ_ h=>h) r1,λaU km=>?_⟩;have qH:Dd aU us (n+1):=λj u hj=>by
       have:=km (j+1) u (by simpa using hj)
       rwa [show n+(j+1)=n+1+j by omega] at this
      obtain⟨v1,o1⟩:=k1 aU qH;refine⟨⟨g,km 0 _ rfl,rfl⟩,λj y u hy hu=>?_⟩;cases j with
      | zero=>injection hy with hy;injection hu with hu;subst hy hu;exact⟨g',vs,e2,hk,v1⟩
      | succ j=>exact o1 j y u (acN.symm.trans hy) (acN.symm.trans hu)
    ·cases h
   ·cases h
  ·cases h
 | fn k=>
  replace h:V9 k b=some (x,ids):=h;unfold V9 at h;split at h
  ·rename_i j a b';split at h
   ·rename_i e;obtain⟨rfl,ea,eb⟩:=e;injection h with h
    injection h with h1 h2
    subst h2;obtain rfl:=abE ea;obtain rfl:=abE eb;exact⟨[],.nil,λaU _=>⟨hv,λj y u hy=>by cases hy⟩⟩
   ·cases h
  ·cases h
 | sb o o2=>cases Z4
 | cl k t=>
  replace h:Wa k t b=some (x,ids):=h;unfold Wa at h;split at h
  ·split at h
   ·rename_i q _;obtain⟨q⟩:=q;subst q;split at h
    ·rename_i e;subst e;injection h with h
     injection h with h1 h2
     subst h1 h2;exact⟨[],.nil,λaU _=>⟨hv,λj y u hy=>by cases hy⟩⟩
    ·cases h
   ·cases h
  ·cases h
 | rf k=>
  replace h:V7 k b=some (x,ids):=h;unfold V7 at h;split at h
  ·split at h
   ·rename_i q _;obtain⟨q⟩:=q;subst q;injection h with h
    injection h with h1 h2
    subst h1 h2;exact⟨[],.nil,λaU _=>⟨hv,λj y u hy=>by cases hy⟩⟩
   ·cases h
  ·cases h
theorem V6 (hs:HS cx bs w S H) {s:SS} {b:XV} {x:SW s} {ids:List (Option Nat)} {v:Value} (h:QM H s b=some (x,ids)) (hv:XR bs w S b v) (n:Nat) : ∃us,Re bs H ids (vG n s x).2 us/\∀aU,Dd aU us n->(∀o o2 o' q,s=.sb o o2->b=.one (.sub o' q 0)->aU[o2]?=bs[q]?)->XR aU w S (vG n s x).1 v/\iU aU w S (vG n s x).2 us:=by
 cases hb:s.isSb with
 | false=>obtain⟨us,r,k⟩:=QL hs h hv hb n;exact⟨us,r,λaU km _=>k aU km⟩
 | true=>
  cases s with
  | sb o o2=>
   replace h:V5 b=some (x,ids):=h;unfold V5 at h;split at h
   ·rename_i o' q;injection h with h
    injection h with h1 h2
    subst h2;obtain⟨g,p,q1,q2⟩:=hv;exact⟨[],.nil,λaU _ PS=>⟨⟨g,p,(PS o o2 o' q rfl rfl).trans q1,q2⟩,λj y u hy=>by cases hy⟩⟩
   ·cases h
  | _=>cases hb
def adV (bs aU:List Value) (env:Env) (l:List (Nat×SS)):Prop:=∀t o o2 o' q,(t,SS.sb o o2)∈l->env.lookup t=some (.one (.sub o' q 0))->aU[o2]?=bs[q]?
theorem FQ {l:List (Nat×SS)} {r:bM l×List (Option Nat)} (h:AH H env l=some r):FT H env l=some r/\∀bs aU,adV bs aU env l:=by
 unfold AH at h;split at h
 ·rename_i hl;refine⟨h,λbs aU t o o2 o' q hm=>?_⟩;have:=aau.1 hl _ hm;cases this
 ·cases h
theorem yq (hs:HS cx bs w S H) (he:ER m bs w S env a):∀{l:List (Nat×SS)} {x:bM l} {ids:List (Option Nat)},FT H env l=some (x,ids)->∀n, ∃us,Re bs H ids (qw n l x).2 us/\∀aU,Dd aU us n->adV bs aU env l->(∀t y,(t,y)∈(qw n l x).1->∃v,a.tmps[t]?=some v/\XR aU w S y v)/\iU aU w S (qw n l x).2 us
 | [],x,ids,h,n=>by injection h with h;injection h with h1 h2;subst h1 h2;exact⟨[],.nil,λ_ _ _=>⟨(λ_ _ h=>by cases h),λj y u hy=>by cases hy⟩⟩
 | p::l,x,ids,h,n=>by
  unfold FT at h;split at h
  ·rename_i q r hq hr;injection h with h
   injection h with e1 e2
   subst e1 e2;cases e:env.lookup p.1 with
   | none=>rw[e] at hq;cases hq
   | some y=>
    rw[e] at hq;obtain⟨v,hv,hx⟩:=he.k _ _ (jO e);obtain⟨us1,r1,k1⟩:=V6 hs (x:=q.1) (ids:=q.2) hq hx n;obtain⟨us2,r2,k2⟩:=yq hs he (x:=r.1) (ids:=r.2) hr (n+(vG n p.2 q.1).2.length);refine⟨us1++us2,r1.append r2,λaU km PS=>?_⟩;obtain⟨v1,o1⟩:=k1 aU km.left λo o2 o' q e1 e2=>PS p.1 o o2 o' q (by rw[<-e1];exact aah) (by rw[e,e2]);obtain⟨v2,o2⟩:=k2 aU (by have:=km.right;rw[r1.len.2] at this;exact this) λt o o2 o' q hm=>PS t o o2 o' q (aap _ hm);refine⟨λt y hy=>?_,o1.append o2 r1.len.2⟩;rcases aas.1 hy with e3|hy
    ·injection e3 with e3 e4
     subst e3 e4;exact⟨v,hv,v1⟩
    ·exact v2 t y hy
  ·cases h
theorem zt {x y:ah} {v:Value} {b:Nat} (h:∀c,Bk y v c->Bk x v c) (hb:Bk y v b):Bk x v b:=h b hb
theorem mb {st:dw} {l:List (Nat×SS)} {x:bM l} (h:nr cx.pb l st=some x) (hs:HS cx bs w S st.heap) (he:ER m bs w S st.env a):∃us,HS cx us w S (cH l x).heap/\ER m us w S (cH l x).env a:=by
 unfold nr at h;cases e:FT st.heap st.env l with
 | none=>rw[e] at h;cases h
 | some p=>
  rw[e] at h;have h:(if Bo cx.pb p.2&&aa0 st.env p.2 l then some p.1 else none)=some x:=h;split at h
  ·rename_i hid;rw[aal] at hid;obtain⟨hid,ahv⟩:=hid;injection h with h
   subst h;obtain⟨us,r,k⟩:=yq hs he (x:=p.1) (ids:=p.2) e 0;have bm:=r.len;obtain⟨k1,k2⟩:=k us (λj u hj=>by rw[aa6];exact hj) λt o o2 o' q hm hl=>by
    have:=aau.1 ahv _ hm;simp only[hl,beq_iff_eq] at this;have hi:o2<(qw 0 l p.1).2.length:=by rw[<-bm.1];exact(aab.1 this).1
    have hu:o2<us.length:=by rw[bm.2];exact hi
    rcases r.get o2 _ _ (aaa hi) (aaa hu) with⟨o3,x1,q1,q2,q3,q4⟩|⟨q1,_⟩
    ·rw[this] at q1;injection q1 with q1
     injection q1 with q1
     subst q1;rw[q3,aaa hu]
    ·rw[this] at q1;cases q1
   unfold Bo at hid;rw[aal] at hid;obtain⟨acU,ah4⟩:=hid;refine⟨us,⟨bm.2,λi y v hy hv=>k2 i y v hy hv,?_,?_,hs.s,hs.s0,hs.os,hs.tape,hs.output,hs.size,hs.old,?_⟩,he.d,he.s,k1⟩
   ·intro i j y z u v b vI hy hu hz hv bS bH;rcases r.get i y u hy hu with⟨o,x1,q1,q2,q3,q4⟩|⟨_,q⟩
    ·rcases r.get j z v hz hv with⟨o',x2,q5,q6,q7,q8⟩|⟨_,q⟩
     ·refine hs.ap o o' x1 x2 u v b (λeo=>?_) q2 q3 q6 q7 (zt q4 bS) (zt q8 bH);subst eo;have hi:i<p.2.length:=(aab.1 q1).1;have hj:j<p.2.length:=(aab.1 q5).1;rcases Nat.lt_or_gt_of_ne vI with hlt|hlt
      ·have:=aau.1 (aau.1 acU j (aaI.2 hj)) i (aaI.2 hlt);rw[q1,q5] at this;simp at this
      ·have:=aau.1 (aau.1 acU i (aaI.2 hi)) j (aaI.2 hlt);rw[q1,q5] at this;simp at this
     ·exact absurd bH (q b)
    ·exact absurd bS (q b)
   ·intro i y u b hy hu hb;rcases r.get i y u hy hu with⟨o,x1,q1,q2,q3,q4⟩|⟨_,q⟩
    ·exact hs.nw o x1 u b q2 q3 (zt q4 hb)
    ·exact absurd hb (q b)
   ·intro i g hip hg hg2;have hp:=aau.1 ah4 i hip;have hp:p.2[i]?=some (some i):=by simpa using hp
    have hi:i<(qw 0 l p.1).2.length:=by rw[<-bm.1];exact(aab.1 hp).1
    have hu:i<us.length:=by rw[bm.2];exact hi
    rcases r.get i _ _ (aaa hi) (aaa hu) with⟨o,x1,q1,q2,q3,q4⟩|⟨q,_⟩
    ·rw[hp] at q1;injection q1 with q1
     injection q1 with q1
     subst q1;have:=hs.an i g hip hg hg2;rw[q3] at this;rw[aaa hu];exact this
    ·rw[hp] at q;cases q
  ·cases h
theorem sj {st:dw} {l:List (Nat×SS)} {x:bM l} (h:nr cx.pb l st=some x) (bL:eO m cx st a w):eO m cx (cH l x) a w:=by
 obtain⟨bs,S,hs,he⟩:=bL;obtain⟨us,q1,q2⟩:=mb h hs he;exact⟨us,S,q1,q2⟩
def BdT:(t:Ty)->El t->Prop
 | .list _,xs=>xs.length<=9223372036854775807
 | _,_=>True
def BdC:(s:CS)->CV s->Prop
 | .d t,x=>BdT t x
 | .own _ _,rs=>rs.length<=9223372036854775807
 | .any,_=>True
 | .zc _ _ _,_=>True
 | .zip _ _ _ _,_=>True
 | .mp _ _,_=>True
 | .mr _ _ _,_=>True
def BdF:(ts:List Ty)->Hm ts->Prop
 | [],_=>True
 | t::ts,x=>BdT t x.1/\BdF ts x.2
def ZF:(l:List CS)->dZ l->Prop
 | [],_=>True
 | s::l,x=>BdC s x.1/\ZF l x.2
def BdS:(s:SS)->SW s->Prop
 | .c s,x=>BdC s x
 | .st k,x=>BdF (rR k) (Ah k x)
 | .box _ cs,x=>ZF cs x
 | .fn _,_=>True
 | .rf _,_=>True
 | .cl _ _,_=>True
 | .sb _ _,_=>True
def Kx:(l:List (Nat×SS))->bM l->Prop
 | [],_=>True
 | p::l,x=>BdS p.2 x.1/\Kx l x.2
theorem LF {α:Type} (x:List α):x.length<=x.reverse.length:=by simp
theorem O5 {us:List Value} {t:Ty} {x:El t} {v:Value} (hx:VR us w S (one t x) v):BdT t x:=by
 cases t with
 | list t=>
  obtain⟨A,q,c,_,hr,_⟩:=hx;show List.length (α:=El t) x<=_;rw[hr.len];exact hr.max
 | _=>exact trivial
theorem O8 {us:List Value} {n:Nat} {s:CS} {x:CV s} {v:Value} (hx:VR us w S (rU n s x).1 v) (ho:∀(j:Nat) (y:ah) (u:Value),(rU n s x).2[j]?=some y->us[n+j]?=some u->OR us w S y u):BdC s x:=by
 cases s with
 | d t=>exact O5 hx
 | own t e=>
  obtain⟨hb,A,q,c,e1⟩:=hx;have h1:Own (α:=El t) w S 0 e v (List.reverse (α:=El t) x):=ho 0 _ v rfl (by rw[adX];exact hb);obtain⟨cs,⟨_,h2⟩,_⟩:=h1;show List.length (α:=El t) x<=_;rcases h2 with⟨_,h2⟩|⟨g,cap,cur,_,_,_,h3,h4,_⟩
  ·exact aao (LF (α:=El t) x) (aao (Nat.le_of_eq h2) (by decide))
  ·unfold maxLen at h4;exact aao (LF (α:=El t) x) (aao h3 h4)
 | any=>exact trivial
 | zc t tn e=>exact trivial
 | zip t tn e zs=>exact trivial
 | mp kt t=>exact trivial
 | mr kt t e=>exact trivial
theorem O7 {us:List Value}:∀{ts:List Ty} {x:Hm ts} {vs:List Value},F2 (VR us w S) (GO ts x) vs->BdF ts x
 | [],_,_,_=>trivial
 | t::ts,x,vs,h=>by
  cases h with
  | cons h1 h2=>exact⟨O5 h1,O7 h2⟩
theorem Hc {us:List Value}:∀{l:List CS} {x:dZ l} {n:Nat} {vs:List Value},F2 (VR us w S) (qx n l x).1 vs->(∀(j:Nat) (y:ah) (u:Value),(qx n l x).2[j]?=some y->us[n+j]?=some u->OR us w S y u)->ZF l x
 | [],_,_,_,_,_=>trivial
 | s::l,x,n,vs,h,ho=>by
  cases h with
  | cons h1 h2=>
   refine⟨O8 h1 λj y u hy hu=>ho j y u (by
    show((rU n s x.1).2++_)[j]?=_;rw[aai (aab.1 hy).1];exact hy) hu,Hc (n:=n+(rU n s x.1).2.length) h2 λj y u hy hu=>ho ((rU n s x.1).2.length+j) y u ?_ (by rw[<-ab5];exact hu)⟩
   show((rU n s x.1).2++_)[_]?=_;rw[aaf (by omega),aaB];exact hy
theorem Zd {us:List Value} {n:Nat} {s:SS} {x:SW s} {v:Value} (hx:XR us w S (vG n s x).1 v) (ho:∀(j:Nat) (y:ah) (u:Value),(vG n s x).2[j]?=some y->us[n+j]?=some u->OR us w S y u):BdS s x:=by
 cases s with
 | c s=>exact O8 hx ho
 | st k=>obtain⟨vs,_,h⟩:=hx;exact O7 h
 | box ty cs=>
  obtain⟨g,h1,_⟩:=hx;obtain⟨_,vs,_,_,h2⟩:=ho 0 _ _ rfl (by rw[adX];exact h1);exact Hc (n:=n+1) h2 λj y u hy hu=>ho (j+1) y u hy (by rw[show n+(j+1)=n+1+j by omega];exact hu)
 | fn k=>exact trivial
 | rf k=>exact trivial
 | cl k t=>exact trivial
 | sb o o2=>exact trivial
theorem O6 {us:List Value}:∀{l:List (Nat×SS)} {x:bM l} {n:Nat},(∀t y,(t,y)∈(qw n l x).1->∃v,XR us w S y v)->(∀(j:Nat) (y:ah) (u:Value),(qw n l x).2[j]?=some y->us[n+j]?=some u->OR us w S y u)->Kx l x
 | [],_,_,_,_=>trivial
 | p::l,x,n,h1,h2=>by
  obtain⟨v,hv⟩:=h1 _ _ aah;refine⟨Zd (n:=n) hv λj y u hy hu=>h2 j y u (by
   show((vG n p.2 x.1).2++_)[j]?=_;rw[aai (aab.1 hy).1];exact hy) hu,O6 (n:=n+(vG n p.2 x.1).2.length) (λt y hy=>h1 t y (aap _ hy)) λj y u hy hu=>?_⟩
  refine h2 ((vG n p.2 x.1).2.length+j) y u ?_ (by rw[<-ab5];exact hu);show((vG n p.2 x.1).2++_)[_]?=_;rw[aaf (by omega),aaB];exact hy
theorem O4 {l:List (Nat×SS)} {x:bM l} (h:eO m cx (cH l x) a w):Kx l x:=by
 obtain⟨us,S,hs,he⟩:=h;exact O6 (n:=0) (λt y hy=>let ⟨v,_,hx⟩:=he.k t y hy;⟨v,hx⟩) λj y u hy hu=>hs.o j y u hy (by rwa [aa6] at hu)
end
end Go.Proofs.YtdbpbfglhbiadaaGreatDoor
