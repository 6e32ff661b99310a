/- MRun1 MRun2 MSpec -/
import Derived.Test.YtdbpbfglhbiadaaGreatDoorH00
import Derived.Test.YtdbpbfglhbiadaaGreatDoorH26
import Derived.Deep.LoopGhost
set_option maxHeartbeats 4000000
set_option maxRecDepth 100000
namespace Go.Proofs.YtdbpbfglhbiadaaGreatDoor
open Go Go.RowKit
structure ao2 (P:Program) where
 ty:TypeId->Option Ty
 D:List (Sm P)
 isP:IsP P
def yV (m:Nat) (o:Oper):Bool:=match o.dst with
 | some t=>decide (t<m)
 | none=>true
def xb (Hv Hf:List ah):Prop:=Hv.length=Hf.length/\∀(i:Nat) (x:ah),Hv[i]?=some x->x=.dead\/Hf[i]?=some x
structure eP (P:Program) extends ao2 P where
 eff:Oper->Bool
 x:Nat->Oper->dA->T dA
 xok:∀(m:Nat) (o:Oper) (cx:Cx) (st cV:dA) (a:Act) (w:World) (K:Act->World->Prop) (Q:Exit->Act->World->Prop),eff o=true->yV m o=true->(x m o st).hit cV->fc m cx st a w->(∀a' w',fc m cx cV a' w'->K a' w')->o.wp P a w K Q
 d:Oper->Env->List ah->T (XV×List (Nat×ah))
 dok:∀(m:Nat) (o:Oper) (cx:Cx) (bs:List Value) (S:Nat->Prop) (env:Env) (Hv Hf:List ah) (a:Act) (w:World) (r:XV×List (Nat×ah)) (K:Act->World->Prop) (Q:Exit->Act->World->Prop),eff o=true->xb Hv Hf->HS cx bs w S Hf->ER m bs w S env a->(d o env Hv).hit r->(∀v w' S',HS cx bs w' S' (iH r.2 Hf)->(∀b,S b->S' b)->aw S w w'->XR bs w' S' r.1 v->K (a.put o.dst v) w')->o.wp P a w K Q
def Wt (H:List ah):Option ah->List ah
 | none=>H
 | some x=>H++[x]
def xw (o:Oper) (st:dA):dA:=match o.op with
 | .buildSlice _ _ ps=>match kq st.env ps.toList with
  | some l=>(vg l).foldl (λst i=>Vy i st) st
  | none=>st
 | _=>st
def sop {P:Program} (C:eP P) (m:Nat) (o:Oper) (st:dA):T dA:=if yV m o then if C.eff o then C.x m o st else(match o.op with
 | .store t x y=>match o.dst with
  | none=>(T.op (Yp P st.heap t (ev st.env x) (ev st.env y))).bind λH=>.lf ⟨st.env,H⟩
  | some _=>.bad
 | .call { callee:=.builtin .append,args:=args,argTypes:=ts }=>match args.toList,ts.toList with
  | [s,x],[t,t']=>if t=t' then(agU P C.ty st.heap t (ev st.env s) (ev st.env x)).bind λr=>.lf ⟨pQ st.env o.dst (some r.1),r.2⟩ else .bad
  | _,_=>.bad
 | .mapUpdate t x k v=>match o.dst with
  | none=>(Zq P C.ty st.heap.length (st.heap++[.dead]) t (ev st.env x) (ev st.env k) (ev st.env v)).bind λr=>.lf ⟨st.env,iH (r.1++[(st.heap.length,r.2.getD .dead)]) (st.heap++[.dead])⟩
  | some _=>.bad
 | _=>(λ(st:dA)=>(XD C.ty C.D st.heap.length st.env st.heap o).bind λr=>.lf ⟨pQ st.env o.dst (some r.1),Wt st.heap r.2⟩) (xw o st)) else .bad
def xQ (st:dA) (o:Oper):dA:=⟨pQ st.env o.dst (some (.tup [])),st.heap⟩
def FP (st:dA) (t:Nat) (b:Bool):dA:=⟨pQ st.env (some t) (some (.one (.val (.bool b)))),st.heap⟩
def gdT (m:Nat) (ops:Array Oper) (o:Oper) (f:dA->T dA) (st:dA):T dA:=match o.guard with
 | none=>f st
 | some (j,want)=>if yV m o then(match cX ops j with
  | some t=>match st.env.lookup t with
   | some (.one (.val (.bool b)))=>if b==want then f st else .lf (xQ st o)
   | some (.one (.sym (.bool b)))=>.br b (if want then f (FP st t true) else .lf (xQ (FP st t true) o)) (if want then .lf (xQ (FP st t false) o) else f (FP st t false))
   | some (.tup [])=>.lf (xQ st o)
   | _=>.bad
  | none=>.bad) else .bad
def Fo {P:Program} (C:eP P) (m:Nat) (ops:Array Oper):List Oper->dA->T dA
 | [],st=>.lf st
 | o::l,st=>(gdT m ops o (sop C m o) st).bind (Fo C m ops l)
section
variable {P:Program} {o:Oper} {cx:Cx} {bs aZ:List Value} {w w':World} {S:Nat->Prop} {H:List ah} {m:Nat} {env:Env} {a:Act} {cm:Nat} {K:Act->World->Prop} {Q:Exit->Act->World->Prop} {ops:Array Oper} {C:eP P} {st cV:dA}
theorem Vr (hs:HS cx bs w S st.heap) (he:ER m bs w S st.env a) (hd:yV m o=true) {r:XV×Option ah} (h:iN P o bs w S a st.heap.length r) (hK:∀a' w',fc m cx ⟨pQ st.env o.dst (some r.1),Wt st.heap r.2⟩ a' w'->K a' w'):o.wp P a w K Q:=by
 refine h K Q λv w' S' u hb hS hn hx hf=>hK _ _ ?_;have fo:=hs.grow hb hS hn;have yK:=he.grow hs hb hS;cases hr:r.2 with
 | none=>
  obtain⟨UX,_⟩:=hx bs (iV.refl _) (by rw[hr];intro h;cases h);exact⟨bs,S',fo,yK.put o.dst (some r.1) v hd λy hy=>by obtain rfl:=aaj hy;exact UX⟩
 | some x=>
  obtain⟨UX,Bt⟩:=hx (bs++[u]) (nl _ _) (by rw[hr];intro _;rw[<-hs.len,aar (aaG _)];simp);have mf:=hf x hr;have hj:(st.heap++[ah.dead])[st.heap.length]?=some .dead:=by rw[aar (aaG _)];simp
  have tR:(bs++[undef])[st.heap.length]?=some undef:=by rw[<-hs.len,aar (aaG _)];simp
  have qm:(st.heap++[ah.dead]).set st.heap.length x=st.heap++[x]:=by rw[acH _ _ (aaG _)];simp
  have yG:(bs++[undef]).set st.heap.length u=bs++[u]:=by rw[<-hs.len,acH _ _ (aaG _)];simp
  have jp:=fo.pad.fill (x:=x) (v:=u) hj tR rfl (by rw[yG];exact Bt x hr) (λb gp=>⟨.inl (aax hs.size (mf b gp).1),(mf b gp).2,λi z q hz hq e=>by
   by_cases hi:i<st.heap.length
   ·rw[aay hi] at hz;rw[aay (by rw[hs.len];exact hi)] at hq;have:=(hs.o i z q hz hq).lt e;have:=(mf b gp).1;omega
   ·have h1:=(aad.1 hz).1;have e2:i=st.heap.length:=by simp at h1;omega
    subst e2;rw[hj] at hz;obtain rfl:=aaj hz;cases e⟩)
  rw[qm,yG] at jp;exact⟨bs++[u],S',jp,(yK.keep (λ_ h=>h) (aw.refl _ _) (nl _ _)).put o.dst (some r.1) v hd λy hy=>by obtain rfl:=aaj hy;exact UX⟩
theorem I9:∀(l:List Nat) {st:dA},fc m cx st a w->fc m cx (l.foldl (λst i=>Vy i st) st) a w
 | [],_,h=>h
 | i::l,_,h=>I9 l (wy (i:=i) h)
theorem TS (h:fc m cx st a w):fc m cx (xw o st) a w:=by
 unfold xw;split
 ·split
  ·exact I9 _ h
  ·exact h
 ·exact h
theorem Ny (h:(sop C m o st).hit cV) (bT:fc m cx st a w) (hK:∀a' w',fc m cx cV a' w'->K a' w'):o.wp P a w K Q:=by
 unfold sop at h;split at h
 ·rename_i hd;split at h
  ·rename_i P1;exact C.xok m o cx st cV a w K Q P1 hd h bT hK
  obtain⟨bs,S,hs,he⟩:=bT;split at h
  ·rename_i t x y hop;split at h
   ·rename_i wo;obtain⟨H',h1,h2⟩:=T.hit_bind h;have h2:(⟨st.env,H'⟩:dA)=cV:=h2;subst h2;exact Tf hs he hop wo (T.hit_op h1) λw' q1 q2=>hK _ _ ⟨bs,S,q1,he.keep (λ_ h=>h) q2 (iV.refl _)⟩
   ·exact h.elim
  ·rename_i args ts hop;split at h
   ·rename_i s x t t' ha ht;split at h
    ·rename_i e;subst e;obtain⟨r,h1,h2⟩:=T.hit_bind h;have h2:(⟨pQ st.env o.dst (some r.1),r.2⟩:dA)=cV:=h2;subst h2;have ha':args=#[s,x]:=by rw[<-acn (xs:=args),ha]
     have U4:ts=#[t,t]:=by rw[<-acn (xs:=ts),ht]
     rw[ha',U4] at hop;exact Wk hs he hop h1 λv w' aZ q1 q2 qa q3=>hK _ _ ⟨aZ,S,q1,(he.keep (λ_ h=>h) q2 qa).put o.dst (some r.1) v hd λy hy=>by obtain rfl:=aaj hy;exact q3⟩
    ·exact h.elim
   ·exact h.elim
  ·rename_i t x k v hop;split at h
   ·rename_i wo;obtain⟨r,h1,h2⟩:=T.hit_bind h;have h2:(⟨st.env,_⟩:dA)=cV:=h2;subst h2;have hpe:ER m (bs++[undef]) w S st.env a:=he.keep (λ_ h=>h) (aw.refl _ _) (nl _ _);exact OG hs.pad hpe C.isP hop wo (by rw[aar (aaG _)];simp) (by rw[<-hs.len,aar (aaG _)];simp) h1 λw' aZ q1 q2 q3 _=>hK _ _ ⟨aZ,S,q1,hpe.keep (λ_ h=>h) q2 q3⟩
   ·exact h.elim
  ·have ma:fc m cx (xw o st) a w:=TS ⟨bs,S,hs,he⟩;have h:((XD C.ty C.D (xw o st).heap.length (xw o st).env (xw o st).heap o).bind λr=>T.lf (⟨pQ (xw o st).env o.dst (some r.1),Wt (xw o st).heap r.2⟩:dA)).hit cV:=h;generalize xw o st=st1 at h ma;obtain⟨bs,S,hs,he⟩:=ma;obtain⟨r,h1,h2⟩:=T.hit_bind h;have h2:(⟨pQ st1.env o.dst (some r.1),Wt st1.heap r.2⟩:dA)=cV:=h2;subst h2;exact Vr hs he hd (AR C.isP hs he h1) hK
 ·exact h.elim
theorem ER.lit (he:ER m bs w S env a) {t:Nat} {y:XV} {v:Value} (hv:a.tmps[t]?=some v) (hx:XR bs w S y v):ER m bs w S (pQ env (some t) (some y)) a:=by
 refine⟨he.d,he.s,λu z hz=>?_⟩;rcases abs.1 hz with e|hz
 ·injection e with e1 e2
  subst e1 e2;exact⟨v,hv,hx⟩
 ·exact he.k u z (ac6.1 hz).1
theorem fc.lit (h:fc m cx st a w) {t:Nat} {b c:Bool} (hl:st.env.lookup t=some (.one (.sym (.bool b)))) (hc:b=c):fc m cx (FP st t c) a w:=by
 obtain⟨bs,S,hs,he⟩:=h;obtain⟨v,hv,hx⟩:=he.k _ _ (j2 hl);obtain⟨rfl,_⟩:=hx;subst hc;exact⟨bs,S,hs,he.lit hv ⟨rfl,rfl⟩⟩
theorem fc.skip (h:fc m cx st a w) (hd:yV m o=true):fc m cx (xQ st o) (a.put o.dst undef) w:=by
 obtain⟨bs,S,hs,he⟩:=h;exact⟨bs,S,hs,he.put o.dst (some (.tup [])) undef hd λy hy=>by obtain rfl:=aaj hy;exact⟨[],rfl,.nil⟩⟩
theorem rj {j t:Nat} {want:Bool} (hg:o.guard=some (j,want)) (ht:cX ops j=some t) (hv:a.tmps[t]?=some undef):Region.wanted o (yielded ops a.tmps)=false:=by
 unfold Region.wanted;rw[hg];have hy:yielded ops a.tmps j=none:=by
  unfold yielded;unfold cX at ht;cases ho:ops[j]? with
  | none=>rw[ho] at ht;cases ht
  | some q=>
   rw[ho] at ht;have U4:q.dst=some t:=ht;simp[U4,hv,undef]
 simp only[hy];rfl
theorem Ka (h:fc m cx st a w) {t:Nat} (hl:st.env.lookup t=some (.tup [])):a.tmps[t]?=some undef:=by
 obtain⟨bs,S,hs,he⟩:=h;obtain⟨v,hv,vs,e1,e2⟩:=he.k _ _ (j2 hl);cases e2
 rw[hv,e1];rfl
theorem nG {j t:Nat} {want b:Bool} (hg:o.guard=some (j,want)) (ht:cX ops j=some t) (hv:a.tmps[t]?=some (.bool b)):Region.wanted o (yielded ops a.tmps)=(b==want):=by
 unfold Region.wanted;rw[hg];have hy:yielded ops a.tmps j=some b:=by
  unfold yielded;unfold cX at ht;cases ho:ops[j]? with
  | none=>rw[ho] at ht;cases ht
  | some q=>
   rw[ho] at ht;have U4:q.dst=some t:=ht;simp[U4,hv]
 simp only[hy];cases b<;>cases want<;>rfl
theorem ND (h:fc m cx st a w) {t:Nat} {b:Bool} (hl:st.env.lookup t=some (.one (.sym (.bool b)))):a.tmps[t]?=some (.bool b):=by
 obtain⟨bs,S,hs,he⟩:=h;obtain⟨v,hv,hx⟩:=he.k _ _ (j2 hl);obtain⟨rfl,_⟩:=hx;exact hv
theorem NC (h:fc m cx st a w) {t:Nat} {b:Bool} (hl:st.env.lookup t=some (.one (.val (.bool b)))):a.tmps[t]?=some (.bool b):=by
 obtain⟨bs,S,hs,he⟩:=h;obtain⟨v,hv,hx⟩:=he.k _ _ (j2 hl);obtain⟨rfl,_⟩:=hx;exact hv
theorem Qo {f:dA->T dA} {i:Nat} (ho:ops[i]?=some o) (h:(gdT m ops o f st).hit cV) (bT:fc m cx st a w) (hf:∀st,(f st).hit cV->fc m cx st a w->o.wp P a w K Q) (hK:∀a' w',fc m cx cV a' w'->K a' w'):wpOp P ops Q i K a w:=by
 have go:∀st,(f st).hit cV->fc m cx st a w->Region.wanted o (yielded ops a.tmps)=true->wpOp P ops Q i K a w:=λst h1 h2 h3=>uA ho h3 (hf st h1 h2);have no:∀st,yV m o=true->xQ st o=cV->fc m cx st a w->Region.wanted o (yielded ops a.tmps)=false->wpOp P ops Q i K a w:=by
  intro st hd h1 h2 h3;unfold wpOp;rw[ho];simp only[h3,acC,if_false];subst h1;exact hK _ _ (h2.skip hd)
 unfold gdT at h;split at h
 ·rename_i hg;exact go st h bT (by simp[Region.wanted,hg])
 ·rename_i j want hg;split at h
  ·rename_i hd;split at h
   ·rename_i t ht;split at h
    ·rename_i b hl;have hw:=nG hg ht (NC bT hl);split at h
     ·rename_i e;rw[e] at hw;exact go st h bT hw
     ·rename_i e;rw[Bool.not_eq_true] at e;rw[e] at hw;exact no st hd h bT hw
    ·rename_i b hl;have hw:=nG hg ht (ND bT hl);cases b with
     | true=>
      have h:=h.1 rfl;have ma:=bT.lit hl (c:=true) rfl;cases want with
      | true=>exact go _ h ma hw
      | false=>exact no _ hd h ma hw
     | false=>
      have h:=h.2 rfl;have ma:=bT.lit hl (c:=false) rfl;cases want with
      | true=>exact no _ hd h ma hw
      | false=>exact go _ h ma hw
    ·rename_i hl;exact no st hd h bT (rj hg ht (Ka bT hl))
    ·exact h.elim
   ·exact h.elim
  ·exact h.elim
theorem zN:∀(l:List Oper) (i:Nat) {st:dA} {a:Act} {w:World},ops.toList.drop i=l->(Fo C m ops l st).hit cV->fc m cx st a w->(∀a' w',fc m cx cV a' w'->Q .normal a' w')->wpOps P ops Q (List.range' i l.length) a w
 | [],i,st,a,w,hl,h,bT,hQ=>by
  have h:st=cV:=h;subst h;exact hQ a w bT
 | o::l,i,st,a,w,hl,h,bT,hQ=>by
  obtain⟨st1,h1,h2⟩:=T.hit_bind h;have ho:ops[i]?=some o:=by
   have:=congrArg (λl:List Oper=>l[0]?) hl;simp only[acA,adq,adb,Array.getElem?_toList] at this;exact this
  have xE:ops.toList.drop (i+1)=l:=by
   rw[<-adh,hl];rfl
  rw[aaJ,List.range'_succ,wpOps_cons];exact Qo ho h1 bT (λst q1 q2=>Ny q1 q2 λa' w' q=>zN l (i+1) xE h2 q hQ) λa' w' q=>zN l (i+1) xE h2 q hQ
theorem Ko {id:Nat} (h:(Fo C m ops ops.toList st).hit cV) (bT:fc m cx st a w) (hQ:∀a' w',fc m cx cV a' w'->Q .normal a' w'):(Code.region id ops false).wp P Q a w:=by
 refine wp_region ?_;have:=zN (C:=C) ops.toList 0 rfl h bT hQ;rw[abK] at this;rw[List.range_eq_range'];exact this
end
inductive Lf where
 | nrm (st:dA)
 | ext (id:Nat) (st:dA)
 | ret (r:XV) (st:dA)
inductive KI where
 | code (n:Nat) (c:Code)
 | blk (id:Nat)
def jg:Code->List Code
 | .seq a b=>jg a++jg b
 | .cond _ a b=>jg a++jg b
 | .block _ b=>jg b
 | .loop b=>.loop b::jg b
 | _=>[]
def oi (id:Nat):List KI->Option (List KI)
 | []=>none
 | .blk j::ks=>if id=j then some ks else oi id ks
 | .code _ _::ks=>oi id ks
def RtS (P:Program) (fn:Func) (m:Nat) (cx:Cx) (r:XV) (st:dA) (a:Act) (w:World):Prop:=
 ∃bs S S',HS cx bs w S st.heap/\ER m bs w S st.env a/\(∀b,S' b->(cx.S0 b\/cx.w0.heap.size<=b\/cx.M b)/\b<w.heap.size)/\(cx.pb=[]\/∀b,S' b->S b)/\∃v,(results fn a.tmps).run P w=.ok v w/\XR [] w S' r v
structure Rg (P:Program) (m:Nat) where
 fn:Func
 pb:List Nat
 reg:Nat->Array Oper->Bool->dA->T dA
 ok:∀id ops dr (cx:Cx) (st cV:dA) (a:Act) (w:World) (Q:Exit->Act->World->Prop),(reg id ops dr st).hit cV->fc m cx st a w->(∀a' w',fc m cx cV a' w'->Q .normal a' w')->(Code.region id ops dr).wp P Q a w
 res:dA->Option XV
 resOk:∀(cx:Cx) (st:dA) (a:Act) (w:World) (r:XV),cx.pb=pb->res st=some r->fc m cx st a w->RtS P fn m cx r st a w
def LQ (P:Program) (fn:Func) (m:Nat) (cx:Cx) (l:Lf):Exit->Act->World->Prop
 | .normal,a,w=>∃st,Lf.nrm st=l/\fc m cx st a w
 | .exit id,a,w=>∃st,Lf.ext id st=l/\fc m cx st a w
 | .ret,a,w=>∃r st,Lf.ret r st=l/\RtS P fn m cx r st a w
 | _,_,_=>False
def Bp (P:Program) (fn:Func) (m:Nat) (pb:List Nat) (c:Code) (f:dA->T Lf):Prop:=∀(cx:Cx) (st:dA) (a:Act) (w:World) (l:Lf),cx.pb=pb->(f st).hit l->fc m cx st a w->c.wp P (LQ P fn m cx l) a w
structure xm (P:Program) (fn:Func) (m:Nat) (pb:List Nat) (loops:List Code) where
 f:Nat->Option (dA->T Lf)
 ok:∀(k:Nat) (g:dA->T Lf) (c:Code),f k=some g->loops[k]?=some c->Bp P fn m pb c g
def Q0 (x:Operand) (st:dA) (f:Bool->dA->T Lf):T Lf:=match ev st.env x with
 | some (.one (.val (.bool v)))=>f v st
 | some (.one (.sym (.bool v)))=>match x with
  | .tmp t=>.br v (f true (FP st t true)) (f false (FP st t false))
  | _=>.bad
 | _=>.bad
section
variable {P:Program} {m:Nat} {loops:List Code} (R:Rg P m) (L:xm P R.fn m R.pb loops)
def run:Nat->List KI->dA->T Lf
 | 0,_,_=>.bad
 | _+1,[],st=>.lf (.nrm st)
 | n+1,.blk _::ks,st=>run n ks st
 | n+1,.code i c::ks,st=>match c with
  | .skip=>run n ks st
  | .label _=>run n ks st
  | .seq a b=>run n (.code i a::.code (i+(jg a).length) b::ks) st
  | .block id b=>run n (.code i b::.blk id::ks) st
  | .exit id=>match oi id ks with
   | some UM=>run n UM st
   | none=>.lf (.ext id st)
  | .ret=>(T.op (R.res st)).bind λr=>.lf (.ret r st)
  | .cond x a b=>Q0 x st λv st=>run n ((if v then .code i a else .code (i+(jg a).length) b)::ks) st
  | .region id ops dr=>(R.reg id ops dr st).bind (run n ks)
  | .loop b=>match L.f i with
   | some g=>(g st).bind λl=>match l with
    | .nrm cV=>run n ks cV
    | .ext id cV=>match oi id ks with
     | some UM=>run n UM cV
     | none=>.lf (.ext id cV)
    | .ret r cV=>.lf (.ret r cV)
   | none=>run n (.code (i+1) b::.code i (.loop b)::ks) st
  | _=>.bad
end
def WK (P:Program) (Q:Exit->Act->World->Prop):List KI->Exit->Act->World->Prop
 | [],e,a,w=>Q e a w
 | .blk j::ks,e,a,w=>match e with
  | .exit id=>if id=j then WK P Q ks .normal a w else WK P Q ks (.exit id) a w
  | e=>WK P Q ks e a w
 | .code _ c::ks,e,a,w=>match e with
  | .normal=>c.wp P (WK P Q ks) a w
  | e=>WK P Q ks e a w
section
variable {P:Program} {Q Q':Exit->Act->World->Prop} {m:Nat} {cx:Cx} {loops:List Code} {R:Rg P m} {L:xm P R.fn m R.pb loops}
theorem WK.mono (h:∀e a w,Q e a w->Q' e a w):∀{ks:List KI} {e:Exit} {a:Act} {w:World},WK P Q ks e a w->WK P Q' ks e a w
 | [],_,_,_,hq=>h _ _ _ hq
 | .blk j::ks,e,a,w,hq=>by
  cases e with
  | exit id=>
   have hq:if id=j then WK P Q ks .normal a w else WK P Q ks (.exit id) a w:=hq
   show if id=j then WK P Q' ks .normal a w else WK P Q' ks (.exit id) a w
   split
   ·rename_i e;rw[if_pos e] at hq;exact WK.mono h hq
   ·rename_i e;rw[if_neg e] at hq;exact WK.mono h hq
  | _=>exact WK.mono (ks:=ks) h hq
 | .code i c::ks,e,a,w,hq=>by
  cases e with
  | normal=>exact wp_mono (c:=c) hq λe a w q=>WK.mono h q
  | _=>exact WK.mono (ks:=ks) h hq
theorem WK.ret:∀{ks:List KI} {a:Act} {w:World},Q .ret a w->WK P Q ks .ret a w
 | [],_,_,h=>h
 | .blk _::ks,_,_,h=>WK.ret (ks:=ks) h
 | .code _ _::ks,_,_,h=>WK.ret (ks:=ks) h
theorem WK.exit {id:Nat} {k2:List KI}:∀{k1:List KI} {a:Act} {w:World},(∀k3,oi id (k1++k2)=some (k3++k2)->(∃k0,k1=k0++.blk id::k3)->WK P Q k3 .normal a w)->(oi id (k1++k2)=oi id k2->Q (.exit id) a w)->WK P Q k1 (.exit id) a w
 | [],_,_,_,h=>h rfl
 | .blk j::ks,a,w,h1,h2=>by
  show if id=j then WK P Q ks .normal a w else WK P Q ks (.exit id) a w
  split
  ·rename_i e;subst e;exact h1 ks (by show(if id=id then some (ks++k2) else _)=_;rw[if_pos rfl]) ⟨[],rfl⟩
  ·rename_i e;have hp:oi id (.blk j::ks++k2)=oi id (ks++k2):=if_neg e;rw[hp] at h1 h2;exact WK.exit (k1:=ks) (λk3 q1 ⟨k0,q2⟩=>h1 k3 q1 ⟨.blk j::k0,by rw[q2];rfl⟩) h2
 | .code i c::ks,a,w,h1,h2=>by
  have hp:oi id (.code i c::ks++k2)=oi id (ks++k2):=rfl;rw[hp] at h1 h2;exact WK.exit (k1:=ks) (λk3 q1 ⟨k0,q2⟩=>h1 k3 q1 ⟨.code i c::k0,by rw[q2];rfl⟩) h2
def ux (loops:List Code) (ks:List KI):Prop:=∀i c,KI.code i c∈ks->∀j x,(jg c)[j]?=some x->loops[i+j]?=some x
def RQ (R:Rg P m) (L:xm P R.fn m R.pb loops) (cx:Cx) (l:Lf) (n:Nat) (k2:List KI):Exit->Act->World->Prop
 | .normal,a,w=>∃j st,j<=n/\(run R L j k2 st).hit l/\fc m cx st a w
 | .exit id,a,w=>∃j st,j<=n/\(match oi id k2 with|some k3=>(run R L j k3 st).hit l|none=>Lf.ext id st=l)/\fc m cx st a w
 | .ret,a,w=>∃r st,Lf.ret r st=l/\RtS P R.fn m cx r st a w
 | _,_,_=>False
theorem RQ.up {l:Lf} {n n':Nat} {k2:List KI} (h:n<=n'):∀e a w,RQ R L cx l n k2 e a w->RQ R L cx l n' k2 e a w:=by
 intro e a w hq;cases e with
 | normal=>obtain⟨j,st,h1,h2⟩:=hq;exact⟨j,st,aax h1 h,h2⟩
 | exit id=>obtain⟨j,st,h1,h2⟩:=hq;exact⟨j,st,aax h1 h,h2⟩
 | _=>exact hq
theorem ux.tail {ks:List KI} {x:KI} (h:ux loops (x::ks)):ux loops ks:=λi c hm=>h i c (aa0 _ hm)
theorem ux.cons {ks:List KI} {i:Nat} {c:Code} (h:ux loops ks) (hc:∀j x,(jg c)[j]?=some x->loops[i+j]?=some x):ux loops (.code i c::ks):=λi' c' hm j x hx=>by
 rcases abs.1 hm with e|hm
 ·injection e with e1 e2;subst e1 e2;exact hc j x hx
 ·exact h i' c' hm j x hx
theorem ux.blk {ks:List KI} {i:Nat} (h:ux loops ks):ux loops (.blk i::ks):=λi' c' hm=>by
 rcases abs.1 hm with e|hm
 ·cases e
 ·exact h i' c' hm
theorem ux.sub {k0 k1:List KI} (h:ux loops (k0++k1)):ux loops k1:=λi c hm=>h i c (adr _ hm)
theorem QZ {x:Operand} {st:dA} {f:Bool->dA->T Lf} {l:Lf} {a:Act} {w:World} {c d:Code} (h:(Q0 x st f).hit l) (bT:fc m cx st a w) (ht:∀st,(f true st).hit l->fc m cx st a w->c.wp P Q a w) (hf:∀st,(f false st).hit l->fc m cx st a w->d.wp P Q a w):(Code.cond x c d).wp P Q a w:=by
 unfold Q0 at h;split at h
 ·rename_i v hv;obtain⟨bs,S,hs,he⟩:=bT;have hx:=(bW he hv).1;cases v with
  | true=>exact wp_cond_true hx (ht st h ⟨bs,S,hs,he⟩)
  | false=>exact wp_cond_false hx (hf st h ⟨bs,S,hs,he⟩)
 ·rename_i v hv;split at h
  ·rename_i t;have hx:a.eval (.tmp t)=.bool v:=by obtain⟨bs,S,hs,he⟩:=bT;exact(bW he hv).1
   cases v with
   | true=>exact wp_cond_true hx (ht _ (h.1 rfl) (bT.lit hv rfl))
   | false=>exact wp_cond_false hx (hf _ (h.2 rfl) (bT.lit hv rfl))
  ·exact h.elim
 ·exact h.elim
theorem ajU {l:Lf} (nQ:cx.pb=R.pb):∀(n:Nat) (k1 k2:List KI) (st:dA) (a:Act) (w:World),(run R L n (k1++k2) st).hit l->fc m cx st a w->ux loops (k1++k2)->WK P (RQ R L cx l n k2) k1 .normal a w:=by
 intro n;induction n using Nat.strongRecOn with
 | _ n ih=>
 intro k1 k2 st a w h bT hk;cases k1 with
 | nil=>exact⟨n,st,aaG _,h,bT⟩
 | cons x k1=>
  cases n with
  | zero=>exact h.elim
  | succ n=>
   have U0:∀e a w,RQ R L cx l n k2 e a w->RQ R L cx l (n+1) k2 e a w:=RQ.up (Nat.le_succ n);have PZ:∀(id:Nat) (j:Nat) (st:dA) (a:Act) (w:World),j<=n->fc m cx st a w->(match oi id (k1++k2) with|some k3=>(run R L j k3 st).hit l|none=>Lf.ext id st=l)->WK P (RQ R L cx l (n+1) k2) k1 (.exit id) a w:=by
    intro id j st a w hj bT hp;refine WK.exit (k2:=k2) (λk3 q1 ⟨k0,q2⟩=>?_) λq=>?_
    ·rw[q1] at hp;exact WK.mono (RQ.up (by omega)) (ih j (by omega) k3 k2 st a w hp bT (by
      have lq:ux loops (k1++k2):=hk.tail;rw[q2,abS] at lq;exact(ux.sub lq).tail))
    ·rw[q] at hp;exact⟨j,st,by omega,hp,bT⟩
   cases x with
   | blk id=>exact WK.mono (ks:=k1) U0 (ih n (acP n) k1 k2 st a w h bT hk.tail)
   | code i c=>
    have hc:=hk i c aaz;have De:=hk.tail;show c.wp P (WK P (RQ R L cx l (n+1) k2) k1) a w;cases c with
    | skip=>exact wp_skip (WK.mono U0 (ih n (acP n) k1 k2 st a w h bT De))
    | label q=>exact wp_label (WK.mono U0 (ih n (acP n) k1 k2 st a w h bT De))
    | seq x y=>
     have hy:∀j z,(jg y)[j]?=some z->loops[i+(jg x).length+j]?=some z:=λj z hz=>by
      rw[acv];refine hc _ z ?_;show(jg x++jg y)[_]?=_;rw[aar (by omega),abB];exact hz
     have hx:∀j z,(jg x)[j]?=some z->loops[i+j]?=some z:=λj z hz=>hc j z (by
      show(jg x++jg y)[j]?=_;rw[aay (aad.1 hz).1];exact hz)
     have:=ih n (acP n) (.code i x::.code (i+(jg x).length) y::k1) k2 st a w h bT (ux.cons (ux.cons De hy) hx);refine wp_seq (wp_mono (c:=x) (WK.mono (ks:=.code i x::.code (i+(jg x).length) y::k1) U0 this) λe a w q=>?_);cases e<;>exact q
    | block id b=>
     have:=ih n (acP n) (.code i b::.blk id::k1) k2 st a w h bT (ux.cons (ux.blk De) hc);refine wp_block (wp_mono (c:=b) (WK.mono (ks:=.code i b::.blk id::k1) U0 this) λe a w q=>?_);cases e<;>exact q
    | exit id=>
     have h:(match oi id (k1++k2) with|some UM=>run R L n UM st|none=>T.lf (Lf.ext id st)).hit l:=h;refine wp_exit (PZ id n st a w (aaG _) bT ?_);split
     ·rename_i k3 e;rw[e] at h;exact h
     ·rename_i e;rw[e] at h;exact h
    | ret=>
     obtain⟨r,q1,q2⟩:=T.hit_bind h;exact wp_ret (WK.ret ⟨r,st,q2,R.resOk cx st a w r nQ (T.hit_op q1) bT⟩)
    | cond x c d=>
     refine QZ (P:=P) (Q:=WK P (RQ R L cx l (n+1) k2) k1) h bT (λst q1 q2=>?_) λst q1 q2=>?_
     ·exact WK.mono (ks:=.code i c::k1) U0 (ih n (acP n) (.code i c::k1) k2 st a w q1 q2 (ux.cons De λj z hz=>hc j z (by
       show(jg c++jg d)[j]?=_;rw[aay (aad.1 hz).1];exact hz)))
     ·exact WK.mono (ks:=.code (i+(jg c).length) d::k1) U0 (ih n (acP n) (.code (i+(jg c).length) d::k1) k2 st a w q1 q2 (ux.cons De λj z hz=>by
       rw[acv];refine hc _ z ?_;show(jg c++jg d)[_]?=_;rw[aar (by omega),abB];exact hz))
    | region id ops dr=>
     obtain⟨st1,q1,q2⟩:=T.hit_bind h;exact R.ok id ops dr cx st st1 a w _ q1 bT λa' w' q3=>WK.mono U0 (ih n (acP n) k1 k2 st1 a' w' q2 q3 De)
    | loop b=>
     have afM:∀st,run R L (n+1) (.code i (.loop b)::(k1++k2)) st=match L.f i with
      | some g=>(g st).bind λl=>match l with
       | .nrm cV=>run R L n (k1++k2) cV
       | .ext id cV=>match oi id (k1++k2) with
        | some UM=>run R L n UM cV
        | none=>.lf (.ext id cV)
       | .ret r cV=>.lf (.ret r cV)
      | none=>run R L n (.code (i+1) b::.code i (.loop b)::(k1++k2)) st:=λ_=>rfl
     cases hf:L.f i with
     | some g=>
      have h:(run R L (n+1) (.code i (.loop b)::(k1++k2)) st).hit l:=h;rw[afM,hf] at h;obtain⟨l',q1,q2⟩:=T.hit_bind h;refine wp_mono (L.ok i g (.loop b) hf (hc 0 _ rfl) cx st a w l' nQ q1 bT) λe a' w' q=>?_;cases e with
      | normal=>
       obtain⟨cV,rfl,q3⟩:=q;exact WK.mono U0 (ih n (acP n) k1 k2 cV a' w' q2 q3 De)
      | exit id=>
       obtain⟨cV,rfl,q3⟩:=q;refine PZ id n cV a' w' (aaG _) q3 ?_;simp only at q2;split
       ·rename_i k3 e;rw[e] at q2;exact q2
       ·rename_i e;rw[e] at q2;exact q2
      | ret=>
       obtain⟨r,cV,rfl,q3⟩:=q;exact WK.ret ⟨r,cV,q2,q3⟩
      | _=>exact q.elim
     | none=>
      refine wp_loop_ghost (λj a w=>∃cV,j<=n+1/\(run R L j (.code i (.loop b)::(k1++k2)) cV).hit l/\fc m cx cV a w) (n+1) ⟨st,aaG _,h,bT⟩ ?_;rintro j a1 w1 ⟨st1,hj,h1,ml⟩;cases j with
      | zero=>exact h1.elim
      | succ j=>
       have aak:run R L (j+1) (.code i (.loop b)::(k1++k2)) st1=match L.f i with
        | some g=>(g st1).bind λl=>match l with
         | .nrm cV=>run R L j (k1++k2) cV
         | .ext id cV=>match oi id (k1++k2) with
          | some UM=>run R L j UM cV
          | none=>.lf (.ext id cV)
         | .ret r cV=>.lf (.ret r cV)
        | none=>run R L j (.code (i+1) b::.code i (.loop b)::(k1++k2)) st1:=rfl
       rw[aak,hf] at h1;have:=ih j (by omega) [.code (i+1) b] (.code i (.loop b)::(k1++k2)) st1 a1 w1 h1 ml (ux.cons (ux.cons De hc) λq z hz=>by
        rw[acv,adT 1 q];exact hc (q+1) z hz)
       refine wp_mono (c:=b) this λe a2 w2 q=>?_;cases e with
       | normal=>
        obtain⟨j',cV,q1,q2,q3⟩:=q;exact⟨j',by omega,cV,by omega,q2,q3⟩
       | exit id=>
        obtain⟨j',cV,q1,q2,q3⟩:=q;exact PZ id j' cV a2 w2 (by omega) q3 q2
       | ret=>exact WK.ret q
       | _=>exact q.elim
    | _=>exact h.elim
theorem zu (nQ:cx.pb=R.pb) {n:Nat} {c:Code} {i:Nat} {st:dA} {a:Act} {w:World} {l:Lf} (h:(run R L n [.code i c] st).hit l) (bT:fc m cx st a w) (hk:∀j x,(jg c)[j]?=some x->loops[i+j]?=some x):c.wp P (LQ P R.fn m cx l) a w:=by
 have:=ajU nQ n [.code i c] [] st a w h bT (ux.cons (λ_ _ h=>by cases h) hk);refine wp_mono (c:=c) this λe a w q=>?_;cases e with
 | normal=>
  obtain⟨j,cV,_,q1,q2⟩:=q;cases j with
  | zero=>exact q1.elim
  | succ j=>exact⟨cV,q1,q2⟩
 | exit id=>
  obtain⟨j,cV,_,q1,q2⟩:=q;exact⟨cV,q1,q2⟩
 | ret=>exact q
 | _=>exact q.elim
end
inductive ZS where
 | d (t:Ty)
 | own (t:Ty) (e:TypeId)
 | any
inductive CS where
 | d (t:Ty)
 | own (t:Ty) (e:TypeId)
 | any
 | zc (t tn:Ty) (e:TypeId)
 | zip (t tn:Ty) (e:TypeId) (zs:List ZS)
 | mp (kt:Kt) (t:Ty)
 | mr (kt:Kt) (t:Ty) (e:TypeId)
inductive SS where
 | c (s:CS)
 | st (k:Nat)
 | box (ty:TypeId) (cs:List CS)
 | fn (k:FuncId)
 | rf (k:Nat)
 | cl (k:FuncId) (t:Ty)
 | sb (o o2:Nat)
def SS.isSb:SS->Bool
 | .sb _ _=>true
 | _=>false
def ZV:ZS->Type
 | .d t=>El t
 | .own t _=>List (El t)
 | .any=>Unit
def Bm:List ZS->Type
 | []=>Unit
 | s::l=>ZV s×Bm l
def CV:CS->Type
 | .d t=>El t
 | .own t _=>List (El t)
 | .any=>Unit
 | .zc t tn _=>Nat×List (El t)×List (El tn)
 | .zip t tn _ zs=>Nat×List (El t)×Bm zs×List (El tn)
 | .mp kt t=>Nat×(kt.K->Option (El t))
 | .mr kt t _=>Nat×(kt.K->Option (List (El t)))
def eB:List CS->Type
 | []=>Unit
 | s::l=>CV s×eB l
def SW:SS->Type
 | .c s=>CV s
 | .st k=>GQ k
 | .box _ cs=>eB cs
 | .fn _=>Unit
 | .rf k=>GQ k
 | .cl _ t=>El t
 | .sb _ _=>Unit
def aV:List (Nat×SS)->Type
 | []=>Unit
 | p::l=>SW p.2×aV l
def Cy (n:Nat):(s:ZS)->ZV s->AV×List ah
 | .d t,x=>(one t x,[])
 | .own t e,rs=>(.own n,[.row t e rs])
 | .any,_=>(.any n,[.dead])
def rH (n:Nat):(l:List ZS)->Bm l->List AV×List ah
 | [],_=>([],[])
 | s::l,x=>((Cy n s x.1).1::(rH (n+(Cy n s x.1).2.length) l x.2).1,(Cy n s x.1).2++(rH (n+(Cy n s x.1).2.length) l x.2).2)
def tP (n:Nat):(s:CS)->CV s->AV×List ah
 | .d t,x=>(one t x,[])
 | .own t e,rs=>(.own n,[.row t e rs])
 | .any,_=>(.any n,[.dead])
 | .zc t tn e,x=>(.own n,[.zc e t tn x.1 x.2.1 x.2.2])
 | .mp kt t,x=>(.mp n,[.mp kt t x.1 x.2])
 | .mr kt t e,x=>(.mp n,[.mq (n+1),.mr n kt t e x.1 x.2])
 | .zip t tn e zs,x=>(.own n,.zip (n+1) e t tn x.1 x.2.1 (rH (n+2) zs x.2.2.1).1 x.2.2.2::.dead::(rH (n+2) zs x.2.2.1).2)
def rK (n:Nat):(l:List CS)->eB l->List AV×List ah
 | [],_=>([],[])
 | s::l,x=>((tP n s x.1).1::(rK (n+(tP n s x.1).2.length) l x.2).1,(tP n s x.1).2++(rK (n+(tP n s x.1).2.length) l x.2).2)
def xi (n:Nat):(s:SS)->SW s->XV×List ah
 | .c s,x=>(.one (tP n s x).1,(tP n s x).2)
 | .st k,x=>(.agg (jS (.st k) x),[])
 | .fn k,_=>(.one (.val (.func (.func k) #[] #[])),[])
 | .rf k,x=>(.one (.ref (.st k) x 0),[])
 | .cl k t,x=>(.one (.cl k t x),[])
 | .sb o o2,_=>(.one (.sub o o2 0),[])
 | .box ty cs,x=>(.one (.ptr n 0),.cells ty (rK (n+1) cs x).1::(rK (n+1) cs x).2)
def rJ (n:Nat):(l:List (Nat×SS))->aV l->Env×List ah
 | [],_=>([],[])
 | p::l,x=>((p.1,(xi n p.2 x.1).1)::(rJ (n+(xi n p.2 x.1).2.length) l x.2).1,(xi n p.2 x.1).2++(rJ (n+(xi n p.2 x.1).2.length) l x.2).2)
def cN (l:List (Nat×SS)) (x:aV l):dA:=⟨(rJ 0 l x).1,(rJ 0 l x).2⟩
def YY (H:List ah) (t:Ty) (e:TypeId):AV->Option (List (El t)×List (Option Nat))
 | .own o=>match H[o]? with
  | some (.row t' e' rs)=>if e'=e then(ki t (.list t' rs false)).map λx=>(x,[some o]) else none
  | _=>none
 | .val (.slice none 0 0)=>some ([],[none])
 | _=>none
def rdN:AV->Option (Unit×List (Option Nat))
 | .any o=>some ((),[some o])
 | _=>some ((),[none])
def rdZ (H:List ah):(s:ZS)->AV->Option (ZV s×List (Option Nat))
 | .d t,a=>(M8 t a).map λx=>(x,[])
 | .own t e,a=>YY H t e a
 | .any,a=>rdN a
def Ch (H:List ah):(l:List ZS)->List AV->Option (Bm l×List (Option Nat))
 | [],[]=>some ((),[])
 | s::l,a::r=>match rdZ H s a,Ch H l r with
  | some x,some y=>some ((x.1,y.1),x.2++y.2)
  | _,_=>none
 | _,_=>none
def Kr (H:List ah) (t tn:Ty) (e:TypeId):AV->Option ((Nat×List (El t)×List (El tn))×List (Option Nat))
 | .own o=>match H[o]? with
  | some (.zc e' t' Nc gO done rest)=>match Ty.eq? t' t,Ty.eq? Nc tn with
   | some h,some h'=>if e'=e then some ((gO,h.down▸done,h'.down▸rest),[some o]) else none
   | _,_=>none
  | _=>none
 | _=>none
def xX (H:List ah) (t tn:Ty) (e:TypeId) (zs:List ZS):AV->Option ((Nat×List (El t)×Bm zs×List (El tn))×List (Option Nat))
 | .own o=>match H[o]? with
  | some (.zip o2 e' t' Nc gO done cur rest)=>match Ty.eq? t' t,Ty.eq? Nc tn,Ch H zs cur with
   | some h,some h',some x=>if e'=e then some ((gO,h.down▸done,x.1,h'.down▸rest),some o::some o2::x.2) else none
   | _,_,_=>none
  | _=>none
 | _=>none
def Ku (H:List ah) (kt:Kt) (t:Ty):AV->Option ((Nat×(kt.K->Option (El t)))×List (Option Nat))
 | .mp o=>match H[o]? with
  | some (.mp j5 t' n f)=>match Ty.eq? (.mp j5 t') (.mp kt t) with
   | some h=>some ((n,(h.down▸(f:El (.mp j5 t')):El (.mp kt t))),[some o])
   | none=>none
  | _=>none
 | _=>none
def Ks (H:List ah) (kt:Kt) (t:Ty) (e:TypeId):AV->Option ((Nat×(kt.K->Option (List (El t))))×List (Option Nat))
 | .mp p=>match H[p]? with
  | some (.mq q)=>match H[q]? with
   | some (.mr p' j5 t' e' n f)=>match Ty.eq? (.mp j5 (.list t')) (.mp kt (.list t)) with
    | some h=>if p'=p/\e'=e then some ((n,(h.down▸(f:El (.mp j5 (.list t'))):El (.mp kt (.list t)))),[some p,some q]) else none
    | none=>none
   | _=>none
  | _=>none
 | _=>none
def rdC (H:List ah):(s:CS)->AV->Option (CV s×List (Option Nat))
 | .d t,a=>(M8 t a).map λx=>(x,[])
 | .own t e,a=>YY H t e a
 | .any,a=>rdN a
 | .zc t tn e,a=>Kr H t tn e a
 | .zip t tn e zs,a=>xX H t tn e zs a
 | .mp kt t,a=>Ku H kt t a
 | .mr kt t e,a=>Ks H kt t e a
def xv (H:List ah):(l:List CS)->List AV->Option (eB l×List (Option Nat))
 | [],[]=>some ((),[])
 | s::l,a::r=>match rdC H s a,xv H l r with
  | some x,some y=>some ((x.1,y.1),x.2++y.2)
  | _,_=>none
 | _,_=>none
def rdA (H:List ah) (s:CS):XV->Option (CV s×List (Option Nat))
 | .one a=>rdC H s a
 | _=>none
def rdG (k:Nat):XV->Option (GQ k×List (Option Nat))
 | .agg cs=>(un (.st k) cs).map λx=>(x,[])
 | _=>none
def rdB (H:List ah) (ty:TypeId) (cs:List CS):XV->Option (eB cs×List (Option Nat))
 | .one (.ptr o 0)=>match H[o]? with
  | some (.cells oN r)=>if oN=ty then(xv H cs r).map λx=>(x.1,some o::x.2) else none
  | _=>none
 | _=>none
def YZ (k:FuncId):XV->Option (Unit×List (Option Nat))
 | .one (.val (.func (.func j) a b))=>if j=k/\a.size=0/\b.size=0 then some ((),[]) else none
 | _=>none
def YX (k:Nat):XV->Option (GQ k×List (Option Nat))
 | .one (.ref t x 0)=>match Ty.eq? t (.st k) with
  | some h=>some ((h.down▸x:El (.st k)),[])
  | none=>none
 | _=>none
def Y0 (k:FuncId) (t:Ty):XV->Option (El t×List (Option Nat))
 | .one (.cl k' t' x)=>match Ty.eq? t' t with
  | some h=>if k'=k then some ((h.down▸x:El t),[]) else none
  | none=>none
 | _=>none
def YV:XV->Option (Unit×List (Option Nat))
 | .one (.sub _ _ 0)=>some ((),[])
 | _=>none
def TI (H:List ah):(s:SS)->XV->Option (SW s×List (Option Nat))
 | .c s,x=>rdA H s x
 | .st k,x=>rdG k x
 | .box ty cs,x=>rdB H ty cs x
 | .fn k,x=>YZ k x
 | .rf k,x=>YX k x
 | .cl k t,x=>Y0 k t x
 | .sb _ _,x=>YV x
def Ic (H:List ah) (env:Env):(l:List (Nat×SS))->Option (aV l×List (Option Nat))
 | []=>some ((),[])
 | p::l=>match (env.lookup p.1).bind (TI H p.2),Ic H env l with
  | some x,some y=>some ((x.1,y.1),x.2++y.2)
  | _,_=>none
def Da (pb:List Nat) (ids:List (Option Nat)):Bool:=(List.range ids.length).all (λi=>(List.range i).all λj=>match ids[i]?,ids[j]? with
 | some (some a),some (some b)=>a !=b
 | _,_=>true)&&pb.all λi=>ids[i]?==some (some i)
def adU (env:Env) (ids:List (Option Nat)) (l:List (Nat×SS)):Bool:=l.all λp=>match p.2 with
 | .sb _ o2=>match env.lookup p.1 with
  | some (.one (.sub _ q _))=>ids[o2]?==some (some q)
  | _=>false
 | _=>true
def Ci (H:List ah) (env:Env) (l:List (Nat×SS)):Option (aV l×List (Option Nat)):=if l.all (λp=>!p.2.isSb) then Ic H env l else none
def oh (pb:List Nat) (l:List (Nat×SS)) (st:dA):Option (aV l):=(Ic st.heap st.env l).bind λp=>if Da pb p.2&&adU st.env p.2 l then some p.1 else none
inductive Re (bs:List Value) (H:List ah):List (Option Nat)->List ah->List Value->Prop where
 | nil:Re bs H [] [] []
 | sm {o:Nat} {x y:ah} {v:Value} {ids:List (Option Nat)} {ys:List ah} {us:List Value}:H[o]?=some x->bs[o]?=some v->(∀c,Bk y v c->Bk x v c)->Re bs H ids ys us->Re bs H (some o::ids) (y::ys) (v::us)
 | nn {y:ah} {v:Value} {ids:List (Option Nat)} {ys:List ah} {us:List Value}:(∀c,¬Bk y v c)->Re bs H ids ys us->Re bs H (none::ids) (y::ys) (v::us)
section
variable {cx:Cx} {bs aZ:List Value} {w:World} {S:Nat->Prop} {H:List ah} {m:Nat} {env:Env} {a:Act}
theorem Re.append {ids afc:List (Option Nat)} {ys ys':List ah} {us pF:List Value} (h:Re bs H ids ys us) (h':Re bs H afc ys' pF):Re bs H (ids++afc) (ys++ys') (us++pF):=by
 induction h with
 | nil=>exact h'
 | sm h1 h2 h3 _ ih=>exact .sm h1 h2 h3 ih
 | nn h1 _ ih=>exact .nn h1 ih
theorem Re.len {ids:List (Option Nat)} {ys:List ah} {us:List Value} (h:Re bs H ids ys us):ids.length=ys.length/\us.length=ys.length:=by
 induction h with
 | nil=>exact⟨rfl,rfl⟩
 | sm _ _ _ _ ih=>simp[ih.1,ih.2]
 | nn _ _ ih=>simp[ih.1,ih.2]
theorem Re.get {ids:List (Option Nat)} {ys:List ah} {us:List Value} (h:Re bs H ids ys us):∀(i:Nat) (y:ah) (v:Value),ys[i]?=some y->us[i]?=some v->(∃o x,ids[i]?=some (some o)/\H[o]?=some x/\bs[o]?=some v/\(∀c,Bk y v c->Bk x v c))\/(ids[i]?=some none/\∀c,¬Bk y v c):=by
 induction h with
 | nil=>intro i y v h;cases h
 | sm h1 h2 h3 _ ih=>
  intro i y v hy hv;cases i with
  | zero=>injection hy with hy;injection hv with hv;subst hy hv;exact .inl ⟨_,_,rfl,h1,h2,h3⟩
  | succ i=>exact ih i y v (by simpa using hy) (by simpa using hv)
 | nn h1 _ ih=>
  intro i y v hy hv;cases i with
  | zero=>injection hy with hy;injection hv with hv;subst hy hv;exact .inr ⟨rfl,h1⟩
  | succ i=>exact ih i y v (by simpa using hy) (by simpa using hv)
def EQ (aZ us:List Value) (n:Nat):Prop:=∀(j:Nat) (u:Value),us[j]?=some u->aZ[n+j]?=some u
theorem EQ.left {us pF:List Value} {n:Nat} (h:EQ aZ (us++pF) n):EQ aZ us n:=λj u hj=>h j u (by rw[aay (aad.1 hj).1];exact hj)
theorem EQ.right {us pF:List Value} {n:Nat} (h:EQ aZ (us++pF) n):EQ aZ pF (n+us.length):=λj u hj=>by
 rw[acv];exact h _ u (by rw[aar (by omega),abB];exact hj)
def jl (aZ:List Value) (w:World) (S:Nat->Prop) (ys:List ah) (us:List Value):Prop:=∀(j:Nat) (y:ah) (u:Value),ys[j]?=some y->us[j]?=some u->OR aZ w S y u
theorem jl.append {ys ys':List ah} {us pF:List Value} (h:jl aZ w S ys us) (h':jl aZ w S ys' pF) (hl:us.length=ys.length):jl aZ w S (ys++ys') (us++pF):=λj y u hy hu=>by
 by_cases hj:j<ys.length
 ·rw[aay hj] at hy;rw[aay (by omega)] at hu;exact h j y u hy hu
 ·rw[aar (by omega)] at hy;rw[aar (by omega),hl] at hu;exact h' _ y u hy hu
theorem Zd {t:Ty} {b:AV} {x:El t} {v:Value} (ht:t.one=true) (h:M8 t b=some x) (hv:VR bs w S b v):VR aZ w S (one t x) v:=uf ht (nH h hv)
theorem SX {t:Ty} {b:AV} {x:El t} (h:M8 t b=some x):t.one=true:=by
 cases t<;>first|rfl|cases h
theorem zV (hs:HS cx bs w S H) {s:ZS} {b:AV} {x:ZV s} {ids:List (Option Nat)} {v:Value} (h:rdZ H s b=some (x,ids)) (hv:VR bs w S b v) (n:Nat) : ∃us,Re bs H ids (Cy n s x).2 us/\∀aZ,EQ aZ us n->VR aZ w S (Cy n s x).1 v/\jl aZ w S (Cy n s x).2 us:=by
 cases s with
 | d t=>
  have h:(M8 t b).map (λx=>(x,([]:List (Option Nat))))=some (x,ids):=h;cases e:M8 t b with
  | none=>rw[e] at h;cases h
  | some y=>
   rw[e] at h;injection h with h
   injection h with h1 h2
   subst h1 h2;exact⟨[],.nil,λaZ _=>⟨Zd (SX e) e hv,λj y u hy=>by cases hy⟩⟩
 | own t e=>
  replace h:YY H t e b=some (x,ids):=h;unfold YY at h;split at h
  ·rename_i o;split at h
   ·rename_i t' e' rs hH;split at h
    ·rename_i ee;subst ee;cases hu:ki t (.list t' rs false) with
     | none=>rw[hu] at h;cases h
     | some rs'=>
      rw[hu] at h;injection h with h
      injection h with h1 h2
      subst h1 h2;have:∃q:t'=t,rs'=q▸rs:=by
       unfold ki at hu;simp only at hu;split at hu
       ·rename_i q _;injection hu with hu
        exact⟨q.down,hu.symm⟩
       ·cases hu
      obtain⟨q,rfl⟩:=this;subst q;obtain⟨hb,fm⟩:=hv;refine⟨[v],.sm hH hb (λ_ h=>h) .nil,λaZ nU=>⟨⟨nU 0 v rfl,fm⟩,λj y u hy hu=>?_⟩⟩;cases j with
      | zero=>injection hy with hy;injection hu with hu;subst hy hu;exact hs.o o _ _ hH hb
      | succ j=>cases hy
    ·cases h
   ·cases h
  ·injection h with h
   injection h with h1 h2
   subst h1 h2;obtain⟨rfl,_⟩:=hv;refine⟨[.slice none 0 0],.nn (λ_ h=>by cases h) .nil,λaZ nU=>⟨⟨nU 0 _ rfl,_,_,_,rfl⟩,λj y u hy hu=>?_⟩⟩;cases j with
   | zero=>injection hy with hy;injection hu with hu;subst hy hu;exact Own.nil' w S (λb q=>(hs.s b q).1) 0 e
   | succ j=>cases hy
  ·cases h
 | any=>
  have fin:∀{us:List Value},us=[v]->∀aZ,EQ aZ us n->VR aZ w S (.any n) v/\jl aZ w S [.dead] us:=by
   rintro us rfl aZ nU;refine⟨⟨nU 0 v rfl,hv.one⟩,λj y u hy hu=>?_⟩;cases j with
   | zero=>injection hy with hy;subst hy;exact trivial
   | succ j=>cases hy
  replace h:rdN b=some (x,ids):=h;unfold rdN at h;split at h
  ·rename_i o;injection h with h
   injection h with h1 h2
   subst h2;have ho:o<H.length:=by rw[<-hs.len];exact(aad.1 hv.1).1
   exact⟨[v],.sm (aac ho) hv.1 (λ_ h=>by cases h) .nil,fin rfl⟩
  ·injection h with h
   injection h with h1 h2
   subst h2;exact⟨[v],.nn (λ_ h=>by cases h) .nil,fin rfl⟩
theorem H8 (hs:HS cx bs w S H):∀{l:List ZS} {qs:List AV} {x:Bm l} {ids:List (Option Nat)} {vs:List Value},Ch H l qs=some (x,ids)->F2 (VR bs w S) qs vs->∀n, ∃us,Re bs H ids (rH n l x).2 us/\∀aZ,EQ aZ us n->F2 (VR aZ w S) (rH n l x).1 vs/\jl aZ w S (rH n l x).2 us
 | [],[],x,ids,_,h,hv,n=>by cases hv;injection h with h;injection h with h1 h2;subst h1 h2;exact⟨[],.nil,λ_ _=>⟨.nil,λj y u hy=>by cases hy⟩⟩
 | s::l,b::qs,x,ids,_,h,hv,n=>by
  cases hv with
  | cons h1 h2=>
   unfold Ch at h;split at h
   ·rename_i p q hp hq;injection h with h
    injection h with e1 e2
    subst e1 e2;obtain⟨us1,r1,k1⟩:=zV hs (x:=p.1) (ids:=p.2) hp h1 n;obtain⟨us2,r2,k2⟩:=H8 hs (x:=q.1) (ids:=q.2) hq h2 (n+(Cy n s p.1).2.length);refine⟨us1++us2,r1.append r2,λaZ nU=>?_⟩;obtain⟨v1,o1⟩:=k1 aZ nU.left;obtain⟨v2,o2⟩:=k2 aZ (by have:=nU.right;rw[r1.len.2] at this;exact this);exact⟨.cons v1 v2,o1.append o2 r1.len.2⟩
   ·cases h
 | [],_::_,_,_,_,h,_,_=>by cases h
 | _::_,[],_,_,_,h,_,_=>by cases h
theorem N8 (hs:HS cx bs w S H) {s:CS} {b:AV} {x:CV s} {ids:List (Option Nat)} {v:Value} (h:rdC H s b=some (x,ids)) (hv:VR bs w S b v) (n:Nat) : ∃us,Re bs H ids (tP n s x).2 us/\∀aZ,EQ aZ us n->VR aZ w S (tP n s x).1 v/\jl aZ w S (tP n s x).2 us:=by
 cases s with
 | d t=>exact zV hs (s:=.d t) h hv n
 | own t e=>exact zV hs (s:=.own t e) h hv n
 | any=>exact zV hs (s:=.any) h hv n
 | zc t tn e=>
  replace h:Kr H t tn e b=some (x,ids):=h;unfold Kr at h;split at h
  ·rename_i o;split at h
   ·rename_i e' t' Nc gO done rest hH;split at h
    ·rename_i q q' _ _;obtain⟨q⟩:=q;obtain⟨q'⟩:=q';subst q q';split at h
     ·rename_i ee;subst ee;injection h with h
      injection h with h1 h2
      subst h1 h2;obtain⟨hb,fm⟩:=hv;refine⟨[v],.sm hH hb (λ_ h=>h) .nil,λaZ nU=>⟨⟨nU 0 v rfl,fm⟩,λj y u hy hu=>?_⟩⟩;cases j with
      | zero=>injection hy with hy;injection hu with hu;subst hy hu;exact hs.o o _ _ hH hb
      | succ j=>cases hy
     ·cases h
    ·cases h
   ·cases h
  ·cases h
 | zip t tn e zs=>
  replace h:xX H t tn e zs b=some (x,ids):=h;unfold xX at h;split at h
  ·rename_i o;split at h
   ·rename_i o2 e' t' Nc gO done cur rest hH;split at h
    ·rename_i q q' p _ _ hp;obtain⟨q⟩:=q;obtain⟨q'⟩:=q';subst q q';split at h
     ·rename_i ee;subst ee;injection h with h
      injection h with h1 h2
      subst h1 h2;obtain⟨hb,fm⟩:=hv;obtain⟨bE,ho,hz,hl,u,rW,qZ,hu3⟩:=hs.o o _ _ hH hb;have hr:bE[done.length]?=some (bE[done.length]'(by rw[hz.1];exact hl)):=aac _;have hf:=(hz.2 _ _ hr).2.1 rfl;obtain⟨us,r1,k1⟩:=H8 hs (x:=p.1) (ids:=p.2) hp hf (n+2);have mw:o2<H.length:=by rw[<-hs.len];exact(aad.1 rW).1
      refine⟨v::u::us,.sm hH hb (λ_ h=>h) (.sm (aac mw) rW (λ_ h=>by cases h) r1),λaZ nU=>?_⟩;have sd:EQ aZ us (n+2):=λj u' hj=>by
       have:=nU (j+2) u' (by simpa using hj)
       rwa [show n+(j+2)=n+2+j by omega] at this
      obtain⟨v1,o1⟩:=k1 aZ sd;refine⟨⟨nU 0 v rfl,fm⟩,λj y u' hy uk=>?_⟩;cases j with
      | zero=>
       injection hy with hy;injection uk with uk;subst hy uk
       refine⟨bE,ho,⟨hz.1,λj r hj=>?_⟩,hl,u,nU 1 u rfl,qZ,hu3⟩;obtain⟨z1,z2,z3⟩:=hz.2 j r hj;refine⟨z1,λe=>?_,z3⟩;subst e;rw[hr] at hj;obtain rfl:=aaj hj;exact v1
      | succ j=>
       cases j with
       | zero=>injection hy with hy;subst hy;exact trivial
       | succ j=>exact o1 j y u' (acM.symm.trans (acM.symm.trans hy)) (acM.symm.trans (acM.symm.trans uk))
     ·cases h
    ·cases h
   ·cases h
  ·cases h
 | mp kt t=>
  replace h:Ku H kt t b=some (x,ids):=h;unfold Ku at h;split at h
  ·rename_i o;split at h
   ·rename_i j5 t' m f hH;split at h
    ·rename_i q _;obtain⟨q⟩:=q;injection q with q1 q2
     subst q1 q2;injection h with h
     injection h with h1 h2
     subst h1 h2;obtain⟨hb,hm⟩:=hv;refine⟨[v],.sm hH hb (λ_ h=>h) .nil,λaZ nU=>⟨⟨nU 0 v rfl,hm⟩,λj y u hy hu=>?_⟩⟩;cases j with
     | zero=>injection hy with hy;injection hu with hu;subst hy hu;exact hs.o o _ _ hH hb
     | succ j=>cases hy
    ·cases h
   ·cases h
  ·cases h
 | mr kt t e=>
  replace h:Ks H kt t e b=some (x,ids):=h;unfold Ks at h;split at h
  ·rename_i p;split at h
   ·rename_i q hP;split at h
    ·rename_i p' j5 t' e' m f hQ;split at h
     ·rename_i q' _;obtain⟨q'⟩:=q';injection q' with q1 q2
      injection q2 with q2
      subst q1 q2;split at h
      ·rename_i ee;obtain⟨rfl,rfl⟩:=ee;injection h with h
       injection h with h1 h2
       subst h1 h2;obtain⟨hb,b0,rfl⟩:=hv;have Lh:q<bs.length:=by rw[hs.len];exact(aad.1 hQ).1
       have Lu:=aac Lh;refine⟨[.map (some b0),bs[q]],.sm hP hb (λ_ h=>h) (.sm hQ Lu (λ_ h=>h) .nil),λaZ nU=>⟨⟨nU 0 _ rfl,_,rfl⟩,λj y u hy hu=>?_⟩⟩;cases j with
       | zero=>injection hy with hy;injection hu with hu;subst hy hu;exact⟨_,rfl⟩
       | succ j=>
        cases j with
        | zero=>
         injection hy with hy;injection hu with hu;subst hy hu
         obtain⟨b,l,g,e1,h1,hr⟩:=hs.o q _ _ hQ Lu;rw[hb] at h1;injection h1 with h1
         injection h1 with h1
         injection h1 with h1
         subst h1;exact⟨_,l,g,e1,nU 0 _ rfl,hr⟩
        | succ j=>cases hy
      ·cases h
     ·cases h
    ·cases h
   ·cases h
  ·cases h
theorem Ie (hs:HS cx bs w S H):∀{l:List CS} {qs:List AV} {x:eB l} {ids:List (Option Nat)} {vs:List Value},xv H l qs=some (x,ids)->F2 (VR bs w S) qs vs->∀n, ∃us,Re bs H ids (rK n l x).2 us/\∀aZ,EQ aZ us n->F2 (VR aZ w S) (rK n l x).1 vs/\jl aZ w S (rK n l x).2 us
 | [],[],x,ids,_,h,hv,n=>by cases hv;injection h with h;injection h with h1 h2;subst h1 h2;exact⟨[],.nil,λ_ _=>⟨.nil,λj y u hy=>by cases hy⟩⟩
 | s::l,b::qs,x,ids,_,h,hv,n=>by
  cases hv with
  | cons h1 h2=>
   unfold xv at h;split at h
   ·rename_i p q hp hq;injection h with h
    injection h with e1 e2
    subst e1 e2;obtain⟨us1,r1,k1⟩:=N8 hs (x:=p.1) (ids:=p.2) hp h1 n;obtain⟨us2,r2,k2⟩:=Ie hs (x:=q.1) (ids:=q.2) hq h2 (n+(tP n s p.1).2.length);refine⟨us1++us2,r1.append r2,λaZ nU=>?_⟩;obtain⟨v1,o1⟩:=k1 aZ nU.left;obtain⟨v2,o2⟩:=k2 aZ (by have:=nU.right;rw[r1.len.2] at this;exact this);exact⟨.cons v1 v2,o1.append o2 r1.len.2⟩
   ·cases h
 | [],_::_,_,_,_,h,_,_=>by cases h
 | _::_,[],_,_,_,h,_,_=>by cases h
theorem TH (hs:HS cx bs w S H) {s:SS} {b:XV} {x:SW s} {ids:List (Option Nat)} {v:Value} (h:TI H s b=some (x,ids)) (hv:XR bs w S b v) (hns:s.isSb=false) (n:Nat) : ∃us,Re bs H ids (xi n s x).2 us/\∀aZ,EQ aZ us n->XR aZ w S (xi n s x).1 v/\jl aZ w S (xi n s x).2 us:=by
 cases s with
 | c s=>
  replace h:rdA H s b=some (x,ids):=h;cases b with
  | one c=>exact N8 hs (s:=s) (x:=x) h hv n
  | _=>cases h
 | st k=>
  replace h:rdG k b=some (x,ids):=h;cases b with
  | agg cs=>
   replace h:(un (.st k) cs).map (λx=>(x,([]:List (Option Nat))))=some (x,ids):=h;cases e:un (.st k) cs with
   | none=>rw[e] at h;cases h
   | some y=>
    rw[e] at h;injection h with h
    injection h with h1 h2
    subst h1 h2;obtain⟨vs,rfl,hf⟩:=hv;exact⟨[],.nil,λaZ _=>⟨⟨vs,rfl,ka (jJ e hf)⟩,λj y u hy=>by cases hy⟩⟩
  | _=>cases h
 | box ty cs=>
  replace h:rdB H ty cs b=some (x,ids):=h;unfold rdB at h;split at h
  ·rename_i o;split at h
   ·rename_i oN qs hH;split at h
    ·rename_i ee;subst ee;cases hu:xv H cs qs with
     | none=>rw[hu] at h;cases h
     | some p=>
      rw[hu] at h;injection h with h
      injection h with h1 h2
      subst h1 h2;obtain⟨g,hb,rfl⟩:=hv;obtain⟨g',vs,e2,hk,hf⟩:=hs.o o _ _ hH hb;obtain⟨us,r1,k1⟩:=Ie hs (x:=p.1) (ids:=p.2) hu hf (n+1);refine⟨.pointer (some ⟨g,0,none⟩)::us,.sm hH hb (λ_ h=>h) r1,λaZ nU=>?_⟩;have sd:EQ aZ us (n+1):=λj u hj=>by
       have:=nU (j+1) u (by simpa using hj)
       rwa [show n+(j+1)=n+1+j by omega] at this
      obtain⟨v1,o1⟩:=k1 aZ sd;refine⟨⟨g,nU 0 _ rfl,rfl⟩,λj y u hy hu=>?_⟩;cases j with
      | zero=>injection hy with hy;injection hu with hu;subst hy hu;exact⟨g',vs,e2,hk,v1⟩
      | succ j=>exact o1 j y u (acM.symm.trans hy) (acM.symm.trans hu)
    ·cases h
   ·cases h
  ·cases h
 | fn k=>
  replace h:YZ k b=some (x,ids):=h;unfold YZ at h;split at h
  ·rename_i j a b';split at h
   ·rename_i e;obtain⟨rfl,ea,eb⟩:=e;injection h with h
    injection h with h1 h2
    subst h2;obtain rfl:=acp ea;obtain rfl:=acp eb;exact⟨[],.nil,λaZ _=>⟨hv,λj y u hy=>by cases hy⟩⟩
   ·cases h
  ·cases h
 | sb o o2=>cases hns
 | cl k t=>
  replace h:Y0 k t b=some (x,ids):=h;unfold Y0 at h;split at h
  ·split at h
   ·rename_i q _;obtain⟨q⟩:=q;subst q;split at h
    ·rename_i e;subst e;injection h with h
     injection h with h1 h2
     subst h1 h2;exact⟨[],.nil,λaZ _=>⟨hv,λj y u hy=>by cases hy⟩⟩
    ·cases h
   ·cases h
  ·cases h
 | rf k=>
  replace h:YX k b=some (x,ids):=h;unfold YX at h;split at h
  ·split at h
   ·rename_i q _;obtain⟨q⟩:=q;subst q;injection h with h
    injection h with h1 h2
    subst h1 h2;exact⟨[],.nil,λaZ _=>⟨hv,λj y u hy=>by cases hy⟩⟩
   ·cases h
  ·cases h
theorem YW (hs:HS cx bs w S H) {s:SS} {b:XV} {x:SW s} {ids:List (Option Nat)} {v:Value} (h:TI H s b=some (x,ids)) (hv:XR bs w S b v) (n:Nat) : ∃us,Re bs H ids (xi n s x).2 us/\∀aZ,EQ aZ us n->(∀o o2 o' q,s=.sb o o2->b=.one (.sub o' q 0)->aZ[o2]?=bs[q]?)->XR aZ w S (xi n s x).1 v/\jl aZ w S (xi n s x).2 us:=by
 cases hb:s.isSb with
 | false=>obtain⟨us,r,k⟩:=TH hs h hv hb n;exact⟨us,r,λaZ nU _=>k aZ nU⟩
 | true=>
  cases s with
  | sb o o2=>
   replace h:YV b=some (x,ids):=h;unfold YV at h;split at h
   ·rename_i o' q;injection h with h
    injection h with h1 h2
    subst h2;obtain⟨g,p,q1,q2⟩:=hv;exact⟨[],.nil,λaZ _ Sl=>⟨⟨g,p,(Sl o o2 o' q rfl rfl).trans q1,q2⟩,λj y u hy=>by cases hy⟩⟩
   ·cases h
  | _=>cases hb
def ag0 (bs aZ:List Value) (env:Env) (l:List (Nat×SS)):Prop:=∀t o o2 o' q,(t,SS.sb o o2)∈l->env.lookup t=some (.one (.sub o' q 0))->aZ[o2]?=bs[q]?
theorem Ia {l:List (Nat×SS)} {r:aV l×List (Option Nat)} (h:Ci H env l=some r):Ic H env l=some r/\∀bs aZ,ag0 bs aZ env l:=by
 unfold Ci at h;split at h
 ·rename_i hl;refine⟨h,λbs aZ t o o2 o' q hm=>?_⟩;have:=abc.1 hl _ hm;cases this
 ·cases h
theorem zW (hs:HS cx bs w S H) (he:ER m bs w S env a):∀{l:List (Nat×SS)} {x:aV l} {ids:List (Option Nat)},Ic H env l=some (x,ids)->∀n, ∃us,Re bs H ids (rJ n l x).2 us/\∀aZ,EQ aZ us n->ag0 bs aZ env l->(∀t y,(t,y)∈(rJ n l x).1->∃v,a.tmps[t]?=some v/\XR aZ w S y v)/\jl aZ w S (rJ n l x).2 us
 | [],x,ids,h,n=>by injection h with h;injection h with h1 h2;subst h1 h2;exact⟨[],.nil,λ_ _ _=>⟨(λ_ _ h=>by cases h),λj y u hy=>by cases hy⟩⟩
 | p::l,x,ids,h,n=>by
  unfold Ic at h;split at h
  ·rename_i q r hq hr;injection h with h
   injection h with e1 e2
   subst e1 e2;cases e:env.lookup p.1 with
   | none=>rw[e] at hq;cases hq
   | some y=>
    rw[e] at hq;obtain⟨v,hv,hx⟩:=he.k _ _ (j2 e);obtain⟨us1,r1,k1⟩:=YW hs (x:=q.1) (ids:=q.2) hq hx n;obtain⟨us2,r2,k2⟩:=zW hs he (x:=r.1) (ids:=r.2) hr (n+(xi n p.2 q.1).2.length);refine⟨us1++us2,r1.append r2,λaZ nU Sl=>?_⟩;obtain⟨v1,o1⟩:=k1 aZ nU.left λo o2 o' q e1 e2=>Sl p.1 o o2 o' q (by rw[<-e1];exact aaz) (by rw[e,e2]);obtain⟨v2,o2⟩:=k2 aZ (by have:=nU.right;rw[r1.len.2] at this;exact this) λt o o2 o' q hm=>Sl t o o2 o' q (aa0 _ hm);refine⟨λt y hy=>?_,o1.append o2 r1.len.2⟩;rcases abs.1 hy with e3|hy
    ·injection e3 with e3 e4
     subst e3 e4;exact⟨v,hv,v1⟩
    ·exact v2 t y hy
  ·cases h
theorem Bi {x y:ah} {v:Value} {b:Nat} (h:∀c,Bk y v c->Bk x v c) (hb:Bk y v b):Bk x v b:=h b hb
theorem mO {st:dA} {l:List (Nat×SS)} {x:aV l} (h:oh cx.pb l st=some x) (hs:HS cx bs w S st.heap) (he:ER m bs w S st.env a):∃us,HS cx us w S (cN l x).heap/\ER m us w S (cN l x).env a:=by
 unfold oh at h;cases e:Ic st.heap st.env l with
 | none=>rw[e] at h;cases h
 | some p=>
  rw[e] at h;have h:(if Da cx.pb p.2&&adU st.env p.2 l then some p.1 else none)=some x:=h;split at h
  ·rename_i hid;rw[aav] at hid;obtain⟨hid,ak8⟩:=hid;injection h with h
   subst h;obtain⟨us,r,k⟩:=zW hs he (x:=p.1) (ids:=p.2) e 0;have bJ:=r.len;obtain⟨k1,k2⟩:=k us (λj u hj=>by rw[acg];exact hj) λt o o2 o' q hm hl=>by
    have:=abc.1 ak8 _ hm;simp only[hl,beq_iff_eq] at this;have hi:o2<(rJ 0 l p.1).2.length:=by rw[<-bJ.1];exact(aad.1 this).1
    have hu:o2<us.length:=by rw[bJ.2];exact hi
    rcases r.get o2 _ _ (aac hi) (aac hu) with⟨o3,x1,q1,q2,q3,q4⟩|⟨q1,_⟩
    ·rw[this] at q1;injection q1 with q1
     injection q1 with q1
     subst q1;rw[q3,aac hu]
    ·rw[this] at q1;cases q1
   unfold Da at hid;rw[aav] at hid;obtain⟨afS,alS⟩:=hid;refine⟨us,⟨bJ.2,λi y v hy hv=>k2 i y v hy hv,?_,?_,hs.s,hs.s0,hs.os,hs.tape,hs.output,hs.size,hs.old,?_⟩,he.d,he.s,k1⟩
   ·intro i j y z u v b xl hy hu hz hv ci bX;rcases r.get i y u hy hu with⟨o,x1,q1,q2,q3,q4⟩|⟨_,q⟩
    ·rcases r.get j z v hz hv with⟨o',x2,q5,q6,q7,q8⟩|⟨_,q⟩
     ·refine hs.ap o o' x1 x2 u v b (λeo=>?_) q2 q3 q6 q7 (Bi q4 ci) (Bi q8 bX);subst eo;have hi:i<p.2.length:=(aad.1 q1).1;have hj:j<p.2.length:=(aad.1 q5).1;rcases Nat.lt_or_gt_of_ne xl with hlt|hlt
      ·have:=abc.1 (abc.1 afS j (abU.2 hj)) i (abU.2 hlt);rw[q1,q5] at this;simp at this
      ·have:=abc.1 (abc.1 afS i (abU.2 hi)) j (abU.2 hlt);rw[q1,q5] at this;simp at this
     ·exact absurd bX (q b)
    ·exact absurd ci (q b)
   ·intro i y u b hy hu hb;rcases r.get i y u hy hu with⟨o,x1,q1,q2,q3,q4⟩|⟨_,q⟩
    ·exact hs.nw o x1 u b q2 q3 (Bi q4 hb)
    ·exact absurd hb (q b)
   ·intro i g hip hg hg2;have hp:=abc.1 alS i hip;have hp:p.2[i]?=some (some i):=by simpa using hp
    have hi:i<(rJ 0 l p.1).2.length:=by rw[<-bJ.1];exact(aad.1 hp).1
    have hu:i<us.length:=by rw[bJ.2];exact hi
    rcases r.get i _ _ (aac hi) (aac hu) with⟨o,x1,q1,q2,q3,q4⟩|⟨q,_⟩
    ·rw[hp] at q1;injection q1 with q1
     injection q1 with q1
     subst q1;have:=hs.an i g hip hg hg2;rw[q3] at this;rw[aac hu];exact this
    ·rw[hp] at q;cases q
  ·cases h
theorem ud {st:dA} {l:List (Nat×SS)} {x:aV l} (h:oh cx.pb l st=some x) (bT:fc m cx st a w):fc m cx (cN l x) a w:=by
 obtain⟨bs,S,hs,he⟩:=bT;obtain⟨us,q1,q2⟩:=mO h hs he;exact⟨us,S,q1,q2⟩
def BdT:(t:Ty)->El t->Prop
 | .list _,xs=>xs.length<=9223372036854775807
 | _,_=>True
def BdC:(s:CS)->CV s->Prop
 | .d t,x=>BdT t x
 | .own _ _,rs=>rs.length<=9223372036854775807
 | .any,_=>True
 | .zc _ _ _,_=>True
 | .zip _ _ _ _,_=>True
 | .mp _ _,_=>True
 | .mr _ _ _,_=>True
def BdF:(ts:List Ty)->JD ts->Prop
 | [],_=>True
 | t::ts,x=>BdT t x.1/\BdF ts x.2
def ack:(l:List CS)->eB l->Prop
 | [],_=>True
 | s::l,x=>BdC s x.1/\ack l x.2
def BdS:(s:SS)->SW s->Prop
 | .c s,x=>BdC s x
 | .st k,x=>BdF (tL k) (BS k x)
 | .box _ cs,x=>ack cs x
 | .fn _,_=>True
 | .rf _,_=>True
 | .cl _ _,_=>True
 | .sb _ _,_=>True
def G1:(l:List (Nat×SS))->aV l->Prop
 | [],_=>True
 | p::l,x=>BdS p.2 x.1/\G1 l x.2
theorem NT {α:Type} (x:List α):x.length<=x.reverse.length:=by simp
theorem Rw {us:List Value} {t:Ty} {x:El t} {v:Value} (hx:VR us w S (one t x) v):BdT t x:=by
 cases t with
 | list t=>
  obtain⟨A,q,c,_,hr,_⟩:=hx;show List.length (α:=El t) x<=_;rw[hr.len];exact hr.max
 | _=>exact trivial
theorem Rz {us:List Value} {n:Nat} {s:CS} {x:CV s} {v:Value} (hx:VR us w S (tP n s x).1 v) (ho:∀(j:Nat) (y:ah) (u:Value),(tP n s x).2[j]?=some y->us[n+j]?=some u->OR us w S y u):BdC s x:=by
 cases s with
 | d t=>exact Rw hx
 | own t e=>
  obtain⟨hb,A,q,c,e1⟩:=hx;have h1:Own (α:=El t) w S 0 e v (List.reverse (α:=El t) x):=ho 0 _ v rfl (by rw[adq];exact hb);obtain⟨cs,⟨_,h2⟩,_⟩:=h1;show List.length (α:=El t) x<=_;rcases h2 with⟨_,h2⟩|⟨g,cap,cur,_,_,_,h3,h4,_⟩
  ·exact aax (NT (α:=El t) x) (aax (Nat.le_of_eq h2) (by decide))
  ·unfold maxLen at h4;exact aax (NT (α:=El t) x) (aax h3 h4)
 | any=>exact trivial
 | zc t tn e=>exact trivial
 | zip t tn e zs=>exact trivial
 | mp kt t=>exact trivial
 | mr kt t e=>exact trivial
theorem Ry {us:List Value}:∀{ts:List Ty} {x:JD ts} {vs:List Value},F2 (VR us w S) (Ja ts x) vs->BdF ts x
 | [],_,_,_=>trivial
 | t::ts,x,vs,h=>by
  cases h with
  | cons h1 h2=>exact⟨Rw h1,Ry h2⟩
theorem Jw {us:List Value}:∀{l:List CS} {x:eB l} {n:Nat} {vs:List Value},F2 (VR us w S) (rK n l x).1 vs->(∀(j:Nat) (y:ah) (u:Value),(rK n l x).2[j]?=some y->us[n+j]?=some u->OR us w S y u)->ack l x
 | [],_,_,_,_,_=>trivial
 | s::l,x,n,vs,h,ho=>by
  cases h with
  | cons h1 h2=>
   refine⟨Rz h1 λj y u hy hu=>ho j y u (by
    show((tP n s x.1).2++_)[j]?=_;rw[aay (aad.1 hy).1];exact hy) hu,Jw (n:=n+(tP n s x.1).2.length) h2 λj y u hy hu=>ho ((tP n s x.1).2.length+j) y u ?_ (by rw[<-acv];exact hu)⟩
   show((tP n s x.1).2++_)[_]?=_;rw[aar (by omega),abB];exact hy
theorem abW {us:List Value} {n:Nat} {s:SS} {x:SW s} {v:Value} (hx:XR us w S (xi n s x).1 v) (ho:∀(j:Nat) (y:ah) (u:Value),(xi n s x).2[j]?=some y->us[n+j]?=some u->OR us w S y u):BdS s x:=by
 cases s with
 | c s=>exact Rz hx ho
 | st k=>obtain⟨vs,_,h⟩:=hx;exact Ry h
 | box ty cs=>
  obtain⟨g,h1,_⟩:=hx;obtain⟨_,vs,_,_,h2⟩:=ho 0 _ _ rfl (by rw[adq];exact h1);exact Jw (n:=n+1) h2 λj y u hy hu=>ho (j+1) y u hy (by rw[show n+(j+1)=n+1+j by omega];exact hu)
 | fn k=>exact trivial
 | rf k=>exact trivial
 | cl k t=>exact trivial
 | sb o o2=>exact trivial
theorem Rx {us:List Value}:∀{l:List (Nat×SS)} {x:aV l} {n:Nat},(∀t y,(t,y)∈(rJ n l x).1->∃v,XR us w S y v)->(∀(j:Nat) (y:ah) (u:Value),(rJ n l x).2[j]?=some y->us[n+j]?=some u->OR us w S y u)->G1 l x
 | [],_,_,_,_=>trivial
 | p::l,x,n,h1,h2=>by
  obtain⟨v,hv⟩:=h1 _ _ aaz;refine⟨abW (n:=n) hv λj y u hy hu=>h2 j y u (by
   show((xi n p.2 x.1).2++_)[j]?=_;rw[aay (aad.1 hy).1];exact hy) hu,Rx (n:=n+(xi n p.2 x.1).2.length) (λt y hy=>h1 t y (aa0 _ hy)) λj y u hy hu=>?_⟩
  refine h2 ((xi n p.2 x.1).2.length+j) y u ?_ (by rw[<-acv];exact hu);show((xi n p.2 x.1).2++_)[_]?=_;rw[aar (by omega),abB];exact hy
theorem Rv {l:List (Nat×SS)} {x:aV l} (h:fc m cx (cN l x) a w):G1 l x:=by
 obtain⟨us,S,hs,he⟩:=h;exact Rx (n:=0) (λt y hy=>let ⟨v,_,hx⟩:=he.k t y hy;⟨v,hx⟩) λj y u hy hu=>hs.o j y u hy (by rwa [acg] at hu)
end
end Go.Proofs.YtdbpbfglhbiadaaGreatDoor
