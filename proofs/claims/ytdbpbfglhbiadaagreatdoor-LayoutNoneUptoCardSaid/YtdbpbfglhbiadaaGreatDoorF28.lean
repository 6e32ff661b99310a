/- MFn MPure MDrw -/
import Derived.Test.YtdbpbfglhbiadaaGreatDoorF00
import Derived.Test.YtdbpbfglhbiadaaGreatDoorF27
set_option maxHeartbeats 8000000
set_option maxRecDepth 100000
namespace Go.Proofs.YtdbpbfglhbiadaaGreatDoor
open Go Go.RowKit
inductive LE (l lo lr:List (Nat×SS)) where
 | back (x:bM l)
 | out (y:bM lo)
 | ret (r:XV) (z:bM lr)
section
variable {P:Program} {m:Nat} {loops:List Code} (R:Rg P m) (L:zz P R.fn m R.pb loops)
def rdT (n k d:Nat) (b:Code) (l lo lr:List (Nat×SS)) (x:bM l):T (LE l lo lr):=(run R L n [.code (k+1) b] (cH l x)).bind λq=>match q with
 | .nrm st=>T.op ((nr R.pb l st).map .back)
 | .ext id st=>if id=d then T.op ((nr R.pb lo st).map .out) else .bad
 | .ret r st=>T.op ((nr R.pb lr st).map (.ret r))
def lpT (pb:List Nat) (d:Nat) (l lo lr:List (Nat×SS)) (G:bM l->T (LE l lo lr)) (st:dw):T Lf:=match nr pb l st with
 | some x=>(G x).bind λq=>match q with
  | .back _=>.bad
  | .out y=>.lf (.ext d (cH lo y))
  | .ret r z=>.lf (.ret r (cH lr z))
 | none=>.bad
theorem Zl.nrm {fn:Func} {cx:Cx} {r:XV} {st:dw} {a:Act} {w:World} {l:List (Nat×SS)} {z:bM l} (h:Zl P fn m cx r st a w) (hr:nr cx.pb l st=some z):Zl P fn m cx r (cH l z) a w:=by
 obtain⟨bs,S,S',hs,he,q⟩:=h;obtain⟨us,q1,q2⟩:=mb hr hs he;exact⟨us,S,S',q1,q2,q⟩
theorem abM {n k d:Nat} {b:Code} {l lo lr:List (Nat×SS)} {G:bM l->T (LE l lo lr)} (μ:bM l->Nat) (hk:∀j x,(jE b)[j]?=some x->loops[k+1+j]?=some x) (cA:∀x r,Kx l x->(G x).hit r->∃q,(rdT R L n k d b l lo lr x).hit q/\match q with|.back x'=>μ x'<μ x/\(G x').hit r|q=>q=r):zD P R.fn m R.pb (.loop b) (lpT R.pb d l lo lr G):=by
 intro cx st a w lf lQ h bL;unfold lpT at h;split at h
 ·rename_i x hx;obtain⟨r,h1,h2⟩:=T.hit_bind h;rw[<-lQ] at hx;have bL:=sj hx bL;refine wp_loop_ghost (λj a w=>∃x,j=μ x/\(G x).hit r/\eO m cx (cH l x) a w) (μ x) ⟨x,rfl,h1,bL⟩ ?_;rintro j a1 w1 ⟨x1,rfl,g1,s1⟩;obtain⟨q,q1,q2⟩:=cA x1 r (O4 s1) g1;obtain⟨lf',p1,p2⟩:=T.hit_bind q1;refine wp_mono (xY lQ p1 s1 hk) λe a2 w2 he=>?_;cases e with
  | normal=>
   obtain⟨cQ,rfl,s2⟩:=he;have p2:=T.hit_op p2;cases e2:nr R.pb l cQ with
   | none=>rw[e2] at p2;cases p2
   | some y=>
    rw[e2] at p2;injection p2 with p2
    subst p2;rw[<-lQ] at e2;exact⟨μ y,q2.1,y,rfl,q2.2,sj e2 s2⟩
  | exit id=>
   obtain⟨cQ,rfl,s2⟩:=he;simp only at p2;split at p2
   ·rename_i e3;subst e3;have p2:=T.hit_op p2;cases e2:nr R.pb lo cQ with
    | none=>rw[e2] at p2;cases p2
    | some y=>
     rw[e2] at p2;injection p2 with p2
     subst p2;have q2:LE.out y=r:=q2;subst q2;have h2:Lf.ext id (cH lo y)=lf:=h2;rw[<-lQ] at e2;exact⟨_,h2,sj e2 s2⟩
   ·exact p2.elim
  | ret=>
   obtain⟨r',cQ,rfl,s2⟩:=he;have p2:=T.hit_op p2;cases e2:nr R.pb lr cQ with
   | none=>rw[e2] at p2;cases p2
   | some y=>
    rw[e2] at p2;injection p2 with p2
    subst p2;have q2:LE.ret r' y=r:=q2;subst q2;have h2:Lf.ret r' (cH lr y)=lf:=h2;rw[<-lQ] at e2;exact⟨_,_,h2,s2.nrm e2⟩
  | _=>exact he.elim
 ·exact h.elim
end
def noL (P:Program) (fn:Func) (m:Nat) (pb:List Nat) (loops:List Code):zz P fn m pb loops:=⟨λ_=>none,λ_ _ _ h=>by cases h⟩
def zz.add {P:Program} {fn:Func} {m:Nat} {pb:List Nat} {loops:List Code} (L:zz P fn m pb loops) (k:Nat) (g:dw->T Lf) (h:∀c,loops[k]?=some c->zD P fn m pb c g):zz P fn m pb loops:=
 ⟨λi=>if i=k then some g else L.f i,λi g' c hf hc=>by
  by_cases e:i=k
  ·rw[if_pos e] at hf;injection hf with hf;subst hf e;exact h c hc
  ·rw[if_neg e] at hf;exact L.ok i g' c hf hc⟩
def pc:Nat->List XV->Env
 | _,[]=>[]
 | n,x::l=>(n,x)::pc (n+1) l
def LG (P:Program) (H:List ah) (env:Env):ResultVar->Option XV
 | .tmp t=>env.lookup t
 | .cell t ty=>WS P H ty (env.lookup t)
def LH (P:Program) (H:List ah) (env:Env):List ResultVar->Option (List XV)
 | []=>some []
 | x::l=>match LG P H env x,LH P H env l with
  | some y,some r=>some (y::r)
  | _,_=>none
def XV.comp:XV->Option (Bool×List AV)
 | .one a=>some (false,[a])
 | .agg cs=>some (true,cs)
 | .tup _=>none
def B7:List XV->Option (List (Bool×List AV))
 | []=>some []
 | x::l=>match x.comp,B7 l with
  | some y,some r=>some (y::r)
  | _,_=>none
def V2 (P:Program) (ty:TypeId->Option Ty) (fn:Func) (vw:Bool) (st:dw):Option XV:=match LH P st.heap st.env fn.results.toList with
 | none=>none
 | some l=>match l.map (λx=>if vw then lT ty st.heap x else x) with
  | [x]=>if x.free then some x else none
  | l=>(B7 l).bind λcs=>if(XV.tup cs).free then some (.tup cs) else none
section
variable {P:Program} {fn:Func} {cx:Cx} {bs:List Value} {w:World} {S:Nat->Prop} {H:List ah} {m:Nat} {env:Env} {a:Act}
theorem RH (hs:HS cx bs w S H) {t:TypeId} {x:Option XV} {v:Value} (hx:∀y,x=some y->XR bs w S y v) {y:XV} (h:WS P H t x=some y):∃u,(do loadVar t (<-asAddr v):Sem Value).run P w=.ok u w/\XR bs w S y u:=by
 cases x with
 | none=>unfold WS at h;cases hq:WT P t<;>rw[hq] at h<;>cases h
 | some z=>
  unfold WS at h;split at h
  ·rename_i q b hq hz;injection hz with hz
   subst hz;cases e:sC H b with
   | none=>rw[e] at h;cases h
   | some cs=>
    rw[e] at h;have h:Uz q (cs.take q.2)=some y:=h;obtain⟨ad,vs,hv,hc,hf⟩:=uZ hs e (hx _ rfl);subst hv;have yW:=hf.take q.2;have X2:=hc.take q.2;have hl:=yW.length;unfold Uz at h;split at h
    ·rename_i bm;rw[bm] at hl;unfold WT at hq;split at hq
     ·rename_i N8;cases hi:P.info? t with
      | none=>rw[hi] at hq;cases hq
      | some i=>
       rw[hi] at hq;injection hq with hq
       subst hq;simp only[if_true] at h;injection h with h
       subst h;refine⟨_,?_,CR.agg yW⟩;have hl:=Uu X2 N8 (by rw[hi];exact congrArg some hl);simpa[Instr.loadAt,Instr.sureAddr,asAddr,Sem.run_bind] using hl
     ·rename_i N8;injection hq with hq
      subst hq;simp only[acg,if_false] at h;split at h
      ·rename_i b' hb;injection h with h
       subst h;rw[hb] at yW;cases R2:vs.take 1 with
       | nil=>rw[R2] at yW;cases yW
       | cons u r=>
        rw[R2] at yW X2;cases yW with
        | cons h1 h2=>
         refine⟨u,?_,h1⟩;have h0:=X2 0 u rfl;have:ad.add 0=ad:=by unfold Addr.add;simp
         rw[this] at h0;have hl:=Uv (P:=P) (t:=t) h0 N8;simpa[Instr.loadAt,Instr.sureAddr,asAddr,Sem.run_bind] using hl
      ·cases h
     ·cases hq
    ·cases h
  ·cases h
theorem IB (hs:HS cx bs w S H) (he:ER m bs w S env a) {x:ResultVar} {y:XV} (h:LG P H env x=some y):∃v,(match x with|.tmp t=>pure (a.tmps.getD t undef)|.cell t ty=>do loadVar ty (<-asAddr (a.tmps.getD t undef)):Sem Value).run P w=.ok v w/\XR bs w S y v:=by
 cases x with
 | tmp t=>exact⟨_,rfl,qJ he h⟩
 | cell t ty=>exact RH hs (λy hy=>qJ he hy) h
theorem FN (hs:HS cx bs w S H) (he:ER m bs w S env a):∀{l:List ResultVar} {r:List XV},LH P H env l=some r->∃vs,(l.mapM λx=>(match x with|.tmp t=>pure (a.tmps.getD t undef)|.cell t ty=>do loadVar ty (<-asAddr (a.tmps.getD t undef)):Sem Value)).run P w=.ok vs w/\F2 (XR bs w S) r vs
 | [],r,h=>by injection h with h;subst h;exact⟨[],rfl,.nil⟩
 | x::l,r,h=>by
  unfold LH at h;split at h
  ·rename_i y r' h1 h2;injection h with h
   subst h;obtain⟨v,q1,q2⟩:=IB hs he h1;obtain⟨vs,q3,q4⟩:=FN hs he h2;refine⟨v::vs,?_,.cons q2 q4⟩;rw[List.mapM_cons];simp only[Sem.run_bind,q1,Result.andThen_ok,q3,Sem.run_pure]
  ·cases h
theorem B6:∀{l:List XV} {cs:List (Bool×List AV)} {vs:List Value},B7 l=some cs->F2 (XR bs w S) l vs->F2 (λp v=>CR bs w S p.1 p.2 v) cs vs
 | [],_,_,h,hf=>by cases hf;injection h with h;subst h;exact .nil
 | x::l,_,_,h,hf=>by
  cases hf with
  | cons h1 h2=>
   unfold B7 at h;split at h
   ·rename_i y r hy hr;injection h with h
    subst h;refine .cons ?_ (B6 hr h2);cases x with
    | one b=>injection hy with hy;subst hy;exact⟨b,rfl,h1⟩
    | agg cs=>injection hy with hy;subst hy;exact h1
    | tup l=>cases hy
   ·cases h
theorem QG {cx:Cx} {st:dw} {a:Act} {w:World} {r:XV} {vw:Bool} {ty:TypeId->Option Ty} (hvw:cx.pb=[]\/vw=false) (h:V2 P ty fn vw st=some r) (bL:eO m cx st a w):Zl P fn m cx r st a w:=by
 obtain⟨bs,S,hs,he⟩:=bL;unfold V2 at h;cases e:LH P st.heap st.env fn.results.toList with
 | none=>rw[e] at h;cases h
 | some l=>
  rw[e] at h;obtain⟨vs,q1,q2⟩:=FN hs he e;have hS1:∀b,Fe bs st.heap S b->(cx.S0 b\/cx.w0.heap.size<=b\/cx.M b)/\b<w.heap.size:=λb hb=>by
   rcases hb with hb|⟨i,x,v,h1,h2,h3⟩
   ·exact⟨(hs.s b hb).2,(hs.s b hb).1⟩
   ·exact⟨.inr (hs.nw i x v b h1 h2 h3).1,(hs.o i x v h1 h2).lt h3⟩
  have key:∃S',(∀b,S' b->(cx.S0 b\/cx.w0.heap.size<=b\/cx.M b)/\b<w.heap.size)/\(vw=true\/∀b,S' b->S b)/\F2 (XR bs w S') (l.map (λx=>if vw then lT ty st.heap x else x)) vs:=by
   cases vw with
   | true=>exact⟨_,hS1,.inl rfl,q2.mapL λx _ v hv=>zW hs hv⟩
   | false=>exact⟨S,λb hb=>⟨(hs.s b hb).2,(hs.s b hb).1⟩,.inr λ_ h=>h,by simpa using q2⟩
  obtain⟨S',k1,k2,k3⟩:=key;have pg:∀v,(v=if h:vs.toArray.size=1 then vs.toArray[0] else .tuple vs.toArray)->(results fn a.tmps).run P w=.ok v w:=by
   rintro v rfl;unfold results;rw[Array.mapM_eq_mapM_toList];simp only[Sem.run_bind,map_eq_pure_bind,bind_assoc,pure_bind];exact(congrArg (λr=>Result.andThen r _) q1).trans rfl
  have lQ:cx.pb=[]\/∀b,S' b->S b:=by
   rcases hvw with q|q
   ·exact .inl q
   ·rcases k2 with k2|k2
    ·rw[q] at k2;cases k2
    ·exact .inr k2
  simp only at h;split at h
  ·rename_i x hx;rw[hx] at k3;split at h
   ·rename_i hf;injection h with h
    subst h;cases k3 with
    | @cons _ v _ _ h1 h2=>
     cases h2
     exact⟨bs,S,S',hs,he,k1,lQ,v,pg v rfl,XR.free hf h1⟩
   ·cases h
  ·rename_i l' eM;cases ec:B7 (l.map (λx=>if vw then lT ty st.heap x else x)) with
   | none=>rw[ec] at h;cases h
   | some cs=>
    rw[ec] at h;have h:(if(XV.tup cs).free then some (XV.tup cs) else none)=some r:=h;split at h
    ·rename_i hf;injection h with h
     subst h;refine⟨bs,S,S',hs,he,k1,lQ,.tuple vs.toArray,pg _ ?_,XR.free hf ⟨vs,rfl,B6 ec k3⟩⟩;have hl:=k3.length;rw[dif_neg];intro h1;rw[aa5,<-hl] at h1
     match hm:l.map (λx=>if vw then lT ty st.heap x else x),h1 with
     | [x],_=>exact eM x hm
    ·cases h
end
def Ib:AV->AV
 | .val (.int k n)=>.sym (.int k n)
 | .val (.bool b)=>.sym (.bool b)
 | .val (.string s)=>.sym (.string s)
 | a=>a
def Qj:XV->XV
 | .one a=>.one (Ib a)
 | .agg cs=>.agg (cs.map Ib)
 | .tup l=>.tup (l.map λp=>(p.1,p.2.map Ib))
section
variable {bs:List Value} {w:World} {S:Nat->Prop}
theorem ya {x:AV} {v:Value} (h:VR bs w S x v):VR bs w S (Ib x) v:=by
 unfold Ib;split<;>exact h
theorem FB {ag:Bool} {cs:List AV} {v:Value} (h:CR bs w S ag cs v):CR bs w S ag (cs.map Ib) v:=by
 unfold CR at h ⊢;cases ag with
 | true=>obtain⟨vs,e,h⟩:=h;exact⟨vs,e,h.mapL λ_ _ _ h=>ya h⟩
 | false=>obtain⟨a,rfl,h⟩:=h;exact⟨_,rfl,ya h⟩
theorem FA {x:XV} {v:Value} (h:XR bs w S x v):XR bs w S (Qj x) v:=by
 cases x with
 | one b=>exact ya h
 | agg cs=>exact FB (ag:=true) h
 | tup l=>obtain⟨vs,e,h⟩:=h;exact⟨vs,e,h.mapL λ_ _ _ h=>FB h⟩
end
def XV.plain:XV->Bool
 | .one a=>a.plain
 | .agg cs=>cs.all AV.plain
 | .tup l=>l.all λp=>p.2.all AV.plain
section
variable {P:Program} {m:Nat} {loops:List Code} (R:Rg P m) (L:zz P R.fn m R.pb loops)
def fnT (n:Nat) (body:Code) (l0:List (Nat×SS)) (x:bM l0):T XV:=(run R L n [.code 0 body] (cH l0 x)).bind λq=>match q with
 | .ret r _=>.lf (Qj r)
 | .nrm _=>if R.fn.results.toList.isEmpty then .lf (.tup []) else .bad
 | _=>.bad
end
def aD (l0:List (Nat×SS)) (G:bM l0->T XV) (xs:List XV):T XV:=match nr [] l0 ⟨pc 0 xs,[]⟩ with
 | some x=>if xs.length=l0.length then G x else .bad
 | none=>.bad
section
variable {P:Program} {fn:Func} {w:World} {S:Nat->Prop}
theorem VR.plain {bs aU:List Value} {S S':Nat->Prop} {w w':World} {x:AV} {v:Value} (hp:x.plain=true) (h:VR bs w S x v):VR aU w' S' x v:=by
 cases x with
 | val u=>exact h
 | sym u=>exact h
 | _=>cases hp
theorem CR.plain {bs aU:List Value} {S S':Nat->Prop} {w w':World} {ag:Bool} {cs:List AV} {v:Value} (hp:cs.all AV.plain=true) (h:CR bs w S ag cs v):CR aU w' S' ag cs v:=by
 have hc:=aau.1 hp;have key:∀{cs:List AV} {vs:List Value},(∀x∈cs,x.plain=true)->F2 (VR bs w S) cs vs->F2 (VR aU w' S') cs vs:=by
  intro cs vs hc hf;induction hf with
  | nil=>exact .nil
  | cons h _ ih=>exact .cons (VR.plain (hc _ aah) h) (ih λx hx=>hc x (aap _ hx))
 unfold CR at h ⊢;cases ag with
 | true=>obtain⟨vs,e,h⟩:=h;exact⟨vs,e,key hc h⟩
 | false=>obtain⟨x,rfl,h⟩:=h;exact⟨x,rfl,VR.plain (hc x aah) h⟩
theorem XR.plain {bs aU:List Value} {S S':Nat->Prop} {w w':World} {x:XV} {v:Value} (hp:x.plain=true) (h:XR bs w S x v):XR aU w' S' x v:=by
 cases x with
 | one b=>exact VR.plain hp h
 | agg cs=>exact CR.plain hp h
 | tup l=>
  obtain⟨vs,e,h⟩:=h;refine⟨vs,e,?_⟩;have hc:=aau.1 hp;clear e;induction h with
  | nil=>exact .nil
  | @cons p _ _ _ h _ ih=>exact .cons (CR.plain (hc p aah) h) (ih (aau.2 λx hx=>hc x (aap _ hx)) λx hx=>hc x (aap _ hx))
theorem su {bs:List Value} {tmps:Array Value}:∀{xs:List XV} {vs:List Value} {n:Nat},F2 (XR bs w S) xs vs->(∀(j:Nat) (v:Value),vs[j]?=some v->tmps[n+j]?=some v)->∀t x,(t,x)∈pc n xs->∃v,tmps[t]?=some v/\XR bs w S x v
 | [],_,_,_,_,_,_,h=>by cases h
 | x::xs,_,n,hf,ht,t,y,h=>by
  cases hf with
  | @cons _ v _ vs h1 h2=>
   rcases aas.1 h with e|h
   ·injection e with e1 e2
    subst e1 e2;exact⟨v,ht 0 v rfl,h1⟩
   ·refine su (n:=n+1) h2 (λj v hj=>?_) t y h;rw[show n+1+j=n+(j+1) by omega];exact ht (j+1) v (by simpa using hj)
theorem pure_ok {f:FuncId} {body:Code} {loops:List Code} (R:Rg P fn.ntmps) (L:zz P R.fn fn.ntmps R.pb loops) (Sx:R.fn=fn) (hRp:R.pb=[]) (hf:P.funcs[f]?=some fn) (hb:fn.body=some body) (hl:loops=jE body) (al:Bool) (n:Nat) (l0:List (Nat×SS)) (G:bM l0->T XV) (yV:l0.length<=fn.ntmps) (h:∀x r,Kx l0 x->(G x).hit r->(fnT R L n body l0 x).hit r/\(al=true\/r.plain=true)):au P f al (aD l0 G):=by
 intro w S xs vs r hW hS hx hr;unfold aD at hr;split at hr
 ·rename_i x ia;split at hr
  ·rename_i bm;have zJ:vs.length<=fn.ntmps:=by rw[<-hx.length,bm];exact yV
   let cx:Cx:=⟨w,S,λ_=>False,[],[],wk0 hW⟩
   have hs:HS cx [] w S []:=⟨rfl,(λ_ _ _ h=>by cases h),(λ_ _ _ _ _ _ _ _ h=>by cases h),(λ_ _ _ _ h=>by cases h),λb q=>⟨hS b q,.inl q⟩,λ_ h=>h,rfl,rfl,rfl,aam _,λ_ _ _=>rfl,λ_ _ h=>by cases h⟩;have he:ER fn.ntmps [] w S (pc 0 xs) { tmps:=vs.toArray++Array.replicate (fn.ntmps-vs.toArray.size) undef,defers:=[] }:=by
    refine⟨rfl,?_,su hx λj v hj=>?_⟩
    ·show(vs.toArray++Array.replicate (fn.ntmps-vs.toArray.size) undef).size=_;rw[Array.size_append,Array.size_replicate,aa5];omega
    ·rw[aa6,Array.getElem?_append,if_pos (by rw[aa5];exact(aab.1 hj).1)];simpa using hj
   have bL:=sj (cx:=cx) ia ⟨[],S,hs,he⟩;obtain⟨h1,h2⟩:=h x r (O4 bL) hr;obtain⟨q,h3,h4⟩:=T.hit_bind h1;refine calls_of_wp hf hb (wp_mono (xY (cx:=cx) hRp.symm h3 bL λj z hz=>by rw[hl,aa6];exact hz) λe a' w' hq=>?_);have below:∀{bs S1 H},HS cx bs w' S1 H->Below w.heap.size w w':=λeY=>⟨eY.os,eY.tape,eY.output,eY.size,λb hb=>eY.old b hb λh=>h⟩;cases e with
   | ret=>
    obtain⟨r',cQ,rfl,bs,S1,S',eY,xw,k1,_,v,k2,k3⟩:=hq;have h4:Qj r'=r:=h4;subst h4;have k3:=FA k3;rw[Sx] at k2;refine⟨xw.d,v,k2,?_⟩;rcases h2 with h2|h2
    ·refine⟨v,S',rfl,below eY,λb q=>?_,k3⟩;obtain⟨q1,q2⟩:=k1 b q;rcases q1 with q1|q1|q1
     ·exact .inl ⟨h2,q1⟩
     ·exact .inr ⟨q1,q2⟩
     ·exact q1.elim
    ·exact⟨v,λ_=>False,rfl,below eY,λb q=>q.elim,XR.plain h2 k3⟩
   | normal=>
    obtain⟨cQ,rfl,bs,S1,eY,xw⟩:=hq;simp only at h4;split at h4
    ·rename_i pg;have h4:XV.tup []=r:=h4;subst h4;rw[Sx] at pg;have Nm:fn.results=#[]:=by
      have:fn.results.toList=[]:=List.isEmpty_iff.1 pg;rw[<-abs (xs:=fn.results),this]
     exact⟨xw.d,_,results_none Nm _ _ _,_,λ_=>False,rfl,below eY,λb q=>q.elim,[],rfl,.nil⟩
    ·exact h4.elim
   | exit id=>
    obtain⟨cQ,rfl,_⟩:=hq;exact h4.elim
   | _=>exact hq.elim
  ·exact hr.elim
 ·exact hr.elim
theorem aav {bs:List Value}:∀{xs:List XV} {vs:List Value} {n:Nat},F2 (XR bs w S) xs vs->∀t x,(t,x)∈pc n xs->∃v,vs[t-n]?=some v/\n<=t/\XR bs w S x v
 | [],_,_,_,_,_,h=>by cases h
 | x::xs,_,n,hf,t,y,h=>by
  cases hf with
  | @cons _ v _ vs h1 h2=>
   rcases aas.1 h with e|h
   ·injection e with e1 e2
    subst e1 e2;exact⟨v,by rw[aek];rfl,aam _,h1⟩
   ·obtain⟨v,q1,q2,q3⟩:=aav (n:=n+1) h2 t y h;refine⟨v,?_,by omega,q3⟩;rw[show t-n=t-(n+1)+1 by omega];exact q1
theorem Cr {l0:List (Nat×SS)} {G:bM l0->T XV} {w:World} {S:Nat->Prop} {xs:List XV} {vs:List Value} {r:XV} (hW:Wd w) (hS:∀b,S b->b<w.heap.size) (hx:F2 (XR [] w S) xs vs) (hr:(aD l0 G xs).hit r) (lF:∀x:bM l0,(cH l0 x).heap=[]:=by intro x;rfl) : ∃x:bM l0,(∀t y,(t,y)∈(cH l0 x).env->∃v,vs[t]?=some v/\XR [] w S y v)/\vs.length=l0.length/\(G x).hit r:=by
 unfold aD at hr;split at hr
 ·rename_i x ia;split at hr
  ·rename_i bm
   let cx:Cx:=⟨w,S,λ_=>False,[],[],wk0 hW⟩
   have hs:HS cx [] w S []:=⟨rfl,(λ_ _ _ h=>by cases h),(λ_ _ _ _ _ _ _ _ h=>by cases h),(λ_ _ _ _ h=>by cases h),λb q=>⟨hS b q,.inl q⟩,λ_ h=>h,rfl,rfl,rfl,aam _,λ_ _ _=>rfl,λ_ _ h=>by cases h⟩;have he:ER vs.length [] w S (pc 0 xs) ⟨vs.toArray,[]⟩:=⟨rfl,by simp,λt y hy=>by
    obtain⟨v,q1,_,q3⟩:=aav hx t y hy;exact⟨v,by simpa using q1,q3⟩⟩
   obtain⟨us,q1,q2⟩:=mb (cx:=cx) ia hs he;have hus:us=[]:=by
    have:=q1.len;rw[lF x] at this;exact aaw this
   subst hus;exact⟨x,(λt y hy=>by
    obtain⟨v,q3,q4⟩:=q2.k t y hy;exact⟨v,by simpa using q3,q4⟩),(hx.length.symm.trans bm),hr⟩
  ·exact hr.elim
 ·exact hr.elim
theorem yu {f:FuncId} {al:Bool} {l0:List (Nat×SS)} {G:bM l0->T XV} (h:∀(w:World) (S:Nat->Prop) (x:bM l0) (vs:List Value) (r:XV),Wd w->(∀b,S b->b<w.heap.size)->(∀t y,(t,y)∈(cH l0 x).env->∃v,vs[t]?=some v/\XR [] w S y v)->vs.length=l0.length->(G x).hit r-> Calls P f vs.toArray w λe w'=>∃v S',e=.returned v/\Below w.heap.size w w'/\(∀b,S' b->(al=true/\S b)\/(w.heap.size<=b/\b<w'.heap.size))/\XR [] w' S' r v) (lF:∀x:bM l0,(cH l0 x).heap=[]:=by intro x;rfl):au P f al (aD l0 G):=λw S _ vs r hW hS hx hr=>let ⟨x,h1,h2,h3⟩:=Cr hW hS hx hr lF;h w S x vs r hW hS h1 h2 h3
theorem fK {f:FuncId} {al:Bool} {l0:List (Nat×SS)} {G:bM l0->T XV} (h:∀(w:World) (S:Nat->Prop) (x:bM l0) (vs:List Value) (r:XV),(∀b,S b->b<w.heap.size)->(∀t y,(t,y)∈(cH l0 x).env->∃v,vs[t]?=some v/\XR [] w S y v)->vs.length=l0.length->(G x).hit r-> Calls P f vs.toArray w λe w'=>∃v S',e=.returned v/\Below w.heap.size w w'/\(∀b,S' b->(al=true/\S b)\/(w.heap.size<=b/\b<w'.heap.size))/\XR [] w' S' r v) (lF:∀x:bM l0,(cH l0 x).heap=[]:=by intro x;rfl):au P f al (aD l0 G):=yu (λw S x vs r _=>h w S x vs r) lF
end
section
variable {P:Program} {ops:Array Oper} {Q:Exit->Act->World->Prop}
theorem lS {id:Nat} {a:Act} {W:World} (n r:Nat) (I:(Nat->Bool)->Act->World->Prop) (hm:P.follows .mixedOrders=true) (hb:lA (n+r) ops=true) (jx:uk ops n (n+r)=true) (h0:I (λ_=>false) a W.drew) (cA:∀(Q':Exit->Act->World->Prop) d a w i,i<n->I d a w->d i=false->(∀j,n<=j->d j=false)->(∀k j,d k=true->waits ops k j=true->d j=true)->(∀j,waits ops i j=true->d j=true)->wpOp P ops Q' i (I (jq d i)) a w) (Ez:∀d a w,I d a w->(∀j,j<n->d j=true)->Fz P ops Q r n a w):(Code.region id ops true).wp P Q a W:=by
 have iL:=eT hb;refine vM (n+r) (λd a' w'=>(∀i j,d i=true->waits ops i j=true->d j=true)/\ ((∃k s,n<k/\k+s=n+r/\(∀j,j<k->d j=true)/\(∀j,k<=j->d j=false)/\Fz P ops Q s k a' w')\/((∀j,n<=j->d j=false)/\I d a' w'))) hm hb ⟨λi j h=>by simp at h,.inr ⟨λ_ _=>rfl,h0⟩⟩ ?_ ?_
 ·intro d a' w' i hi hI nD hw;obtain⟨rY,hI⟩:=hI;have X4:∀k j,jq d i k=true->waits ops k j=true->jq d i j=true:=by
   intro k j hdk hkj;by_cases e:k=i
   ·subst e;have:=hw j hkj;by_cases e2:j=k
    ·subst e2;exact fS d j
    ·rw[bp d e2];exact this
   ·rw[bp d e] at hdk;have:=rY k j hdk hkj;by_cases e2:j=i
    ·subst e2;exact fS d j
    ·rw[bp d e2];exact this
  rcases hI with⟨k,s,hnk,hks,lR,rX,ht⟩|⟨rX,hI⟩
  ·have hik:i=k:=by
    rcases Nat.lt_trichotomy i k with h|h|h
    ·rw[lR i h] at nD;cases nD
    ·exact h
    ·have h1:=og 9 i hw (λq hq j=>rY q j hq) (ow jx hi (by omega) h);rw[rX k (aam _)] at h1;cases h1
   subst hik;cases s with
   | zero=>omega
   | succ s=>
    refine wpOp_mono (λa'' w'' h=>⟨X4,.inl ⟨i+1,s,by omega,by omega,λj hj=>?_,λj hj=>?_,h⟩⟩) ht
    ·by_cases e:j=i
     ·subst e;exact fS d j
     ·rw[bp d e];exact lR j (by omega)
    ·rw[bp d (show j≠i by omega)];exact rX j (by omega)
  ·by_cases dI:n<=i
   ·have PZ:i=n:=by
     rcases Nat.lt_or_ge n i with h|h
     ·have h1:=og 9 i hw (λq hq j=>rY q j hq) (ow jx hi dI h);rw[rX n (aam _)] at h1;cases h1
     ·omega
    subst PZ;have dW:∀j,j<i->d j=true:=λj hj=>og 9 i hw (λk hk j=>rY k j hk) (ow jx hi (aam _) hj);obtain⟨r,rfl⟩:∃q,r=q+1:=⟨r-1,by omega⟩;refine wpOp_mono (λa'' w'' h=>⟨X4,.inl ⟨i+1,r,by omega,by omega,λj hj=>?_,λj hj=>?_,h⟩⟩) (Ez d a' w' hI dW)
    ·by_cases e:j=i
     ·subst e;exact fS d j
     ·rw[bp d e];exact dW j (by omega)
    ·rw[bp d (show j≠i by omega)];exact rX j (by omega)
   ·refine wpOp_mono (λa'' w'' h=>⟨X4,.inr ⟨λj hj=>?_,h⟩⟩) (cA Q d a' w' i (by omega) hI nD rX rY hw);rw[bp d (show j≠i by omega)];exact rX j hj
 ·intro d a' w' hI dW;obtain⟨_,hI⟩:=hI;rcases hI with⟨k,s,hnk,hks,lR,rX,ht⟩|⟨rX,hI⟩
  ·cases s with
   | zero=>exact ht
   | succ s=>
    have:=rX k (aam _);rw[dW k (by omega)] at this;cases this
  ·cases r with
   | zero=>exact Ez d a' w' hI λj hj=>dW j (by omega)
   | succ r=>
    have:=rX n (aam _);rw[dW n (by omega)] at this;cases this
end
def msk (o:Oper) (dy:List Nat):Nat:=o.after.toList.foldl (λs e=>if Region.binds .any e then s||| 2^e.on||| dy.getD e.on 0 else s) 0
def tX:List Oper->List Nat->List Nat
 | [],dy=>dy
 | o::l,dy=>tX l (dy++[msk o dy])
def selB (ms:List Nat) (i j:Nat):Bool:=decide (j<i)&&(ms.getD i 0).testBit j
abbrev Rs:=List (Option (XV×Option ah))
def kI (ops:Array Oper) (kp:Nat->Bool) (cX:Env) (wH:Nat->Bool) (rs:Rs):Env:=
 ((List.range rs.length).filterMap λj=>if wH j then match cR ops j,rs[j]? with
  | some t,some (some r)=>some (t,r.1)
  | _,_=>none else none)++cX.filter λp=>kp p.1
def I8 (ops:Array Oper) (n:Nat) (d:Nat->Bool) (t:Nat):Bool:=(List.range n).all λj=>!(cR ops j==some t)||!(d j)
def RO (ops:Array Oper) (n:Nat) (ms:List Nat) (i t:Nat):Bool:=(List.range n).all λj=>!(cR ops j==some t)||(ms.getD j 0).testBit i
def rT (rs:Rs) (j:Nat):ah:=match rs[j]? with
 | some (some (_,some x))=>x
 | _=>.dead
def kg (H0:List ah) (n:Nat) (wH:Nat->Bool) (rs:Rs):List ah:=H0++(List.range n).map λj=>if wH j then rT rs j else .dead
def ab8 (ops:Array Oper) (i:Nat):Bool:=ops.toList.any λo=>match o.guard with
 | some (j,_)=>j==i
 | none=>false
def P3 (ops:Array Oper) (i:Nat) (o:Oper) (rs:Rs):Option Bool:=match o.guard with
 | none=>some true
 | some (j,want)=>if waits ops i j then match cR ops j,rs[j]? with
  | some _,some (some (.one (.val (.bool b)),_))=>some (b==want)
  | some _,some (some (.tup [],_))=>some false
  | _,_=>none else none
def rD {P:Program} (C:gb P) (ops:Array Oper) (n:Nat) (ms:List Nat) (cX:Env) (H0:List ah):List Oper->Rs->T Rs
 | [],rs=>.lf rs
 | o::l,rs=>match P3 ops rs.length o rs with
  | some false=>rD C ops n ms cX H0 l (rs++[some (.tup [],none)])
  | some true=>(U2 C.ty C.D (H0.length+rs.length) (kI ops (RO ops n ms rs.length) cX (selB ms rs.length) rs) (kg H0 n (selB ms rs.length) rs) o).bind λr=>match ab8 ops rs.length,r with
   | true,(.one (.sym (.bool b)),none)=>.br b (rD C ops n ms cX H0 l (rs++[some (.one (.val (.bool true)),none)])) (rD C ops n ms cX H0 l (rs++[some (.one (.val (.bool false)),none)]))
   | _,r=>rD C ops n ms cX H0 l (rs++[some r])
  | none=>.bad
def UC (o:Oper):Bool:=match o.op with
 | .store ..=>true
 | .call { callee:=.builtin .append, .. }=>true
 | .mapUpdate ..=>true
 | .lookup ..=>true
 | _=>false
def abu (o:Oper):List Nat:=o.op.operands.toList.filterMap λ
 | .tmp t=>some t
 | _=>none
def BK {P:Program} (C:gb P):List Nat->List Oper->Nat
 | _,[]=>0
 | rd,o::l=>if UC o||C.eff o||(match o.dst with|some t=>rd.contains t|none=>false) then 0 else BK C (abu o++rd) l+1
def uN {P:Program} (C:gb P):List Oper->Nat
 | []=>0
 | o::l=>if UC o||C.eff o then 0 else uN C l+1
def SU {P:Program} (C:gb P) (m:Nat) (ops:Array Oper) (n:Nat) (st:dw):T dw:=
 if P.follows .mixedOrders&&lA (n+(ops.size-n)) ops&&uk ops n (n+(ops.size-n))&&xK ops n m then
  (rD C ops n (tX (ops.toList.take n) []) st.env st.heap (ops.toList.take n) []).bind λrs=>
   DK C m ops (ops.toList.drop n) ⟨kI ops (qt ops n) st.env (λ_=>true) rs,kg st.heap n (λ_=>true) rs⟩
 else .bad
section
variable {P:Program} {ops:Array Oper} {Q:Exit->Act->World->Prop} {C:gb P} {n m:Nat} {cx:Cx} {ms:List Nat} {cX:Env} {H0:List ah} {kp:Nat->Bool}
def CF (ops:Array Oper) (dy:List Nat):Prop:=∀(i s:Nat),dy[i]?=some s->∀j,s.testBit j=true->∀d:Nat->Bool,(∀k q,d k=true->waits ops k q=true->d q=true)->(∀q,waits ops i q=true->d q=true)->d j=true
theorem KL {i:Nat} {o:Oper} (ho:ops[i]?=some o) {e:Edge} (he:e∈o.after.toList) (hb:Region.binds .any e=true):waits ops i e.on=true:=by
 unfold waits;rw[ho];simp only[adf,acl,Array.any_eq_true',aal,beq_iff_eq];exact⟨e,by simpa using he,hb,rfl⟩
theorem Wx {dy:List Nat} (h:CF ops dy) {i:Nat} {o:Oper} (ho:ops[i]?=some o) {j:Nat} (hj:(msk o dy).testBit j=true) (d:Nat->Bool) (hc:∀k q,d k=true->waits ops k q=true->d q=true) (hw:∀q,waits ops i q=true->d q=true):d j=true:=by
 unfold msk at hj;have key:∀(l:List Edge) (s:Nat),(∀e∈l,e∈o.after.toList)->(∀j,s.testBit j=true->d j=true)->∀j,(l.foldl (λs e=>if Region.binds .any e then s||| 2^e.on||| dy.getD e.on 0 else s) s).testBit j=true->d j=true:=by
  intro l;induction l with
  | nil=>intro s _ hs j hj;exact hs j hj
  | cons e l ih=>
   intro s hl hs j hj;refine ih _ (λe he=>hl e (aap _ he)) (λj hj=>?_) j hj;simp only at hj;split at hj
   ·rename_i hb;have hon:=hw _ (KL ho (hl e aah) hb);rw[Nat.testBit_or,Nat.testBit_or,acG,acG] at hj;rcases hj with(hj|hj)|hj
    ·exact hs j hj
    ·rw[Nat.testBit_two_pow] at hj;have:e.on=j:=by simpa using hj
     rw[<-this];exact hon
    ·cases hq:dy[e.on]? with
     | none=>rw[aac,hq] at hj;simp at hj
     | some q=>
      rw[aac,hq] at hj;exact h e.on q hq j hj d hc λk hk=>hc _ k hon hk
   ·exact hs j hj
 exact key _ 0 (λ_ h=>h) (λj hj=>by simp at hj) j hj
theorem yF:∀(l:List Oper) (dy:List Nat),CF ops dy->(∀(k:Nat) (o:Oper),l[k]?=some o->ops[dy.length+k]?=some o)->CF ops (tX l dy)
 | [],_,h,_=>h
 | o::l,dy,h,hl=>by
  refine yF l _ (λi s hs j hj d hc hw=>?_) λk o' hk=>?_
  ·by_cases hi:i<dy.length
   ·rw[aai hi] at hs;exact h i s hs j hj d hc hw
   ·have PZ:i<dy.length+1:=by have:=(aab.1 hs).1;simpa using this
    obtain rfl:i=dy.length:=by omega
    rw[aaf (aam _)] at hs;simp only[aek,adC,Option.some.injEq] at hs;subst hs;exact Wx h (hl 0 o rfl) hj d hc hw
  ·rw[aaj,aar,aa1,ab5,ad7 (0+1)];exact hl (k+1) o' (by simpa using hk)
def lB (C:gb P) (ops:Array Oper) (n:Nat) (ms:List Nat) (cX:Env) (H0:List ah) (rs:Rs) (i:Nat):Prop:=
 ∃o,ops[i]?=some o/\((P3 ops i o (rs.take i)=some false/\rs[i]?=some (some (.tup [],none)))\/
  (P3 ops i o (rs.take i)=some true/\∃r0 r,(U2 C.ty C.D (H0.length+i) (kI ops (RO ops n ms i) cX (selB ms i) (rs.take i)) (kg H0 n (selB ms i) (rs.take i)) o).hit r0/\rs[i]?=some (some r)/\(r=r0\/∃b,r0=(.one (.sym (.bool b)),none)/\r=(.one (.val (.bool b)),none))))
theorem lB.more {rs:Rs} {i:Nat} (h:lB C ops n ms cX H0 rs i) (hi:i<rs.length) (x:Option (XV×Option ah)):lB C ops n ms cX H0 (rs++[x]) i:=by
 unfold lB at h ⊢;rw[ab7 (by omega),aai hi];exact h
theorem BB:∀(l:List Oper) (rs rs':Rs),(rD C ops n ms cX H0 l rs).hit rs'->(∀(k:Nat) (o:Oper),l[k]?=some o->ops[rs.length+k]?=some o)->(∀i,i<rs.length->lB C ops n ms cX H0 rs i)->rs'.length=rs.length+l.length/\∀i,i<rs'.length->lB C ops n ms cX H0 rs' i
 | [],rs,rs',h,_,hs=>by have h:rs=rs':=h;subst h;exact⟨rfl,hs⟩
 | o::l,rs,rs',h,hl,hs=>by
  have ho:=hl 0 o rfl;rw[adX] at ho;have next:∀(x:Option (XV×Option ah)),(rD C ops n ms cX H0 l (rs++[x])).hit rs'->lB C ops n ms cX H0 (rs++[x]) rs.length->rs'.length=rs.length+(o::l).length/\∀i,i<rs'.length->lB C ops n ms cX H0 rs' i:=by
   intro x h hx;obtain⟨q1,q2⟩:=BB l (rs++[x]) rs' h (λk o' hk=>by
    rw[aaj,aar,aa1,ab5,ad7 (0+1)];exact hl (k+1) o' (by simpa using hk)) λi hi=>by
     rw[aaj,aar,aa1] at hi;by_cases e:i=rs.length
     ·rw[e];exact hx
     ·exact(hs i (by omega)).more (by omega) x
   refine⟨?_,q2⟩;rw[q1,aaj,aar,aa1,aar];omega
  have qE:∀x,(rs++[x]).take rs.length=rs:=λx=>by rw[ab7 (aam _),List.take_length]
  have fW:∀x,(rs++[x])[rs.length]?=some x:=λx=>by rw[aaf (aam _)];simp
  unfold rD at h;split at h
  ·rename_i hg;exact next _ h ⟨o,ho,.inl ⟨by rw[qE];exact hg,fW _⟩⟩
  ·rename_i hg;obtain⟨r0,h1,h2⟩:=T.hit_bind h;split at h2
   ·rename_i b qG;cases b with
    | true=>exact next _ (h2.1 rfl) ⟨o,ho,.inr ⟨by rw[qE];exact hg,_,_,by rw[qE];exact h1,fW _,.inr ⟨true,rfl,rfl⟩⟩⟩
    | false=>exact next _ (h2.2 rfl) ⟨o,ho,.inr ⟨by rw[qE];exact hg,_,_,by rw[qE];exact h1,fW _,.inr ⟨false,rfl,rfl⟩⟩⟩
   ·exact next _ h2 ⟨o,ho,.inr ⟨by rw[qE];exact hg,_,_,by rw[qE];exact h1,fW _,.inl rfl⟩⟩
  ·exact h.elim
theorem iM {wH:Nat->Bool} {rs:Rs} {t:Nat} {x:XV} (h:(t,x)∈kI ops kp cX wH rs):(∃j r,j<rs.length/\wH j=true/\cR ops j=some t/\rs[j]?=some (some r)/\r.1=x)\/((t,x)∈cX/\kp t=true):=by
 rcases aaH.1 h with h|h
 ·obtain⟨j,hj,h⟩:=adR.1 h;left
  split at h
  ·rename_i hs;split at h
   ·rename_i t' r ht hr;injection h with h
    injection h with h1 h2
    subst h1 h2;exact⟨j,r,aaI.1 hj,hs,ht,hr,rfl⟩
   ·cases h
  ·cases h
 ·right
  obtain⟨h1,h2⟩:=adv.1 h;exact⟨h1,h2⟩
theorem iE {wH:Nat->Bool} {rs:Rs} {t j:Nat} {r:XV×Option ah} (hj:j<rs.length) (hs:wH j=true) (ht:cR ops j=some t) (hr:rs[j]?=some (some r)):(t,r.1)∈kI ops kp cX wH rs:=by
 refine List.mem_append_left _ (adR.2 ⟨j,aaI.2 hj,?_⟩);rw[if_pos hs,ht,hr]
theorem kH {wH:Nat->Bool} {rs:Rs} {t:Nat} {x:XV} (h:(t,x)∈cX) (hn:kp t=true):(t,x)∈kI ops kp cX wH rs:=adY _ (adv.2 ⟨h,hn⟩)
theorem o7 {d:Nat->Bool} {t:Nat}:I8 ops n d t=true↔∀j,j<n->cR ops j=some t->d j=false:=by
 unfold I8;rw[aau];constructor
 ·intro h j hj ht;have:=h j (aaI.2 hj);rw[ht] at this;simpa using this
 ·intro h j hj;by_cases ht:cR ops j=some t
  ·rw[h j (aaI.1 hj) ht];simp
  ·simp[ht]
theorem RN {i t:Nat}:RO ops n ms i t=true↔∀j,j<n->cR ops j=some t->(ms.getD j 0).testBit i=true:=by
 unfold RO;rw[aau];constructor
 ·intro h j hj ht;have:=h j (aaI.2 hj);rw[ht] at this;simpa using this
 ·intro h j hj;by_cases ht:cR ops j=some t
  ·rw[h j (aaI.1 hj) ht];simp
  ·simp[ht]
theorem Gq {d:Nat->Bool} {t:Nat} (h:qt ops n t=true):I8 ops n d t=true:=o7.2 λ_ hj ht=>absurd ht (AQ h hj)
theorem UB {i t:Nat} (yU:CF ops ms) (PX:ms.length=n) {d:Nat->Bool} (nD:d i=false) (hc:∀k q,d k=true->waits ops k q=true->d q=true) (h:RO ops n ms i t=true):I8 ops n d t=true:=o7.2 λj hj ht=>by
 cases oz:d j with
 | false=>rfl
 | true=>
  have h1:=RN.1 h j hj ht;have hjm:j<ms.length:=by omega
  rw[aac,aaa hjm] at h1;have:=yU j _ (aaa hjm) i h1 d hc λq hq=>hc j q oz hq;rw[nD] at this;cases this
theorem Gp {d:Nat->Bool} {i t:Nat} (hi:i<n) (h:I8 ops n (jq d i) t=true) (nD:d i=false):I8 ops n d t=true/\cR ops i≠some t:=by
 refine⟨o7.2 λj hj ht=>?_,λht=>?_⟩
 ·by_cases e:j=i
  ·rw[e];exact nD
  ·have:=o7.1 h j hj ht
   rwa [bp d e] at this
 ·have:=o7.1 h i hi ht;rw[fS] at this;cases this
theorem hJ {wH:Nat->Bool} {rs:Rs}:(kg H0 n wH rs).length=H0.length+n:=by simp[kg]
theorem kG {wH:Nat->Bool} {rs:Rs} {j:Nat} (hj:j<n):(kg H0 n wH rs)[H0.length+j]?=some (if wH j then rT rs j else .dead):=by
 unfold kg;rw[aaf (by omega),aaB,acn,adA hj];rfl
theorem qL {wH:Nat->Bool} {rs:Rs} {i:Nat} (hi:i<H0.length):(kg H0 n wH rs)[i]?=H0[i]?:=by
 unfold kg;rw[aai hi]
def DI (m:Nat) (cx:Cx) (ops:Array Oper) (n:Nat) (cX:Env) (H0:List ah) (rs:Rs) (d:Nat->Bool) (a:Act) (w:World):Prop:=
 ∃bs S,HS cx bs w S (kg H0 n d rs)/\(∀j,j<n->d j=false->bs[H0.length+j]?=some undef)/\ER m bs w S (kI ops (I8 ops n d) cX d rs) a
theorem oY {rs:Rs} {i:Nat} (h:rs[i]?=some none\/∃x,rs[i]?=some (some (x,none))):rT rs i=.dead:=by
 unfold rT;rcases h with h|⟨x,h⟩<;>rw[h]
theorem uL {d:Nat->Bool} {rs:Rs} {i:Nat} (hi:i<n) (_:d i=false):kg H0 n (jq d i) rs=(kg H0 n d rs).set (H0.length+i) (rT rs i):=by
 apply acS;intro k;by_cases e:H0.length+i=k
 ·subst e;rw[aat (by rw[hJ];omega),kG hi,fS];rfl
 ·rw[aan e];by_cases hk:k<H0.length
  ·rw[qL hk,qL hk]
  ·by_cases gr:k<H0.length+n
   ·obtain⟨j,rfl⟩:∃j,k=H0.length+j:=⟨k-H0.length,by omega⟩;rw[kG (by omega),kG (by omega),bp d (by omega)]
   ·rw[aaE (by rw[hJ];omega),aaE (by rw[hJ];omega)]
theorem DI.step {rs:Rs} (bm:rs.length=n) (_:n<=ops.size) (dV:∀i,i<n->lB C ops n ms cX H0 rs i) (yU:CF ops ms) (PX:ms.length=n) (kF:xK ops n m=true) (rC:∀(i j:Nat),waits ops i j=true->j<i) {Q':Exit->Act->World->Prop} {d:Nat->Bool} {a:Act} {w:World} {i:Nat} (hi:i<n) (h:DI m cx ops n cX H0 rs d a w) (nD:d i=false) (_:∀j,n<=j->d j=false) (hc:∀k q,d k=true->waits ops k q=true->d q=true) (hw:∀q,waits ops i q=true->d q=true) : wpOp P ops Q' i (DI m cx ops n cX H0 rs (jq d i)) a w:=by
 obtain⟨bs,S,hs,hu,he⟩:=h;obtain⟨o,ho,NX⟩:=dV i hi;have vJ:bs.length=H0.length+n:=by rw[hs.len,hJ]
 have uC:∀t,cR ops i=some t->t<m:=λt ht=>(lm kF hi ht).1;have UH:o.dst=cR ops i:=by unfold cR;rw[ho];rfl
 have qF:∀(v:Value) t,cR ops i≠some t->(a.put o.dst v).tmps[t]?=a.tmps[t]?:=by
  intro v t hx;rw[UH];cases e:cR ops i with
  | none=>rfl
  | some q=>
   have eM:q≠t:=λe2=>hx (by rw[e,e2]);show(a.tmps.setIfInBounds q v)[t]?=_;rw[adw eM]
 have pk:∀v:Value,(a.put o.dst v).tmps.size=m/\(a.put o.dst v).defers=[]:=by
  intro v;cases o.dst with
  | none=>exact⟨he.s,he.d⟩
  | some q=>exact⟨by show(a.tmps.setIfInBounds q v).size=m;rw[Array.size_setIfInBounds];exact he.s,he.d⟩
 have uE:∀t x,(t,x)∈kI ops (I8 ops n (jq d i)) cX (jq d i) rs->((t,x)∈kI ops (I8 ops n d) cX d rs/\cR ops i≠some t)\/(cR ops i=some t/\∃r,rs[i]?=some (some r)/\r.1=x):=by
  intro t x hx;rcases iM hx with⟨j,r,hj,eY,ht,hr,Z0⟩|⟨h1,hn⟩
  ·by_cases e:j=i
   ·subst e;exact .inr ⟨ht,r,hr,Z0⟩
   ·rw[bp d e] at eY;subst Z0;exact .inl ⟨iE hj eY ht hr,λe2=>GU kF hi (by omega) (λe3=>e e3.symm) t e2 ht⟩
  ·obtain⟨k1,k2⟩:=Gp hi hn nD;exact .inl ⟨kH h1 k1,k2⟩
 have uA:∀{c:Bool},P3 ops i o (rs.take i)=some c->Region.wanted o (yielded ops a.tmps)=c:=by
  intro c hg;unfold P3 at hg;split at hg
  ·rename_i qG;injection hg with hg
   subst hg;simp[Region.wanted,qG]
  ·rename_i j want qG;split at hg
   ·rename_i PO;split at hg
    ·rename_i t b _ ht hr;injection hg with hg
     subst hg;have NE:=rC i j PO;rw[acf,if_pos NE] at hr;obtain⟨v,hv,hx⟩:=he.k t _ (iE (by omega) (hw j PO) ht hr);obtain⟨rfl,_⟩:=hx;exact mV qG ht hv
    ·rename_i t _ ht hr;injection hg with hg
     subst hg;have NE:=rC i j PO;rw[acf,if_pos NE] at hr;obtain⟨v,hv,vs,e1,e2⟩:=he.k t _ (iE (by omega) (hw j PO) ht hr);cases e2
     exact qf qG ht (by rw[hv,e1];rfl)
    ·cases hg
   ·cases hg
 rcases NX with⟨hg,hr⟩|⟨hg,r0,r,ah6,hr,Sc⟩
 ·
  have Bq:=uA hg;unfold wpOp;rw[ho];simp only[Bq,acg,if_false];have nC:rT rs i=.dead:=oY (.inr ⟨_,hr⟩);refine⟨bs,S,?_,λj hj oz=>hu j hj ?_,(pk undef).2,(pk undef).1,λt x hx=>?_⟩
  ·rw[uL hi nD,nC];refine hs.mask (by simp) λk x hx=>?_;by_cases e:H0.length+i=k
   ·subst e;rw[aat (by rw[hJ];omega)] at hx;exact .inl (aad hx).symm
   ·rw[aan e] at hx;exact .inr hx
  ·by_cases e:j=i
   ·subst e;exact nD
   ·rw[bp d e] at oz;exact oz
  ·rcases uE t x hx with⟨hx,eM⟩|⟨ht,r,Jj,Z0⟩
   ·obtain⟨v,q1,q2⟩:=he.k t x hx;exact⟨v,(qF undef t eM).trans q1,q2⟩
   ·rw[hr] at Jj;obtain rfl:=aad (aad Jj);subst Z0;refine⟨undef,?_,[],rfl,.nil⟩;rw[UH,ht];show(a.tmps.setIfInBounds t undef)[t]?=_;exact abk (by rw[he.s];exact uC t ht)
 ·have Bq:=uA hg;have Eo:∀j,selB ms i j=true->j<i/\d j=true:=by
   intro j hj;unfold selB at hj;rw[aal,decide_eq_true_eq] at hj;refine⟨hj.1,?_⟩;have him:i<ms.length:=by rw[PX];exact hi
   have uz:=hj.2;rw[aac,aaa him] at uz;exact yU i _ (aaa him) j uz d hc hw
  have Bs:∀j,j<i->(rs.take i)[j]?=rs[j]?:=λj hj=>by rw[acf,if_pos hj]
  have acE:∀j,j<i->rT (rs.take i) j=rT rs j:=λj hj=>by unfold rT;rw[Bs j hj]
  have hsm:HS cx bs w S (kg H0 n (selB ms i) (rs.take i)):=by
   refine hs.mask (by rw[hJ,hJ]) λk x hx=>?_;by_cases hk:k<H0.length
   ·rw[qL hk] at hx ⊢;exact .inr hx
   ·have gr:k<H0.length+n:=by have:=(aab.1 hx).1;rw[hJ] at this;exact this
    obtain⟨j,rfl⟩:∃j,k=H0.length+j:=⟨k-H0.length,by omega⟩;rw[kG (by omega)] at hx;rw[kG (by omega)];split at hx
    ·rename_i hsj;obtain⟨q1,q2⟩:=Eo j hsj;rw[q2,acE j q1] at*;exact .inr hx
    ·exact .inl (aad hx).symm
  have hem:ER m bs w S (kI ops (RO ops n ms i) cX (selB ms i) (rs.take i)) a:=by
   refine⟨he.d,he.s,λt x hx=>?_⟩;rcases iM hx with⟨j,q,hj,eY,ht,hq,rfl⟩|⟨h1,hn⟩
   ·obtain⟨q1,q2⟩:=Eo j eY;rw[Bs j q1] at hq;exact he.k t _ (iE (by omega) q2 ht hq)
   ·exact he.k t x (kH h1 (UB yU PX nD hc hn))
  have rW:=za C.isP hsm hem ah6;refine sR ho Bq (rW _ _ λv w' S' u hb hS hn hx hf=>?_);have eY:=hs.grow hb hS hn;have heg:∀aU,iC bs aU->XR aU w' S' r0.1 v->ER m aU w' S' (kI ops (I8 ops n (jq d i)) cX (jq d i) rs) (a.put o.dst v):=by
   intro aU ha ia;refine⟨(pk v).2,(pk v).1,λt x hx=>?_⟩;rcases uE t x hx with⟨hx,eM⟩|⟨ht,r',iV,rfl⟩
   ·obtain⟨z,q1,q2⟩:=he.k t x hx;exact⟨z,(qF v t eM).trans q1,q2.keep hS ((aw.of_below hb).sub λb q=>(hs.s b q).1) ha⟩
   ·rw[hr] at iV;obtain rfl:=aad (aad iV);refine⟨v,?_,?_⟩
    ·rw[UH,ht];show(a.tmps.setIfInBounds t v)[t]?=_;exact abk (by rw[he.s];exact uC t ht)
    ·rcases Sc with rfl|⟨b,e1,e2⟩
     ·exact ia
     ·rw[e1] at ia;rw[e2];exact⟨ia.1,rfl⟩
  have hun:bs[H0.length+i]?=some undef:=hu i hi nD;cases Nk:r0.2 with
  | none=>
   have ahz:r.2=none:=by
    rcases Sc with rfl|⟨b,_,e2⟩
    ·exact Nk
    ·rw[e2]
   have nC:rT rs i=.dead:=oY (.inr ⟨r.1,by rw[hr,<-ahz]⟩);obtain⟨R0,_⟩:=hx bs (iC.refl _) (by rw[Nk];intro h;cases h);refine⟨bs,S',?_,λj hj oz=>hu j hj ?_,heg bs (iC.refl _) R0⟩
   ·rw[uL hi nD,nC];refine eY.mask (by simp) λk x hx=>?_;by_cases e:H0.length+i=k
    ·subst e;rw[aat (by rw[hJ];omega)] at hx;exact .inl (aad hx).symm
    ·rw[aan e] at hx;exact .inr hx
   ·by_cases e:j=i
    ·subst e;exact nD
    ·rw[bp d e] at oz;exact oz
  | some x=>
   have Z0:r=r0:=by
    rcases Sc with h|⟨b,e1,_⟩
    ·exact h
    ·rw[e1] at Nk;cases Nk
   have nC:rT rs i=x:=by
    unfold rT;rw[hr,Z0];obtain⟨r1,r2⟩:=r0;have Nk:r2=some x:=Nk;subst Nk;rfl
   have Ev:H0.length+i<bs.length:=by omega
   have uF:iC bs (bs.set (H0.length+i) u):=λq z hq hz=>by
    rw[aan (λe=>by subst e;rw[hun] at hq;injection hq with hq;subst hq;cases hz)];exact hq
   obtain⟨R0,zI⟩:=hx (bs.set (H0.length+i) u) uF λ_=>by rw[aat Ev]
   have lF:=hf x Nk;have ac2:(kg H0 n d rs)[H0.length+i]?=some .dead:=by rw[kG hi,nD];rfl
   have iW:=eY.fill (x:=x) (v:=u) ac2 hun rfl (zI x Nk) λb fF=>⟨.inl (aao hs.size (lF b fF).1),(lF b fF).2,λk z q hz hq e=>by
    have:=(hs.o k z q hz hq).lt e;have:=(lF b fF).1;omega⟩
   refine⟨bs.set (H0.length+i) u,S',?_,λj hj oz=>?_,heg _ uF R0⟩
   ·rw[uL hi nD,nC];exact iW
   ·by_cases e:j=i
    ·subst e;rw[fS] at oz;cases oz
    ·rw[bp d e] at oz;rw[aan (by omega)];exact hu j hj oz
theorem HS.pads {bs:List Value} {w:World} {S:Nat->Prop} {H:List ah} (h:HS cx bs w S H):∀n,HS cx (bs++List.replicate n undef) w S (H++List.replicate n .dead)
 | 0=>by simpa using h
 | n+1=>by
  have:=(HS.pads h n).pad;rw[aaR,aaR,<-ad2,<-ad2] at this;exact this
theorem JD {rs:Rs}:kg H0 n (λ_=>false) rs=H0++List.replicate n .dead:=by
 unfold kg;congr 1
 apply acS;intro i;by_cases hi:i<n
 ·rw[acn,adA hi,adE,if_pos hi];rfl
 ·rw[aaE (by simp;omega),aaE (by simp;omega)]
theorem sg {cQ:dw}:∀(l:List Oper) (i:Nat) {st:dw} {a:Act} {w:World},ops.toList.drop i=l->(DK C m ops l st).hit cQ->eO m cx st a w->(∀a' w',eO m cx cQ a' w'->Q .normal a' w')->Fz P ops Q l.length i a w
 | [],i,st,a,w,_,h,bL,hQ=>by
  have h:st=cQ:=h;subst h;exact hQ a w bL
 | o::l,i,st,a,w,hl,h,bL,hQ=>by
  obtain⟨st1,h1,h2⟩:=T.hit_bind h;have ho:ops[i]?=some o:=by
   have:=congrArg (λl:List Oper=>l[0]?) hl;simp only[acc,adX,adC,Array.getElem?_toList] at this;exact this
  have wo:ops.toList.drop (i+1)=l:=by
   rw[<-aei,hl];rfl
  exact Od ho h1 bL (λst q1 q2=>Lo q1 q2 λa' w' q=>sg l (i+1) wo h2 q hQ) λa' w' q=>sg l (i+1) wo h2 q hQ
theorem OA {id:Nat} {st cQ:dw} {a:Act} {w:World} {n:Nat} (h:(SU C m ops n st).hit cQ) (bL:eO m cx st a w) (hQ:∀a' w',eO m cx cQ a' w'->Q .normal a' w'):(Code.region id ops true).wp P Q a w:=by
 unfold SU at h;split at h
 ·rename_i hc;simp only[aal] at hc;obtain⟨⟨⟨hm,hb⟩,jx⟩,kF⟩:=hc;obtain⟨rs,h1,h2⟩:=T.hit_bind h;have iL:=eT hb;have Ev:n<=ops.size:=by omega
  have CO:(ops.toList.take n).length=n:=by rw[aa7,aaD];omega
  have fW:∀(k:Nat) (o:Oper),(ops.toList.take n)[k]?=some o->ops[k]?=some o:=λk o hk=>by
   rw[acf] at hk;split at hk
   ·simpa using hk
   ·cases hk
  obtain⟨q1,q2⟩:=BB _ [] rs h1 (λk o hk=>by rw[aa1,aa6];exact fW k o hk) λi hi=>absurd hi (Nat.not_lt_zero _);rw[aa1,aa6,CO] at q1;have yU:CF ops (tX (ops.toList.take n) []):=yF _ [] (λi s hs=>by cases hs) λk o hk=>by rw[aa1,aa6];exact fW k o hk
  have PX:∀(l:List Oper) (dy:List Nat),(tX l dy).length=dy.length+l.length:=by
   intro l;induction l with
   | nil=>intro dy;rfl
   | cons o l ih=>intro dy;show(tX l _).length=_;rw[ih,aaj,aar,aa1,aar];omega
  have rC:∀(i j:Nat),waits ops i j=true->j<i:=by
   intro i j hw;unfold waits at hw;cases ho:ops[i]? with
   | none=>rw[ho] at hw;cases hw
   | some o=>
    rw[ho] at hw;simp only[adf,acl,Array.any_eq_true',aal,beq_iff_eq] at hw;obtain⟨e,he,hbi,rfl⟩:=hw;exact mL hb ho e he hbi
  refine lS n (ops.size-n) (DI m cx ops n st.env st.heap rs) hm hb jx ?_ (λQ' d a w i hi hI nD rX hc hw=>DI.step q1 Ev (λi hi=>q2 i (by omega)) yU (by rw[PX,aa1,aa6,CO]) kF rC hi hI nD rX hc hw) λd a w hI dW=>?_
  ·obtain⟨bs,S,hs,he⟩:=bL;have hd:Below w.heap.size w w.drew:=(Below.refl _ _).drew;refine⟨bs++List.replicate n undef,S,by rw[JD];exact(hs.grow hd (λ_ h=>h) λ_ h=>.inl h).pads n,λj hj _=>?_,he.d,he.s,λt x hx=>?_⟩
   ·rw[<-hs.len,aaf (by omega),aaB,adE,if_pos hj]
   ·rcases iM hx with⟨j,r,_,h,_⟩|⟨h1,_⟩
    ·cases h
    ·obtain⟨v,k1,k2⟩:=he.k t x h1;exact⟨v,k1,k2.keep (λ_ h=>h) (λ_ _=>rfl) λo u hu _=>by rw[aai (aab.1 hu).1];exact hu⟩
  ·obtain⟨bs,S,hs,_,he⟩:=hI;have lE:eO m cx ⟨kI ops (qt ops n) st.env (λ_=>true) rs,kg st.heap n (λ_=>true) rs⟩ a w:=by
    refine⟨bs,S,?_,he.d,he.s,λt x hx=>he.k t x ?_⟩
    ·have:kg st.heap n (λ_=>true) rs=kg st.heap n d rs:=by
      unfold kg;congr 1
      apply List.map_congr_left;intro j hj;rw[dW j (aaI.1 hj)]
     show HS cx bs w S (kg st.heap n (λ_=>true) rs);rw[this];exact hs
    ·rcases iM hx with⟨j,r,hj,_,ht,hr,rfl⟩|⟨k1,k2⟩
     ·exact iE hj (dW j (by omega)) ht hr
     ·exact kH k1 (Gq k2)
   have:=sg (C:=C) (Q:=Q) (cx:=cx) (ops.toList.drop n) n rfl h2 lE hQ
   rwa [acP,aaD] at this
 ·exact h.elim
end
end Go.Proofs.YtdbpbfglhbiadaaGreatDoor
