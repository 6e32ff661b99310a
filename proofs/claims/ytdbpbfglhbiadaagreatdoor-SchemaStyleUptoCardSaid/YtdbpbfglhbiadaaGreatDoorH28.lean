/- MFn MPure MDrw -/
import Derived.Test.YtdbpbfglhbiadaaGreatDoorH00
import Derived.Test.YtdbpbfglhbiadaaGreatDoorH27
set_option maxHeartbeats 4000000
set_option maxRecDepth 100000
namespace Go.Proofs.YtdbpbfglhbiadaaGreatDoor
open Go Go.RowKit
inductive LE (l lo lr:List (Nat×SS)) where
 | back (x:aV l)
 | out (y:aV lo)
 | ret (r:XV) (z:aV lr)
section
variable {P:Program} {m:Nat} {loops:List Code} (R:Rg P m) (L:xm P R.fn m R.pb loops)
def YU (n k d:Nat) (b:Code) (l lo lr:List (Nat×SS)) (x:aV l):T (LE l lo lr):=(run R L n [.code (k+1) b] (cN l x)).bind λq=>match q with
 | .nrm st=>T.op ((oh R.pb l st).map .back)
 | .ext id st=>if id=d then T.op ((oh R.pb lo st).map .out) else .bad
 | .ret r st=>T.op ((oh R.pb lr st).map (.ret r))
def lpT (pb:List Nat) (d:Nat) (l lo lr:List (Nat×SS)) (G:aV l->T (LE l lo lr)) (st:dA):T Lf:=match oh pb l st with
 | some x=>(G x).bind λq=>match q with
  | .back _=>.bad
  | .out y=>.lf (.ext d (cN lo y))
  | .ret r z=>.lf (.ret r (cN lr z))
 | none=>.bad
theorem RtS.nrm {fn:Func} {cx:Cx} {r:XV} {st:dA} {a:Act} {w:World} {l:List (Nat×SS)} {z:aV l} (h:RtS P fn m cx r st a w) (hr:oh cx.pb l st=some z):RtS P fn m cx r (cN l z) a w:=by
 obtain⟨bs,S,S',hs,he,q⟩:=h;obtain⟨us,q1,q2⟩:=mO hr hs he;exact⟨us,S,S',q1,q2,q⟩
theorem aeP {n k d:Nat} {b:Code} {l lo lr:List (Nat×SS)} {G:aV l->T (LE l lo lr)} (μ:aV l->Nat) (hk:∀j x,(jg b)[j]?=some x->loops[k+1+j]?=some x) (ct:∀x r,G1 l x->(G x).hit r->∃q,(YU R L n k d b l lo lr x).hit q/\match q with|.back x'=>μ x'<μ x/\(G x').hit r|q=>q=r):Bp P R.fn m R.pb (.loop b) (lpT R.pb d l lo lr G):=by
 intro cx st a w lf nQ h bT;unfold lpT at h;split at h
 ·rename_i x hx;obtain⟨r,h1,h2⟩:=T.hit_bind h;rw[<-nQ] at hx;have bT:=ud hx bT;refine wp_loop_ghost (λj a w=>∃x,j=μ x/\(G x).hit r/\fc m cx (cN l x) a w) (μ x) ⟨x,rfl,h1,bT⟩ ?_;rintro j a1 w1 ⟨x1,rfl,g1,s1⟩;obtain⟨q,q1,q2⟩:=ct x1 r (Rv s1) g1;obtain⟨lf',p1,p2⟩:=T.hit_bind q1;refine wp_mono (zu nQ p1 s1 hk) λe a2 w2 he=>?_;cases e with
  | normal=>
   obtain⟨cV,rfl,s2⟩:=he;have p2:=T.hit_op p2;cases e2:oh R.pb l cV with
   | none=>rw[e2] at p2;cases p2
   | some y=>
    rw[e2] at p2;injection p2 with p2
    subst p2;rw[<-nQ] at e2;exact⟨μ y,q2.1,y,rfl,q2.2,ud e2 s2⟩
  | exit id=>
   obtain⟨cV,rfl,s2⟩:=he;simp only at p2;split at p2
   ·rename_i e3;subst e3;have p2:=T.hit_op p2;cases e2:oh R.pb lo cV with
    | none=>rw[e2] at p2;cases p2
    | some y=>
     rw[e2] at p2;injection p2 with p2
     subst p2;have q2:LE.out y=r:=q2;subst q2;have h2:Lf.ext id (cN lo y)=lf:=h2;rw[<-nQ] at e2;exact⟨_,h2,ud e2 s2⟩
   ·exact p2.elim
  | ret=>
   obtain⟨r',cV,rfl,s2⟩:=he;have p2:=T.hit_op p2;cases e2:oh R.pb lr cV with
   | none=>rw[e2] at p2;cases p2
   | some y=>
    rw[e2] at p2;injection p2 with p2
    subst p2;have q2:LE.ret r' y=r:=q2;subst q2;have h2:Lf.ret r' (cN lr y)=lf:=h2;rw[<-nQ] at e2;exact⟨_,_,h2,s2.nrm e2⟩
  | _=>exact he.elim
 ·exact h.elim
end
def noL (P:Program) (fn:Func) (m:Nat) (pb:List Nat) (loops:List Code):xm P fn m pb loops:=⟨λ_=>none,λ_ _ _ h=>by cases h⟩
def xm.add {P:Program} {fn:Func} {m:Nat} {pb:List Nat} {loops:List Code} (L:xm P fn m pb loops) (k:Nat) (g:dA->T Lf) (h:∀c,loops[k]?=some c->Bp P fn m pb c g):xm P fn m pb loops:=
 ⟨λi=>if i=k then some g else L.f i,λi g' c hf hc=>by
  by_cases e:i=k
  ·rw[if_pos e] at hf;injection hf with hf;subst hf e;exact h c hc
  ·rw[if_neg e] at hf;exact L.ok i g' c hf hc⟩
def qh:Nat->List XV->Env
 | _,[]=>[]
 | n,x::l=>(n,x)::qh (n+1) l
def NU (P:Program) (H:List ah) (env:Env):ResultVar->Option XV
 | .tmp t=>env.lookup t
 | .cell t ty=>ZE P H ty (env.lookup t)
def NV (P:Program) (H:List ah) (env:Env):List ResultVar->Option (List XV)
 | []=>some []
 | x::l=>match NU P H env x,NV P H env l with
  | some y,some r=>some (y::r)
  | _,_=>none
def XV.comp:XV->Option (Bool×List AV)
 | .one a=>some (false,[a])
 | .agg cs=>some (true,cs)
 | .tup _=>none
def DR:List XV->Option (List (Bool×List AV))
 | []=>some []
 | x::l=>match x.comp,DR l with
  | some y,some r=>some (y::r)
  | _,_=>none
def YR (P:Program) (ty:TypeId->Option Ty) (fn:Func) (vw:Bool) (st:dA):Option XV:=match NV P st.heap st.env fn.results.toList with
 | none=>none
 | some l=>match l.map (λx=>if vw then mF ty st.heap x else x) with
  | [x]=>if x.free then some x else none
  | l=>(DR l).bind λcs=>if(XV.tup cs).free then some (.tup cs) else none
section
variable {P:Program} {fn:Func} {cx:Cx} {bs:List Value} {w:World} {S:Nat->Prop} {H:List ah} {m:Nat} {env:Env} {a:Act}
theorem UJ (hs:HS cx bs w S H) {t:TypeId} {x:Option XV} {v:Value} (hx:∀y,x=some y->XR bs w S y v) {y:XV} (h:ZE P H t x=some y):∃u,(do loadVar t (<-asAddr v):Sem Value).run P w=.ok u w/\XR bs w S y u:=by
 cases x with
 | none=>unfold ZE at h;cases hq:ZF P t<;>rw[hq] at h<;>cases h
 | some z=>
  unfold ZE at h;split at h
  ·rename_i q b hq hz;injection hz with hz
   subst hz;cases e:ut H b with
   | none=>rw[e] at h;cases h
   | some cs=>
    rw[e] at h;have h:Xd q (cs.take q.2)=some y:=h;obtain⟨ad,vs,hv,hc,hf⟩:=wQ hs e (hx _ rfl);subst hv;have AL:=hf.take q.2;have hct:=hc.take q.2;have hl:=AL.length;unfold Xd at h;split at h
    ·rename_i bJ;rw[bJ] at hl;unfold ZF at hq;split at hq
     ·rename_i Qh;cases hi:P.info? t with
      | none=>rw[hi] at hq;cases hq
      | some i=>
       rw[hi] at hq;injection hq with hq
       subst hq;simp only[if_true] at h;injection h with h
       subst h;refine⟨_,?_,CR.agg AL⟩;have hl:=W9 hct Qh (by rw[hi];exact congrArg some hl);simpa[Instr.loadAt,Instr.sureAddr,asAddr,Sem.run_bind] using hl
     ·rename_i Qh;injection hq with hq
      subst hq;simp only[acC,if_false] at h;split at h
      ·rename_i b' hb;injection h with h
       subst h;rw[hb] at AL;cases UZ:vs.take 1 with
       | nil=>rw[UZ] at AL;cases AL
       | cons u r=>
        rw[UZ] at AL hct;cases AL with
        | cons h1 h2=>
         refine⟨u,?_,h1⟩;have h0:=hct 0 u rfl;have:ad.add 0=ad:=by unfold Addr.add;simp
         rw[this] at h0;have hl:=Xa (P:=P) (t:=t) h0 Qh;simpa[Instr.loadAt,Instr.sureAddr,asAddr,Sem.run_bind] using hl
      ·cases h
     ·cases hq
    ·cases h
  ·cases h
theorem Km (hs:HS cx bs w S H) (he:ER m bs w S env a) {x:ResultVar} {y:XV} (h:NU P H env x=some y):∃v,(match x with|.tmp t=>pure (a.tmps.getD t undef)|.cell t ty=>do loadVar ty (<-asAddr (a.tmps.getD t undef)):Sem Value).run P w=.ok v w/\XR bs w S y v:=by
 cases x with
 | tmp t=>exact⟨_,rfl,sg he h⟩
 | cell t ty=>exact UJ hs (λy hy=>sg he hy) h
theorem H7 (hs:HS cx bs w S H) (he:ER m bs w S env a):∀{l:List ResultVar} {r:List XV},NV P H env l=some r->∃vs,(l.mapM λx=>(match x with|.tmp t=>pure (a.tmps.getD t undef)|.cell t ty=>do loadVar ty (<-asAddr (a.tmps.getD t undef)):Sem Value)).run P w=.ok vs w/\F2 (XR bs w S) r vs
 | [],r,h=>by injection h with h;subst h;exact⟨[],rfl,.nil⟩
 | x::l,r,h=>by
  unfold NV at h;split at h
  ·rename_i y r' h1 h2;injection h with h
   subst h;obtain⟨v,q1,q2⟩:=Km hs he h1;obtain⟨vs,q3,q4⟩:=H7 hs he h2;refine⟨v::vs,?_,.cons q2 q4⟩;rw[List.mapM_cons];simp only[Sem.run_bind,q1,Result.andThen_ok,q3,Sem.run_pure]
  ·cases h
theorem DO:∀{l:List XV} {cs:List (Bool×List AV)} {vs:List Value},DR l=some cs->F2 (XR bs w S) l vs->F2 (λp v=>CR bs w S p.1 p.2 v) cs vs
 | [],_,_,h,hf=>by cases hf;injection h with h;subst h;exact .nil
 | x::l,_,_,h,hf=>by
  cases hf with
  | cons h1 h2=>
   unfold DR at h;split at h
   ·rename_i y r hy hr;injection h with h
    subst h;refine .cons ?_ (DO hr h2);cases x with
    | one b=>injection hy with hy;subst hy;exact⟨b,rfl,h1⟩
    | agg cs=>injection hy with hy;subst hy;exact h1
    | tup l=>cases hy
   ·cases h
theorem TC {cx:Cx} {st:dA} {a:Act} {w:World} {r:XV} {vw:Bool} {ty:TypeId->Option Ty} (hvw:cx.pb=[]\/vw=false) (h:YR P ty fn vw st=some r) (bT:fc m cx st a w):RtS P fn m cx r st a w:=by
 obtain⟨bs,S,hs,he⟩:=bT;unfold YR at h;cases e:NV P st.heap st.env fn.results.toList with
 | none=>rw[e] at h;cases h
 | some l=>
  rw[e] at h;obtain⟨vs,q1,q2⟩:=H7 hs he e;have hS1:∀b,GU bs st.heap S b->(cx.S0 b\/cx.w0.heap.size<=b\/cx.M b)/\b<w.heap.size:=λb hb=>by
   rcases hb with hb|⟨i,x,v,h1,h2,h3⟩
   ·exact⟨(hs.s b hb).2,(hs.s b hb).1⟩
   ·exact⟨.inr (hs.nw i x v b h1 h2 h3).1,(hs.o i x v h1 h2).lt h3⟩
  have key:∃S',(∀b,S' b->(cx.S0 b\/cx.w0.heap.size<=b\/cx.M b)/\b<w.heap.size)/\(vw=true\/∀b,S' b->S b)/\F2 (XR bs w S') (l.map (λx=>if vw then mF ty st.heap x else x)) vs:=by
   cases vw with
   | true=>exact⟨_,hS1,.inl rfl,q2.mapL λx _ v hv=>BF hs hv⟩
   | false=>exact⟨S,λb hb=>⟨(hs.s b hb).2,(hs.s b hb).1⟩,.inr λ_ h=>h,by simpa using q2⟩
  obtain⟨S',k1,k2,k3⟩:=key;have qo:∀v,(v=if h:vs.toArray.size=1 then vs.toArray[0] else .tuple vs.toArray)->(results fn a.tmps).run P w=.ok v w:=by
   rintro v rfl;unfold results;rw[Array.mapM_eq_mapM_toList];simp only[Sem.run_bind,map_eq_pure_bind,bind_assoc,pure_bind];exact(congrArg (λr=>Result.andThen r _) q1).trans rfl
  have nQ:cx.pb=[]\/∀b,S' b->S b:=by
   rcases hvw with q|q
   ·exact .inl q
   ·rcases k2 with k2|k2
    ·rw[q] at k2;cases k2
    ·exact .inr k2
  simp only at h;split at h
  ·rename_i x hx;rw[hx] at k3;split at h
   ·rename_i hf;injection h with h
    subst h;cases k3 with
    | @cons _ v _ _ h1 h2=>
     cases h2
     exact⟨bs,S,S',hs,he,k1,nQ,v,qo v rfl,XR.free hf h1⟩
   ·cases h
  ·rename_i l' fR;cases ec:DR (l.map (λx=>if vw then mF ty st.heap x else x)) with
   | none=>rw[ec] at h;cases h
   | some cs=>
    rw[ec] at h;have h:(if(XV.tup cs).free then some (XV.tup cs) else none)=some r:=h;split at h
    ·rename_i hf;injection h with h
     subst h;refine⟨bs,S,S',hs,he,k1,nQ,.tuple vs.toArray,qo _ ?_,XR.free hf ⟨vs,rfl,DO ec k3⟩⟩;have hl:=k3.length;rw[dif_neg];intro h1;rw[acc,<-hl] at h1
     match hm:l.map (λx=>if vw then mF ty st.heap x else x),h1 with
     | [x],_=>exact fR x hm
    ·cases h
end
def JW:AV->AV
 | .val (.int k n)=>.sym (.int k n)
 | .val (.bool b)=>.sym (.bool b)
 | .val (.string s)=>.sym (.string s)
 | a=>a
def S5:XV->XV
 | .one a=>.one (JW a)
 | .agg cs=>.agg (cs.map JW)
 | .tup l=>.tup (l.map λp=>(p.1,p.2.map JW))
section
variable {bs:List Value} {w:World} {S:Nat->Prop}
theorem zA {x:AV} {v:Value} (h:VR bs w S x v):VR bs w S (JW x) v:=by
 unfold JW;split<;>exact h
theorem Hj {ag:Bool} {cs:List AV} {v:Value} (h:CR bs w S ag cs v):CR bs w S ag (cs.map JW) v:=by
 unfold CR at h ⊢;cases ag with
 | true=>obtain⟨vs,e,h⟩:=h;exact⟨vs,e,h.mapL λ_ _ _ h=>zA h⟩
 | false=>obtain⟨a,rfl,h⟩:=h;exact⟨_,rfl,zA h⟩
theorem Hi {x:XV} {v:Value} (h:XR bs w S x v):XR bs w S (S5 x) v:=by
 cases x with
 | one b=>exact zA h
 | agg cs=>exact Hj (ag:=true) h
 | tup l=>obtain⟨vs,e,h⟩:=h;exact⟨vs,e,h.mapL λ_ _ _ h=>Hj h⟩
end
def XV.plain:XV->Bool
 | .one a=>a.plain
 | .agg cs=>cs.all AV.plain
 | .tup l=>l.all λp=>p.2.all AV.plain
section
variable {P:Program} {m:Nat} {loops:List Code} (R:Rg P m) (L:xm P R.fn m R.pb loops)
def fnT (n:Nat) (body:Code) (l0:List (Nat×SS)) (x:aV l0):T XV:=(run R L n [.code 0 body] (cN l0 x)).bind λq=>match q with
 | .ret r _=>.lf (S5 r)
 | .nrm _=>if R.fn.results.toList.isEmpty then .lf (.tup []) else .bad
 | _=>.bad
end
def az (l0:List (Nat×SS)) (G:aV l0->T XV) (xs:List XV):T XV:=match oh [] l0 ⟨qh 0 xs,[]⟩ with
 | some x=>if xs.length=l0.length then G x else .bad
 | none=>.bad
section
variable {P:Program} {fn:Func} {w:World} {S:Nat->Prop}
theorem VR.plain {bs aZ:List Value} {S S':Nat->Prop} {w w':World} {x:AV} {v:Value} (hp:x.plain=true) (h:VR bs w S x v):VR aZ w' S' x v:=by
 cases x with
 | val u=>exact h
 | sym u=>exact h
 | _=>cases hp
theorem CR.plain {bs aZ:List Value} {S S':Nat->Prop} {w w':World} {ag:Bool} {cs:List AV} {v:Value} (hp:cs.all AV.plain=true) (h:CR bs w S ag cs v):CR aZ w' S' ag cs v:=by
 have hc:=abc.1 hp;have key:∀{cs:List AV} {vs:List Value},(∀x∈cs,x.plain=true)->F2 (VR bs w S) cs vs->F2 (VR aZ w' S') cs vs:=by
  intro cs vs hc hf;induction hf with
  | nil=>exact .nil
  | cons h _ ih=>exact .cons (VR.plain (hc _ aaz) h) (ih λx hx=>hc x (aa0 _ hx))
 unfold CR at h ⊢;cases ag with
 | true=>obtain⟨vs,e,h⟩:=h;exact⟨vs,e,key hc h⟩
 | false=>obtain⟨x,rfl,h⟩:=h;exact⟨x,rfl,VR.plain (hc x aaz) h⟩
theorem XR.plain {bs aZ:List Value} {S S':Nat->Prop} {w w':World} {x:XV} {v:Value} (hp:x.plain=true) (h:XR bs w S x v):XR aZ w' S' x v:=by
 cases x with
 | one b=>exact VR.plain hp h
 | agg cs=>exact CR.plain hp h
 | tup l=>
  obtain⟨vs,e,h⟩:=h;refine⟨vs,e,?_⟩;have hc:=abc.1 hp;clear e;induction h with
  | nil=>exact .nil
  | @cons p _ _ _ h _ ih=>exact .cons (CR.plain (hc p aaz) h) (ih (abc.2 λx hx=>hc x (aa0 _ hx)) λx hx=>hc x (aa0 _ hx))
theorem ui {bs:List Value} {tmps:Array Value}:∀{xs:List XV} {vs:List Value} {n:Nat},F2 (XR bs w S) xs vs->(∀(j:Nat) (v:Value),vs[j]?=some v->tmps[n+j]?=some v)->∀t x,(t,x)∈qh n xs->∃v,tmps[t]?=some v/\XR bs w S x v
 | [],_,_,_,_,_,_,h=>by cases h
 | x::xs,_,n,hf,ht,t,y,h=>by
  cases hf with
  | @cons _ v _ vs h1 h2=>
   rcases abs.1 h with e|h
   ·injection e with e1 e2
    subst e1 e2;exact⟨v,ht 0 v rfl,h1⟩
   ·refine ui (n:=n+1) h2 (λj v hj=>?_) t y h;rw[show n+1+j=n+(j+1) by omega];exact ht (j+1) v (by simpa using hj)
theorem pure_ok {f:FuncId} {body:Code} {loops:List Code} (R:Rg P fn.ntmps) (L:xm P R.fn fn.ntmps R.pb loops) (Vp:R.fn=fn) (hRp:R.pb=[]) (hf:P.funcs[f]?=some fn) (hb:fn.body=some body) (hl:loops=jg body) (al:Bool) (n:Nat) (l0:List (Nat×SS)) (G:aV l0->T XV) (hln:l0.length<=fn.ntmps) (h:∀x r,G1 l0 x->(G x).hit r->(fnT R L n body l0 x).hit r/\(al=true\/r.plain=true)):ao P f al (az l0 G):=by
 intro w S xs vs r hW hS hx hr;unfold az at hr;split at hr
 ·rename_i x iF;split at hr
  ·rename_i bJ;have Bu:vs.length<=fn.ntmps:=by rw[<-hx.length,bJ];exact hln
   let cx:Cx:=⟨w,S,λ_=>False,[],[],wk0 hW⟩
   have hs:HS cx [] w S []:=⟨rfl,(λ_ _ _ h=>by cases h),(λ_ _ _ _ _ _ _ _ h=>by cases h),(λ_ _ _ _ h=>by cases h),λb q=>⟨hS b q,.inl q⟩,λ_ h=>h,rfl,rfl,rfl,aaG _,λ_ _ _=>rfl,λ_ _ h=>by cases h⟩;have he:ER fn.ntmps [] w S (qh 0 xs) { tmps:=vs.toArray++Array.replicate (fn.ntmps-vs.toArray.size) undef,defers:=[] }:=by
    refine⟨rfl,?_,ui hx λj v hj=>?_⟩
    ·show(vs.toArray++Array.replicate (fn.ntmps-vs.toArray.size) undef).size=_;rw[Array.size_append,Array.size_replicate,acc];omega
    ·rw[acg,Array.getElem?_append,if_pos (by rw[acc];exact(aad.1 hj).1)];simpa using hj
   have bT:=ud (cx:=cx) iF ⟨[],S,hs,he⟩;obtain⟨h1,h2⟩:=h x r (Rv bT) hr;obtain⟨q,h3,h4⟩:=T.hit_bind h1;refine calls_of_wp hf hb (wp_mono (zu (cx:=cx) hRp.symm h3 bT λj z hz=>by rw[hl,acg];exact hz) λe a' w' hq=>?_);have below:∀{bs S1 H},HS cx bs w' S1 H->Below w.heap.size w w':=λfo=>⟨fo.os,fo.tape,fo.output,fo.size,λb hb=>fo.old b hb λh=>h⟩;cases e with
   | ret=>
    obtain⟨r',cV,rfl,bs,S1,S',fo,yK,k1,_,v,k2,k3⟩:=hq;have h4:S5 r'=r:=h4;subst h4;have k3:=Hi k3;rw[Vp] at k2;refine⟨yK.d,v,k2,?_⟩;rcases h2 with h2|h2
    ·refine⟨v,S',rfl,below fo,λb q=>?_,k3⟩;obtain⟨q1,q2⟩:=k1 b q;rcases q1 with q1|q1|q1
     ·exact .inl ⟨h2,q1⟩
     ·exact .inr ⟨q1,q2⟩
     ·exact q1.elim
    ·exact⟨v,λ_=>False,rfl,below fo,λb q=>q.elim,XR.plain h2 k3⟩
   | normal=>
    obtain⟨cV,rfl,bs,S1,fo,yK⟩:=hq;simp only at h4;split at h4
    ·rename_i qo;have h4:XV.tup []=r:=h4;subst h4;rw[Vp] at qo;have PC:fn.results=#[]:=by
      have:fn.results.toList=[]:=List.isEmpty_iff.1 qo;rw[<-acn (xs:=fn.results),this]
     exact⟨yK.d,_,results_none PC _ _ _,_,λ_=>False,rfl,below fo,λb q=>q.elim,[],rfl,.nil⟩
    ·exact h4.elim
   | exit id=>
    obtain⟨cV,rfl,_⟩:=hq;exact h4.elim
   | _=>exact hq.elim
  ·exact hr.elim
 ·exact hr.elim
theorem adn {bs:List Value}:∀{xs:List XV} {vs:List Value} {n:Nat},F2 (XR bs w S) xs vs->∀t x,(t,x)∈qh n xs->∃v,vs[t-n]?=some v/\n<=t/\XR bs w S x v
 | [],_,_,_,_,_,h=>by cases h
 | x::xs,_,n,hf,t,y,h=>by
  cases hf with
  | @cons _ v _ vs h1 h2=>
   rcases abs.1 h with e|h
   ·injection e with e1 e2
    subst e1 e2;exact⟨v,by rw[adR];rfl,aaG _,h1⟩
   ·obtain⟨v,q1,q2,q3⟩:=adn (n:=n+1) h2 t y h;refine⟨v,?_,by omega,q3⟩;rw[show t-n=t-(n+1)+1 by omega];exact q1
theorem D9 {l0:List (Nat×SS)} {G:aV l0->T XV} {w:World} {S:Nat->Prop} {xs:List XV} {vs:List Value} {r:XV} (hW:Wd w) (hS:∀b,S b->b<w.heap.size) (hx:F2 (XR [] w S) xs vs) (hr:(az l0 G xs).hit r) (mf:∀x:aV l0,(cN l0 x).heap=[]:=by intro x;rfl) : ∃x:aV l0,(∀t y,(t,y)∈(cN l0 x).env->∃v,vs[t]?=some v/\XR [] w S y v)/\vs.length=l0.length/\(G x).hit r:=by
 unfold az at hr;split at hr
 ·rename_i x iF;split at hr
  ·rename_i bJ
   let cx:Cx:=⟨w,S,λ_=>False,[],[],wk0 hW⟩
   have hs:HS cx [] w S []:=⟨rfl,(λ_ _ _ h=>by cases h),(λ_ _ _ _ _ _ _ _ h=>by cases h),(λ_ _ _ _ h=>by cases h),λb q=>⟨hS b q,.inl q⟩,λ_ h=>h,rfl,rfl,rfl,aaG _,λ_ _ _=>rfl,λ_ _ h=>by cases h⟩;have he:ER vs.length [] w S (qh 0 xs) ⟨vs.toArray,[]⟩:=⟨rfl,by simp,λt y hy=>by
    obtain⟨v,q1,_,q3⟩:=adn hx t y hy;exact⟨v,by simpa using q1,q3⟩⟩
   obtain⟨us,q1,q2⟩:=mO (cx:=cx) iF hs he;have hus:us=[]:=by
    have:=q1.len;rw[mf x] at this;exact aaY this
   subst hus;exact⟨x,(λt y hy=>by
    obtain⟨v,q3,q4⟩:=q2.k t y hy;exact⟨v,by simpa using q3,q4⟩),(hx.length.symm.trans bJ),hr⟩
  ·exact hr.elim
 ·exact hr.elim
theorem z6 {f:FuncId} {al:Bool} {l0:List (Nat×SS)} {G:aV l0->T XV} (h:∀(w:World) (S:Nat->Prop) (x:aV l0) (vs:List Value) (r:XV),Wd w->(∀b,S b->b<w.heap.size)->(∀t y,(t,y)∈(cN l0 x).env->∃v,vs[t]?=some v/\XR [] w S y v)->vs.length=l0.length->(G x).hit r-> Calls P f vs.toArray w λe w'=>∃v S',e=.returned v/\Below w.heap.size w w'/\(∀b,S' b->(al=true/\S b)\/(w.heap.size<=b/\b<w'.heap.size))/\XR [] w' S' r v) (mf:∀x:aV l0,(cN l0 x).heap=[]:=by intro x;rfl):ao P f al (az l0 G):=λw S _ vs r hW hS hx hr=>let ⟨x,h1,h2,h3⟩:=D9 hW hS hx hr mf;h w S x vs r hW hS h1 h2 h3
theorem gQ {f:FuncId} {al:Bool} {l0:List (Nat×SS)} {G:aV l0->T XV} (h:∀(w:World) (S:Nat->Prop) (x:aV l0) (vs:List Value) (r:XV),(∀b,S b->b<w.heap.size)->(∀t y,(t,y)∈(cN l0 x).env->∃v,vs[t]?=some v/\XR [] w S y v)->vs.length=l0.length->(G x).hit r-> Calls P f vs.toArray w λe w'=>∃v S',e=.returned v/\Below w.heap.size w w'/\(∀b,S' b->(al=true/\S b)\/(w.heap.size<=b/\b<w'.heap.size))/\XR [] w' S' r v) (mf:∀x:aV l0,(cN l0 x).heap=[]:=by intro x;rfl):ao P f al (az l0 G):=z6 (λw S x vs r _=>h w S x vs r) mf
end
section
variable {P:Program} {ops:Array Oper} {Q:Exit->Act->World->Prop}
theorem mE {id:Nat} {a:Act} {W:World} (n r:Nat) (I:(Nat->Bool)->Act->World->Prop) (hm:P.follows .mixedOrders=true) (hb:lU (n+r) ops=true) (mb:vT ops n (n+r)=true) (h0:I (λ_=>false) a W.drew) (ct:∀(Q':Exit->Act->World->Prop) d a w i,i<n->I d a w->d i=false->(∀j,n<=j->d j=false)->(∀k j,d k=true->waits ops k j=true->d j=true)->(∀j,waits ops i j=true->d j=true)->wpOp P ops Q' i (I (jI d i)) a w) (F8:∀d a w,I d a w->(∀j,j<n->d j=true)->Hh P ops Q r n a w):(Code.region id ops true).wp P Q a W:=by
 have jb:=fi hb;refine xp (n+r) (λd a' w'=>(∀i j,d i=true->waits ops i j=true->d j=true)/\ ((∃k s,n<k/\k+s=n+r/\(∀j,j<k->d j=true)/\(∀j,k<=j->d j=false)/\Hh P ops Q s k a' w')\/((∀j,n<=j->d j=false)/\I d a' w'))) hm hb ⟨λi j h=>by simp at h,.inr ⟨λ_ _=>rfl,h0⟩⟩ ?_ ?_
 ·intro d a' w' i hi hI oo hw;obtain⟨tU,hI⟩:=hI;have aaI:∀k j,jI d i k=true->waits ops k j=true->jI d i j=true:=by
   intro k j hdk hkj;by_cases e:k=i
   ·subst e;have:=hw j hkj;by_cases e2:j=k
    ·subst e2;exact gh d j
    ·rw[bC d e2];exact this
   ·rw[bC d e] at hdk;have:=tU k j hdk hkj;by_cases e2:j=i
    ·subst e2;exact gh d j
    ·rw[bC d e2];exact this
  rcases hI with⟨k,s,hnk,hks,mC,tS,ht⟩|⟨tS,hI⟩
  ·have hik:i=k:=by
    rcases Nat.lt_trichotomy i k with h|h|h
    ·rw[mC i h] at oo;cases oo
    ·exact h
    ·have h1:=oU 9 i hw (λq hq j=>tU q j hq) (o5 mb hi (by omega) h);rw[tS k (aaG _)] at h1;cases h1
   subst hik;cases s with
   | zero=>omega
   | succ s=>
    refine wpOp_mono (λa'' w'' h=>⟨aaI,.inl ⟨i+1,s,by omega,by omega,λj hj=>?_,λj hj=>?_,h⟩⟩) ht
    ·by_cases e:j=i
     ·subst e;exact gh d j
     ·rw[bC d e];exact mC j (by omega)
    ·rw[bC d (show j≠i by omega)];exact tS j (by omega)
  ·by_cases dQ:n<=i
   ·have Ss:i=n:=by
     rcases Nat.lt_or_ge n i with h|h
     ·have h1:=oU 9 i hw (λq hq j=>tU q j hq) (o5 mb hi dQ h);rw[tS n (aaG _)] at h1;cases h1
     ·omega
    subst Ss;have eQ:∀j,j<i->d j=true:=λj hj=>oU 9 i hw (λk hk j=>tU k j hk) (o5 mb hi (aaG _) hj);obtain⟨r,rfl⟩:∃q,r=q+1:=⟨r-1,by omega⟩;refine wpOp_mono (λa'' w'' h=>⟨aaI,.inl ⟨i+1,r,by omega,by omega,λj hj=>?_,λj hj=>?_,h⟩⟩) (F8 d a' w' hI eQ)
    ·by_cases e:j=i
     ·subst e;exact gh d j
     ·rw[bC d e];exact eQ j (by omega)
    ·rw[bC d (show j≠i by omega)];exact tS j (by omega)
   ·refine wpOp_mono (λa'' w'' h=>⟨aaI,.inr ⟨λj hj=>?_,h⟩⟩) (ct Q d a' w' i (by omega) hI oo tS tU hw);rw[bC d (show j≠i by omega)];exact tS j hj
 ·intro d a' w' hI eQ;obtain⟨_,hI⟩:=hI;rcases hI with⟨k,s,hnk,hks,mC,tS,ht⟩|⟨tS,hI⟩
  ·cases s with
   | zero=>exact ht
   | succ s=>
    have:=tS k (aaG _);rw[eQ k (by omega)] at this;cases this
  ·cases r with
   | zero=>exact F8 d a' w' hI λj hj=>eQ j (by omega)
   | succ r=>
    have:=tS n (aaG _);rw[eQ n (by omega)] at this;cases this
end
def msk (o:Oper) (cY:List Nat):Nat:=o.after.toList.foldl (λs e=>if Region.binds .any e then s||| 2^e.on||| cY.getD e.on 0 else s) 0
def vE:List Oper->List Nat->List Nat
 | [],cY=>cY
 | o::l,cY=>vE l (cY++[msk o cY])
def selB (ms:List Nat) (i j:Nat):Bool:=decide (j<i)&&(ms.getD i 0).testBit j
abbrev Rs:=List (Option (XV×Option ah))
def kW (ops:Array Oper) (kp:Nat->Bool) (dd:Env) (xT:Nat->Bool) (rs:Rs):Env:=
 ((List.range rs.length).filterMap λj=>if xT j then match cX ops j,rs[j]? with
  | some t,some (some r)=>some (t,r.1)
  | _,_=>none else none)++dd.filter λp=>kp p.1
def K1 (ops:Array Oper) (n:Nat) (d:Nat->Bool) (t:Nat):Bool:=(List.range n).all λj=>!(cX ops j==some t)||!(d j)
def UO (ops:Array Oper) (n:Nat) (ms:List Nat) (i t:Nat):Bool:=(List.range n).all λj=>!(cX ops j==some t)||(ms.getD j 0).testBit i
def tO (rs:Rs) (j:Nat):ah:=match rs[j]? with
 | some (some (_,some x))=>x
 | _=>.dead
def ky (H0:List ah) (n:Nat) (xT:Nat->Bool) (rs:Rs):List ah:=H0++(List.range n).map λj=>if xT j then tO rs j else .dead
def ae8 (ops:Array Oper) (i:Nat):Bool:=ops.toList.any λo=>match o.guard with
 | some (j,_)=>j==i
 | none=>false
def Sy (ops:Array Oper) (i:Nat) (o:Oper) (rs:Rs):Option Bool:=match o.guard with
 | none=>some true
 | some (j,want)=>if waits ops i j then match cX ops j,rs[j]? with
  | some _,some (some (.one (.val (.bool b)),_))=>some (b==want)
  | some _,some (some (.tup [],_))=>some false
  | _,_=>none else none
def tv {P:Program} (C:eP P) (ops:Array Oper) (n:Nat) (ms:List Nat) (dd:Env) (H0:List ah):List Oper->Rs->T Rs
 | [],rs=>.lf rs
 | o::l,rs=>match Sy ops rs.length o rs with
  | some false=>tv C ops n ms dd H0 l (rs++[some (.tup [],none)])
  | some true=>(XD C.ty C.D (H0.length+rs.length) (kW ops (UO ops n ms rs.length) dd (selB ms rs.length) rs) (ky H0 n (selB ms rs.length) rs) o).bind λr=>match ae8 ops rs.length,r with
   | true,(.one (.sym (.bool b)),none)=>.br b (tv C ops n ms dd H0 l (rs++[some (.one (.val (.bool true)),none)])) (tv C ops n ms dd H0 l (rs++[some (.one (.val (.bool false)),none)]))
   | _,r=>tv C ops n ms dd H0 l (rs++[some r])
  | none=>.bad
def Xg (o:Oper):Bool:=match o.op with
 | .store ..=>true
 | .call { callee:=.builtin .append, .. }=>true
 | .mapUpdate ..=>true
 | .lookup ..=>true
 | _=>false
def aev (o:Oper):List Nat:=o.op.operands.toList.filterMap λ
 | .tmp t=>some t
 | _=>none
def Dw {P:Program} (C:eP P):List Nat->List Oper->Nat
 | _,[]=>0
 | rd,o::l=>if Xg o||C.eff o||(match o.dst with|some t=>rd.contains t|none=>false) then 0 else Dw C (aev o++rd) l+1
def wG {P:Program} (C:eP P):List Oper->Nat
 | []=>0
 | o::l=>if Xg o||C.eff o then 0 else wG C l+1
def VI {P:Program} (C:eP P) (m:Nat) (ops:Array Oper) (n:Nat) (st:dA):T dA:=
 if P.follows .mixedOrders&&lU (n+(ops.size-n)) ops&&vT ops n (n+(ops.size-n))&&yY ops n m then
  (tv C ops n (vE (ops.toList.take n) []) st.env st.heap (ops.toList.take n) []).bind λrs=>
   Fo C m ops (ops.toList.drop n) ⟨kW ops (rG ops n) st.env (λ_=>true) rs,ky st.heap n (λ_=>true) rs⟩
 else .bad
section
variable {P:Program} {ops:Array Oper} {Q:Exit->Act->World->Prop} {C:eP P} {n m:Nat} {cx:Cx} {ms:List Nat} {dd:Env} {H0:List ah} {kp:Nat->Bool}
def Ep (ops:Array Oper) (cY:List Nat):Prop:=∀(i s:Nat),cY[i]?=some s->∀j,s.testBit j=true->∀d:Nat->Bool,(∀k q,d k=true->waits ops k q=true->d q=true)->(∀q,waits ops i q=true->d q=true)->d j=true
theorem MQ {i:Nat} {o:Oper} (ho:ops[i]?=some o) {e:Edge} (he:e∈o.after.toList) (hb:Region.binds .any e=true):waits ops i e.on=true:=by
 unfold waits;rw[ho];simp only[acU,acw,Array.any_eq_true',aav,beq_iff_eq];exact⟨e,by simpa using he,hb,rfl⟩
theorem Zr {cY:List Nat} (h:Ep ops cY) {i:Nat} {o:Oper} (ho:ops[i]?=some o) {j:Nat} (hj:(msk o cY).testBit j=true) (d:Nat->Bool) (hc:∀k q,d k=true->waits ops k q=true->d q=true) (hw:∀q,waits ops i q=true->d q=true):d j=true:=by
 unfold msk at hj;have key:∀(l:List Edge) (s:Nat),(∀e∈l,e∈o.after.toList)->(∀j,s.testBit j=true->d j=true)->∀j,(l.foldl (λs e=>if Region.binds .any e then s||| 2^e.on||| cY.getD e.on 0 else s) s).testBit j=true->d j=true:=by
  intro l;induction l with
  | nil=>intro s _ hs j hj;exact hs j hj
  | cons e l ih=>
   intro s hl hs j hj;refine ih _ (λe he=>hl e (aa0 _ he)) (λj hj=>?_) j hj;simp only at hj;split at hj
   ·rename_i hb;have hon:=hw _ (MQ ho (hl e aaz) hb);rw[Nat.testBit_or,Nat.testBit_or,acK,acK] at hj;rcases hj with(hj|hj)|hj
    ·exact hs j hj
    ·rw[Nat.testBit_two_pow] at hj;have:e.on=j:=by simpa using hj
     rw[<-this];exact hon
    ·cases hq:cY[e.on]? with
     | none=>rw[aal,hq] at hj;simp at hj
     | some q=>
      rw[aal,hq] at hj;exact h e.on q hq j hj d hc λk hk=>hc _ k hon hk
   ·exact hs j hj
 exact key _ 0 (λ_ h=>h) (λj hj=>by simp at hj) j hj
theorem Ak:∀(l:List Oper) (cY:List Nat),Ep ops cY->(∀(k:Nat) (o:Oper),l[k]?=some o->ops[cY.length+k]?=some o)->Ep ops (vE l cY)
 | [],_,h,_=>h
 | o::l,cY,h,hl=>by
  refine Ak l _ (λi s hs j hj d hc hw=>?_) λk o' hk=>?_
  ·by_cases hi:i<cY.length
   ·rw[aay hi] at hs;exact h i s hs j hj d hc hw
   ·have Ss:i<cY.length+1:=by have:=(aad.1 hs).1;simpa using this
    obtain rfl:i=cY.length:=by omega
    rw[aar (aaG _)] at hs;simp only[adR,adb,Option.some.injEq] at hs;subst hs;exact Zr h (hl 0 o rfl) hj d hc hw
  ·rw[aaM,aaJ,ab9,acv,adT (0+1)];exact hl (k+1) o' (by simpa using hk)
def lW (C:eP P) (ops:Array Oper) (n:Nat) (ms:List Nat) (dd:Env) (H0:List ah) (rs:Rs) (i:Nat):Prop:=
 ∃o,ops[i]?=some o/\((Sy ops i o (rs.take i)=some false/\rs[i]?=some (some (.tup [],none)))\/
  (Sy ops i o (rs.take i)=some true/\∃r0 r,(XD C.ty C.D (H0.length+i) (kW ops (UO ops n ms i) dd (selB ms i) (rs.take i)) (ky H0 n (selB ms i) (rs.take i)) o).hit r0/\rs[i]?=some (some r)/\(r=r0\/∃b,r0=(.one (.sym (.bool b)),none)/\r=(.one (.val (.bool b)),none))))
theorem lW.more {rs:Rs} {i:Nat} (h:lW C ops n ms dd H0 rs i) (hi:i<rs.length) (x:Option (XV×Option ah)):lW C ops n ms dd H0 (rs++[x]) i:=by
 unfold lW at h ⊢;rw[acy (by omega),aay hi];exact h
theorem Dm:∀(l:List Oper) (rs rs':Rs),(tv C ops n ms dd H0 l rs).hit rs'->(∀(k:Nat) (o:Oper),l[k]?=some o->ops[rs.length+k]?=some o)->(∀i,i<rs.length->lW C ops n ms dd H0 rs i)->rs'.length=rs.length+l.length/\∀i,i<rs'.length->lW C ops n ms dd H0 rs' i
 | [],rs,rs',h,_,hs=>by have h:rs=rs':=h;subst h;exact⟨rfl,hs⟩
 | o::l,rs,rs',h,hl,hs=>by
  have ho:=hl 0 o rfl;rw[adq] at ho;have next:∀(x:Option (XV×Option ah)),(tv C ops n ms dd H0 l (rs++[x])).hit rs'->lW C ops n ms dd H0 (rs++[x]) rs.length->rs'.length=rs.length+(o::l).length/\∀i,i<rs'.length->lW C ops n ms dd H0 rs' i:=by
   intro x h hx;obtain⟨q1,q2⟩:=Dm l (rs++[x]) rs' h (λk o' hk=>by
    rw[aaM,aaJ,ab9,acv,adT (0+1)];exact hl (k+1) o' (by simpa using hk)) λi hi=>by
     rw[aaM,aaJ,ab9] at hi;by_cases e:i=rs.length
     ·rw[e];exact hx
     ·exact(hs i (by omega)).more (by omega) x
   refine⟨?_,q2⟩;rw[q1,aaM,aaJ,ab9,aaJ];omega
  have rX:∀x,(rs++[x]).take rs.length=rs:=λx=>by rw[acy (aaG _),List.take_length]
  have gn:∀x,(rs++[x])[rs.length]?=some x:=λx=>by rw[aar (aaG _)];simp
  unfold tv at h;split at h
  ·rename_i hg;exact next _ h ⟨o,ho,.inl ⟨by rw[rX];exact hg,gn _⟩⟩
  ·rename_i hg;obtain⟨r0,h1,h2⟩:=T.hit_bind h;split at h2
   ·rename_i b sa;cases b with
    | true=>exact next _ (h2.1 rfl) ⟨o,ho,.inr ⟨by rw[rX];exact hg,_,_,by rw[rX];exact h1,gn _,.inr ⟨true,rfl,rfl⟩⟩⟩
    | false=>exact next _ (h2.2 rfl) ⟨o,ho,.inr ⟨by rw[rX];exact hg,_,_,by rw[rX];exact h1,gn _,.inr ⟨false,rfl,rfl⟩⟩⟩
   ·exact next _ h2 ⟨o,ho,.inr ⟨by rw[rX];exact hg,_,_,by rw[rX];exact h1,gn _,.inl rfl⟩⟩
  ·exact h.elim
theorem jc {xT:Nat->Bool} {rs:Rs} {t:Nat} {x:XV} (h:(t,x)∈kW ops kp dd xT rs):(∃j r,j<rs.length/\xT j=true/\cX ops j=some t/\rs[j]?=some (some r)/\r.1=x)\/((t,x)∈dd/\kp t=true):=by
 rcases ab7.1 h with h|h
 ·obtain⟨j,hj,h⟩:=adk.1 h;left
  split at h
  ·rename_i hs;split at h
   ·rename_i t' r ht hr;injection h with h
    injection h with h1 h2
    subst h1 h2;exact⟨j,r,abU.1 hj,hs,ht,hr,rfl⟩
   ·cases h
  ·cases h
 ·right
  obtain⟨h1,h2⟩:=ac6.1 h;exact⟨h1,h2⟩
theorem iX {xT:Nat->Bool} {rs:Rs} {t j:Nat} {r:XV×Option ah} (hj:j<rs.length) (hs:xT j=true) (ht:cX ops j=some t) (hr:rs[j]?=some (some r)):(t,r.1)∈kW ops kp dd xT rs:=by
 refine List.mem_append_left _ (adk.2 ⟨j,abU.2 hj,?_⟩);rw[if_pos hs,ht,hr]
theorem kV {xT:Nat->Bool} {rs:Rs} {t:Nat} {x:XV} (h:(t,x)∈dd) (hn:kp t=true):(t,x)∈kW ops kp dd xT rs:=adr _ (ac6.2 ⟨h,hn⟩)
theorem qf {d:Nat->Bool} {t:Nat}:K1 ops n d t=true↔∀j,j<n->cX ops j=some t->d j=false:=by
 unfold K1;rw[abc];constructor
 ·intro h j hj ht;have:=h j (abU.2 hj);rw[ht] at this;simpa using this
 ·intro h j hj;by_cases ht:cX ops j=some t
  ·rw[h j (abU.1 hj) ht];simp
  ·simp[ht]
theorem UN {i t:Nat}:UO ops n ms i t=true↔∀j,j<n->cX ops j=some t->(ms.getD j 0).testBit i=true:=by
 unfold UO;rw[abc];constructor
 ·intro h j hj ht;have:=h j (abU.2 hj);rw[ht] at this;simpa using this
 ·intro h j hj;by_cases ht:cX ops j=some t
  ·rw[h j (abU.1 hj) ht];simp
  ·simp[ht]
theorem IQ {d:Nat->Bool} {t:Nat} (h:rG ops n t=true):K1 ops n d t=true:=qf.2 λ_ hj ht=>absurd ht (Ct h hj)
theorem Xf {i t:Nat} (AJ:Ep ops ms) (Sq:ms.length=n) {d:Nat->Bool} (oo:d i=false) (hc:∀k q,d k=true->waits ops k q=true->d q=true) (h:UO ops n ms i t=true):K1 ops n d t=true:=qf.2 λj hj ht=>by
 cases pc:d j with
 | false=>rfl
 | true=>
  have h1:=UN.1 h j hj ht;have hjm:j<ms.length:=by omega
  rw[aal,aac hjm] at h1;have:=AJ j _ (aac hjm) i h1 d hc λq hq=>hc j q pc hq;rw[oo] at this;cases this
theorem IP {d:Nat->Bool} {i t:Nat} (hi:i<n) (h:K1 ops n (jI d i) t=true) (oo:d i=false):K1 ops n d t=true/\cX ops i≠some t:=by
 refine⟨qf.2 λj hj ht=>?_,λht=>?_⟩
 ·by_cases e:j=i
  ·rw[e];exact oo
  ·have:=qf.1 h j hj ht
   rwa [bC d e] at this
 ·have:=qf.1 h i hi ht;rw[gh] at this;cases this
theorem iz {xT:Nat->Bool} {rs:Rs}:(ky H0 n xT rs).length=H0.length+n:=by simp[ky]
theorem kU {xT:Nat->Bool} {rs:Rs} {j:Nat} (hj:j<n):(ky H0 n xT rs)[H0.length+j]?=some (if xT j then tO rs j else .dead):=by
 unfold ky;rw[aar (by omega),abB,acG,ada hj];rfl
theorem sj {xT:Nat->Bool} {rs:Rs} {i:Nat} (hi:i<H0.length):(ky H0 n xT rs)[i]?=H0[i]?:=by
 unfold ky;rw[aay hi]
def DI (m:Nat) (cx:Cx) (ops:Array Oper) (n:Nat) (dd:Env) (H0:List ah) (rs:Rs) (d:Nat->Bool) (a:Act) (w:World):Prop:=
 ∃bs S,HS cx bs w S (ky H0 n d rs)/\(∀j,j<n->d j=false->bs[H0.length+j]?=some undef)/\ER m bs w S (kW ops (K1 ops n d) dd d rs) a
theorem pU {rs:Rs} {i:Nat} (h:rs[i]?=some none\/∃x,rs[i]?=some (some (x,none))):tO rs i=.dead:=by
 unfold tO;rcases h with h|⟨x,h⟩<;>rw[h]
theorem wD {d:Nat->Bool} {rs:Rs} {i:Nat} (hi:i<n) (_:d i=false):ky H0 n (jI d i) rs=(ky H0 n d rs).set (H0.length+i) (tO rs i):=by
 apply acQ;intro k;by_cases e:H0.length+i=k
 ·subst e;rw[abv (by rw[iz];omega),kU hi,gh];rfl
 ·rw[aaS e];by_cases hk:k<H0.length
  ·rw[sj hk,sj hk]
  ·by_cases gM:k<H0.length+n
   ·obtain⟨j,rfl⟩:∃j,k=H0.length+j:=⟨k-H0.length,by omega⟩;rw[kU (by omega),kU (by omega),bC d (by omega)]
   ·rw[abC (by rw[iz];omega),abC (by rw[iz];omega)]
theorem DI.step {rs:Rs} (bJ:rs.length=n) (_:n<=ops.size) (eu:∀i,i<n->lW C ops n ms dd H0 rs i) (AJ:Ep ops ms) (Sq:ms.length=n) (kT:yY ops n m=true) (tu:∀(i j:Nat),waits ops i j=true->j<i) {Q':Exit->Act->World->Prop} {d:Nat->Bool} {a:Act} {w:World} {i:Nat} (hi:i<n) (h:DI m cx ops n dd H0 rs d a w) (oo:d i=false) (_:∀j,n<=j->d j=false) (hc:∀k q,d k=true->waits ops k q=true->d q=true) (hw:∀q,waits ops i q=true->d q=true) : wpOp P ops Q' i (DI m cx ops n dd H0 rs (jI d i)) a w:=by
 obtain⟨bs,S,hs,hu,he⟩:=h;obtain⟨o,ho,Qc⟩:=eu i hi;have AP:bs.length=H0.length+n:=by rw[hs.len,iz]
 have wn:∀t,cX ops i=some t->t<m:=λt ht=>(lK kT hi ht).1;have Xn:o.dst=cX ops i:=by unfold cX;rw[ho];rfl
 have rY:∀(v:Value) t,cX ops i≠some t->(a.put o.dst v).tmps[t]?=a.tmps[t]?:=by
  intro v t hx;rw[Xn];cases e:cX ops i with
  | none=>rfl
  | some q=>
   have fR:q≠t:=λe2=>hx (by rw[e,e2]);show(a.tmps.setIfInBounds q v)[t]?=_;rw[ac7 fR]
 have qp:∀v:Value,(a.put o.dst v).tmps.size=m/\(a.put o.dst v).defers=[]:=by
  intro v;cases o.dst with
  | none=>exact⟨he.s,he.d⟩
  | some q=>exact⟨by show(a.tmps.setIfInBounds q v).size=m;rw[Array.size_setIfInBounds];exact he.s,he.d⟩
 have wt:∀t x,(t,x)∈kW ops (K1 ops n (jI d i)) dd (jI d i) rs->((t,x)∈kW ops (K1 ops n d) dd d rs/\cX ops i≠some t)\/(cX ops i=some t/\∃r,rs[i]?=some (some r)/\r.1=x):=by
  intro t x hx;rcases jc hx with⟨j,r,hj,fo,ht,hr,hrx⟩|⟨h1,hn⟩
  ·by_cases e:j=i
   ·subst e;exact .inr ⟨ht,r,hr,hrx⟩
   ·rw[bC d e] at fo;subst hrx;exact .inl ⟨iX hj fo ht hr,λe2=>Je kT hi (by omega) (λe3=>e e3.symm) t e2 ht⟩
  ·obtain⟨k1,k2⟩:=IP hi hn oo;exact .inl ⟨kV h1 k1,k2⟩
 have wj:∀{c:Bool},Sy ops i o (rs.take i)=some c->Region.wanted o (yielded ops a.tmps)=c:=by
  intro c hg;unfold Sy at hg;split at hg
  ·rename_i sa;injection hg with hg
   subst hg;simp[Region.wanted,sa]
  ·rename_i j want sa;split at hg
   ·rename_i Si;split at hg
    ·rename_i t b _ ht hr;injection hg with hg
     subst hg;have PT:=tu i j Si;rw[acB,if_pos PT] at hr;obtain⟨v,hv,hx⟩:=he.k t _ (iX (by omega) (hw j Si) ht hr);obtain⟨rfl,_⟩:=hx;exact nG sa ht hv
    ·rename_i t _ ht hr;injection hg with hg
     subst hg;have PT:=tu i j Si;rw[acB,if_pos PT] at hr;obtain⟨v,hv,vs,e1,e2⟩:=he.k t _ (iX (by omega) (hw j Si) ht hr);cases e2
     exact rj sa ht (by rw[hv,e1];rfl)
    ·cases hg
   ·cases hg
 rcases Qc with⟨hg,hr⟩|⟨hg,r0,r,alV,hr,U7⟩
 ·
  have Dc:=wj hg;unfold wpOp;rw[ho];simp only[Dc,acC,if_false];have om:tO rs i=.dead:=pU (.inr ⟨_,hr⟩);refine⟨bs,S,?_,λj hj pc=>hu j hj ?_,(qp undef).2,(qp undef).1,λt x hx=>?_⟩
  ·rw[wD hi oo,om];refine hs.mask (by simp) λk x hx=>?_;by_cases e:H0.length+i=k
   ·subst e;rw[abv (by rw[iz];omega)] at hx;exact .inl (aaj hx).symm
   ·rw[aaS e] at hx;exact .inr hx
  ·by_cases e:j=i
   ·subst e;exact oo
   ·rw[bC d e] at pc;exact pc
  ·rcases wt t x hx with⟨hx,fR⟩|⟨ht,r,PD,hrx⟩
   ·obtain⟨v,q1,q2⟩:=he.k t x hx;exact⟨v,(rY undef t fR).trans q1,q2⟩
   ·rw[hr] at PD;obtain rfl:=aaj (aaj PD);subst hrx;refine⟨undef,?_,[],rfl,.nil⟩;rw[Xn,ht];show(a.tmps.setIfInBounds t undef)[t]?=_;exact acm (by rw[he.s];exact wn t ht)
 ·have Dc:=wj hg;have FY:∀j,selB ms i j=true->j<i/\d j=true:=by
   intro j hj;unfold selB at hj;rw[aav,decide_eq_true_eq] at hj;refine⟨hj.1,?_⟩;have him:i<ms.length:=by rw[Sq];exact hi
   have tR:=hj.2;rw[aal,aac him] at tR;exact AJ i _ (aac him) j tR d hc hw
  have Dd:∀j,j<i->(rs.take i)[j]?=rs[j]?:=λj hj=>by rw[acB,if_pos hj]
  have afB:∀j,j<i->tO (rs.take i) j=tO rs j:=λj hj=>by unfold tO;rw[Dd j hj]
  have hsm:HS cx bs w S (ky H0 n (selB ms i) (rs.take i)):=by
   refine hs.mask (by rw[iz,iz]) λk x hx=>?_;by_cases hk:k<H0.length
   ·rw[sj hk] at hx ⊢;exact .inr hx
   ·have gM:k<H0.length+n:=by have:=(aad.1 hx).1;rw[iz] at this;exact this
    obtain⟨j,rfl⟩:∃j,k=H0.length+j:=⟨k-H0.length,by omega⟩;rw[kU (by omega)] at hx;rw[kU (by omega)];split at hx
    ·rename_i hsj;obtain⟨q1,q2⟩:=FY j hsj;rw[q2,afB j q1] at*;exact .inr hx
    ·exact .inl (aaj hx).symm
  have hem:ER m bs w S (kW ops (UO ops n ms i) dd (selB ms i) (rs.take i)) a:=by
   refine⟨he.d,he.s,λt x hx=>?_⟩;rcases jc hx with⟨j,q,hj,fo,ht,hq,rfl⟩|⟨h1,hn⟩
   ·obtain⟨q1,q2⟩:=FY j fo;rw[Dd j q1] at hq;exact he.k t _ (iX (by omega) q2 ht hq)
   ·exact he.k t x (kV h1 (Xf AJ Sq oo hc hn))
  have tQ:=AR C.isP hsm hem alV;refine uA ho Dc (tQ _ _ λv w' S' u hb hS hn hx hf=>?_);have fo:=hs.grow hb hS hn;have heg:∀aZ,iV bs aZ->XR aZ w' S' r0.1 v->ER m aZ w' S' (kW ops (K1 ops n (jI d i)) dd (jI d i) rs) (a.put o.dst v):=by
   intro aZ ha iF;refine⟨(qp v).2,(qp v).1,λt x hx=>?_⟩;rcases wt t x hx with⟨hx,fR⟩|⟨ht,r',jo,rfl⟩
   ·obtain⟨z,q1,q2⟩:=he.k t x hx;exact⟨z,(rY v t fR).trans q1,q2.keep hS ((aw.of_below hb).sub λb q=>(hs.s b q).1) ha⟩
   ·rw[hr] at jo;obtain rfl:=aaj (aaj jo);refine⟨v,?_,?_⟩
    ·rw[Xn,ht];show(a.tmps.setIfInBounds t v)[t]?=_;exact acm (by rw[he.s];exact wn t ht)
    ·rcases U7 with rfl|⟨b,e1,e2⟩
     ·exact iF
     ·rw[e1] at iF;rw[e2];exact⟨iF.1,rfl⟩
  have hun:bs[H0.length+i]?=some undef:=hu i hi oo;cases Py:r0.2 with
  | none=>
   have alc:r.2=none:=by
    rcases U7 with rfl|⟨b,_,e2⟩
    ·exact Py
    ·rw[e2]
   have om:tO rs i=.dead:=pU (.inr ⟨r.1,by rw[hr,<-alc]⟩);obtain⟨UX,_⟩:=hx bs (iV.refl _) (by rw[Py];intro h;cases h);refine⟨bs,S',?_,λj hj pc=>hu j hj ?_,heg bs (iV.refl _) UX⟩
   ·rw[wD hi oo,om];refine fo.mask (by simp) λk x hx=>?_;by_cases e:H0.length+i=k
    ·subst e;rw[abv (by rw[iz];omega)] at hx;exact .inl (aaj hx).symm
    ·rw[aaS e] at hx;exact .inr hx
   ·by_cases e:j=i
    ·subst e;exact oo
    ·rw[bC d e] at pc;exact pc
  | some x=>
   have hrx:r=r0:=by
    rcases U7 with h|⟨b,e1,_⟩
    ·exact h
    ·rw[e1] at Py;cases Py
   have om:tO rs i=x:=by
    unfold tO;rw[hr,hrx];obtain⟨r1,r2⟩:=r0;have Py:r2=some x:=Py;subst Py;rfl
   have F3:H0.length+i<bs.length:=by omega
   have wu:iV bs (bs.set (H0.length+i) u):=λq z hq hz=>by
    rw[aaS (λe=>by subst e;rw[hun] at hq;injection hq with hq;subst hq;cases hz)];exact hq
   obtain⟨UX,Bt⟩:=hx (bs.set (H0.length+i) u) wu λ_=>by rw[abv F3]
   have mf:=hf x Py;have afZ:(ky H0 n d rs)[H0.length+i]?=some .dead:=by rw[kU hi,oo];rfl
   have jp:=fo.fill (x:=x) (v:=u) afZ hun rfl (Bt x Py) λb gp=>⟨.inl (aax hs.size (mf b gp).1),(mf b gp).2,λk z q hz hq e=>by
    have:=(hs.o k z q hz hq).lt e;have:=(mf b gp).1;omega⟩
   refine⟨bs.set (H0.length+i) u,S',?_,λj hj pc=>?_,heg _ wu UX⟩
   ·rw[wD hi oo,om];exact jp
   ·by_cases e:j=i
    ·subst e;rw[gh] at pc;cases pc
    ·rw[bC d e] at pc;rw[aaS (by omega)];exact hu j hj pc
theorem HS.pads {bs:List Value} {w:World} {S:Nat->Prop} {H:List ah} (h:HS cx bs w S H):∀n,HS cx (bs++List.replicate n undef) w S (H++List.replicate n .dead)
 | 0=>by simpa using h
 | n+1=>by
  have:=(HS.pads h n).pad;rw[abS,abS,<-adw,<-adw] at this;exact this
theorem LG {rs:Rs}:ky H0 n (λ_=>false) rs=H0++List.replicate n .dead:=by
 unfold ky;congr 1
 apply acQ;intro i;by_cases hi:i<n
 ·rw[acG,ada hi,adc,if_pos hi];rfl
 ·rw[abC (by simp;omega),abC (by simp;omega)]
theorem uc {cV:dA}:∀(l:List Oper) (i:Nat) {st:dA} {a:Act} {w:World},ops.toList.drop i=l->(Fo C m ops l st).hit cV->fc m cx st a w->(∀a' w',fc m cx cV a' w'->Q .normal a' w')->Hh P ops Q l.length i a w
 | [],i,st,a,w,_,h,bT,hQ=>by
  have h:st=cV:=h;subst h;exact hQ a w bT
 | o::l,i,st,a,w,hl,h,bT,hQ=>by
  obtain⟨st1,h1,h2⟩:=T.hit_bind h;have ho:ops[i]?=some o:=by
   have:=congrArg (λl:List Oper=>l[0]?) hl;simp only[acA,adq,adb,Array.getElem?_toList] at this;exact this
  have xE:ops.toList.drop (i+1)=l:=by
   rw[<-adh,hl];rfl
  exact Qo ho h1 bT (λst q1 q2=>Ny q1 q2 λa' w' q=>uc l (i+1) xE h2 q hQ) λa' w' q=>uc l (i+1) xE h2 q hQ
theorem QM {id:Nat} {st cV:dA} {a:Act} {w:World} {n:Nat} (h:(VI C m ops n st).hit cV) (bT:fc m cx st a w) (hQ:∀a' w',fc m cx cV a' w'->Q .normal a' w'):(Code.region id ops true).wp P Q a w:=by
 unfold VI at h;split at h
 ·rename_i hc;simp only[aav] at hc;obtain⟨⟨⟨hm,hb⟩,mb⟩,kT⟩:=hc;obtain⟨rs,h1,h2⟩:=T.hit_bind h;have jb:=fi hb;have F3:n<=ops.size:=by omega
  have Le:(ops.toList.take n).length=n:=by rw[abD,abK];omega
  have gn:∀(k:Nat) (o:Oper),(ops.toList.take n)[k]?=some o->ops[k]?=some o:=λk o hk=>by
   rw[acB] at hk;split at hk
   ·simpa using hk
   ·cases hk
  obtain⟨q1,q2⟩:=Dm _ [] rs h1 (λk o hk=>by rw[ab9,acg];exact gn k o hk) λi hi=>absurd hi (Nat.not_lt_zero _);rw[ab9,acg,Le] at q1;have AJ:Ep ops (vE (ops.toList.take n) []):=Ak _ [] (λi s hs=>by cases hs) λk o hk=>by rw[ab9,acg];exact gn k o hk
  have Sq:∀(l:List Oper) (cY:List Nat),(vE l cY).length=cY.length+l.length:=by
   intro l;induction l with
   | nil=>intro cY;rfl
   | cons o l ih=>intro cY;show(vE l _).length=_;rw[ih,aaM,aaJ,ab9,aaJ];omega
  have tu:∀(i j:Nat),waits ops i j=true->j<i:=by
   intro i j hw;unfold waits at hw;cases ho:ops[i]? with
   | none=>rw[ho] at hw;cases hw
   | some o=>
    rw[ho] at hw;simp only[acU,acw,Array.any_eq_true',aav,beq_iff_eq] at hw;obtain⟨e,he,hbi,rfl⟩:=hw;exact nk hb ho e he hbi
  refine mE n (ops.size-n) (DI m cx ops n st.env st.heap rs) hm hb mb ?_ (λQ' d a w i hi hI oo tS hc hw=>DI.step q1 F3 (λi hi=>q2 i (by omega)) AJ (by rw[Sq,ab9,acg,Le]) kT tu hi hI oo tS hc hw) λd a w hI eQ=>?_
  ·obtain⟨bs,S,hs,he⟩:=bT;have hd:Below w.heap.size w w.drew:=(Below.refl _ _).drew;refine⟨bs++List.replicate n undef,S,by rw[LG];exact(hs.grow hd (λ_ h=>h) λ_ h=>.inl h).pads n,λj hj _=>?_,he.d,he.s,λt x hx=>?_⟩
   ·rw[<-hs.len,aar (by omega),abB,adc,if_pos hj]
   ·rcases jc hx with⟨j,r,_,h,_⟩|⟨h1,_⟩
    ·cases h
    ·obtain⟨v,k1,k2⟩:=he.k t x h1;exact⟨v,k1,k2.keep (λ_ h=>h) (λ_ _=>rfl) λo u hu _=>by rw[aay (aad.1 hu).1];exact hu⟩
  ·obtain⟨bs,S,hs,_,he⟩:=hI;have ma:fc m cx ⟨kW ops (rG ops n) st.env (λ_=>true) rs,ky st.heap n (λ_=>true) rs⟩ a w:=by
    refine⟨bs,S,?_,he.d,he.s,λt x hx=>he.k t x ?_⟩
    ·have:ky st.heap n (λ_=>true) rs=ky st.heap n d rs:=by
      unfold ky;congr 1
      apply adB;intro j hj;rw[eQ j (abU.1 hj)]
     show HS cx bs w S (ky st.heap n (λ_=>true) rs);rw[this];exact hs
    ·rcases jc hx with⟨j,r,hj,_,ht,hr,rfl⟩|⟨k1,k2⟩
     ·exact iX hj (eQ j (by omega)) ht hr
     ·exact kV k1 (IQ k2)
   have:=uc (C:=C) (Q:=Q) (cx:=cx) (ops.toList.drop n) n rfl h2 ma hQ
   rwa [abw,abK] at this
 ·exact h.elim
end
end Go.Proofs.YtdbpbfglhbiadaaGreatDoor
