/- MFn MPure MDrw -/
import Derived.Test.YtjlhbfbdcfajfaaGreatDoorV00
import Derived.Test.YtjlhbfbdcfajfaaGreatDoorV28
set_option maxHeartbeats 8000000
set_option maxRecDepth 100000
namespace Go.Proofs.YtjlhbfbdcfajfaaGreatDoor
open Go Go.RowKit
inductive LE (l lo lr:List (Nat×SS)) where
 | back (x:ct l)
 | out (y:ct lo)
 | ret (r:XV) (z:ct lr)
section
variable {P:Program} {m:Nat} {loops:List Code} (R:Rg P m) (L:AU P R.fn m R.pb loops)
def rdT (n k d:Nat) (b:Code) (l lo lr:List (Nat×SS)) (x:ct l):T (LE l lo lr):=(run R L n [.code (k+1) b] (di l x)).bind fun q=>match q with
 | .nrm st=>T.op ((oR R.pb l st).map .back)
 | .ext id st=>if id=d then T.op ((oR R.pb lo st).map .out) else .bad
 | .ret r st=>T.op ((oR R.pb lr st).map (.ret r))
def lpT (pb:List Nat) (d:Nat) (l lo lr:List (Nat×SS)) (G:ct l→T (LE l lo lr)) (st:dX):T Lf:=match oR pb l st with
 | some x=>(G x).bind fun q=>match q with
  | .back _=>.bad
  | .out y=>.lf (.ext d (di lo y))
  | .ret r z=>.lf (.ret r (di lr z))
 | none=>.bad
theorem YA.nrm {fn:Func} {cx:Cx} {r:XV} {st:dX} {a:Act} {w:World} {l:List (Nat×SS)} {z:ct l} (h:YA P fn m cx r st a w) (hr:oR cx.pb l st=some z):YA P fn m cx r (di l z) a w:=by
 obtain⟨bs,S,S',hs,he,q⟩:=h;obtain⟨us,q1,q2⟩:=nJ hr hs he;exact⟨us,S,S',q1,q2,q⟩
theorem aaP {n k d:Nat} {b:Code} {l lo lr:List (Nat×SS)} {G:ct l→T (LE l lo lr)} (μ:ct l→Nat) (hk:∀j x,(kC b)[j]?=some x→loops[k+1+j]?=some x) (db:∀x r,La l x→(G x).hit r→∃q,(rdT R L n k d b l lo lr x).hit q∧match q with|.back x'=>μ x'<μ x∧(G x').hit r|q=>q=r):AY P R.fn m R.pb (.loop b) (lpT R.pb d l lo lr G):=by
 intro cx st a w lf np h cj;unfold lpT at h;split at h
 ·rename_i x hx;obtain⟨r,h1,h2⟩:=T.hit_bind h;rw[←np] at hx;have cj:=uq hx cj;refine wp_loop_ghost (fun j a w=>∃x,j=μ x∧(G x).hit r∧fx m cx (di l x) a w) (μ x) ⟨x,rfl,h1,cj⟩ ?_;rintro j a1 w1 ⟨x1,rfl,g1,s1⟩;obtain⟨q,q1,q2⟩:=db x1 r (Pp s1) g1;obtain⟨lf',p1,p2⟩:=T.hit_bind q1;refine wp_mono (zl np p1 s1 hk) fun e a2 w2 he=>?_;cases e with
  | normal=>
   obtain⟨dA,rfl,s2⟩:=he;have p2:=T.hit_op p2;cases e2:oR R.pb l dA with
   | none=>rw[e2] at p2;cases p2
   | some y=>
    rw[e2] at p2;injection p2 with p2
    subst p2;rw[←np] at e2;exact⟨μ y,q2.1,y,rfl,q2.2,uq e2 s2⟩
  | exit id=>
   obtain⟨dA,rfl,s2⟩:=he;simp only at p2;split at p2
   ·rename_i e3;subst e3;have p2:=T.hit_op p2;cases e2:oR R.pb lo dA with
    | none=>rw[e2] at p2;cases p2
    | some y=>
     rw[e2] at p2;injection p2 with p2
     subst p2;have q2:LE.out y=r:=q2;subst q2;have h2:Lf.ext id (di lo y)=lf:=h2;rw[←np] at e2;exact⟨_,h2,uq e2 s2⟩
   ·exact p2.elim
  | ret=>
   obtain⟨r',dA,rfl,s2⟩:=he;have p2:=T.hit_op p2;cases e2:oR R.pb lr dA with
   | none=>rw[e2] at p2;cases p2
   | some y=>
    rw[e2] at p2;injection p2 with p2
    subst p2;have q2:LE.ret r' y=r:=q2;subst q2;have h2:Lf.ret r' (di lr y)=lf:=h2;rw[←np] at e2;exact⟨_,_,h2,s2.nrm e2⟩
  | _=>exact he.elim
 ·exact h.elim
end
def noL (P:Program) (fn:Func) (m:Nat) (pb:List Nat) (loops:List Code):AU P fn m pb loops:=⟨fun _=>none,fun _ _ _ h=>by cases h⟩
def AU.add {P:Program} {fn:Func} {m:Nat} {pb:List Nat} {loops:List Code} (L:AU P fn m pb loops) (k:Nat) (g:dX→T Lf) (h:∀c,loops[k]?=some c→AY P fn m pb c g):AU P fn m pb loops:=
 ⟨fun i=>if i=k then some g else L.f i,fun i g' c hf hc=>by
  by_cases e:i=k
  ·rw[if_pos e] at hf;injection hf with hf;subst hf e;exact h c hc
  ·rw[if_neg e] at hf;exact L.ok i g' c hf hc⟩
def qM:Nat→List XV→Env
 | _,[]=>[]
 | n,x::l=>(n,x)::qM (n+1) l
def Mj (P:Program) (H:List ai) (env:Env):ResultVar→Option XV
 | .tmp t=>env.lookup t
 | .cell t ty=>Wx P H ty (env.lookup t)
def Mk (P:Program) (H:List ai) (env:Env):List ResultVar→Option (List XV)
 | []=>some []
 | x::l=>match Mj P H env x,Mk P H env l with
  | some y,some r=>some (y::r)
  | _,_=>none
def XV.comp:XV→Option (Bool×List AV)
 | .one a=>some (false,[a])
 | .agg cs=>some (true,cs)
 | .tup _=>none
def Dg:List XV→Option (List (Bool×List AV))
 | []=>some []
 | x::l=>match x.comp,Dg l with
  | some y,some r=>some (y::r)
  | _,_=>none
def VO (P:Program) (fn:Func) (vw:Bool) (st:dX):Option XV:=match Mk P st.heap st.env fn.results.toList with
 | none=>none
 | some l=>match l.map (fun x=>if vw then xN st.heap x else x) with
  | [x]=>if x.free then some x else none
  | l=>(Dg l).bind fun cs=>if(XV.tup cs).free then some (.tup cs) else none
section
variable {P:Program} {fn:Func} {cx:Cx} {bs:List Value} {w:World} {S:Nat→Prop} {H:List ai} {m:Nat} {env:Env} {a:Act}
theorem RX (hs:HS cx bs w S H) {t:TypeId} {x:Option XV} {v:Value} (hx:∀y,x=some y→XR bs w S y v) {y:XV} (h:Wx P H t x=some y):∃u,(do loadVar t (←asAddr v):Sem Value).run P w=.ok u w∧XR bs w S y u:=by
 cases x with
 | none=>unfold Wx at h;cases hq:Wy P t<;>rw[hq] at h<;>cases h
 | some z=>
  unfold Wx at h;split at h
  ·rename_i q b hq hz;injection hz with hz
   subst hz;cases e:uB H b with
   | none=>rw[e] at h;cases h
   | some cs=>
    rw[e] at h;have h:UC q (cs.take q.2)=some y:=h;obtain⟨ad,vs,hv,hc,hf⟩:=wR hs e (hx _ rfl);subst hv;have Ar:=hf.take q.2;have Xz:=hc.take q.2;have hl:=Ar.length;unfold UC at h;split at h
    ·rename_i bM;rw[bM] at hl;unfold Wy at hq;split at hq
     ·rename_i Ou;cases hi:P.info? t with
      | none=>rw[hi] at hq;cases hq
      | some i=>
       rw[hi] at hq;injection hq with hq
       subst hq;simp only[if_true] at h;injection h with h
       subst h;refine⟨_,?_,CR.agg Ar⟩;have hl:=Ux Xz Ou (by rw[hi];exact congrArg some hl);simpa[Instr.loadAt,Instr.sureAddr,asAddr,Sem.run_bind] using hl
     ·rename_i Ou;injection hq with hq
      subst hq;simp only[abC,if_false] at h;split at h
      ·rename_i b' hb;injection h with h
       subst h;rw[hb] at Ar;cases Se:vs.take 1 with
       | nil=>rw[Se] at Ar;cases Ar
       | cons u r=>
        rw[Se] at Ar Xz;cases Ar with
        | cons h1 h2=>
         refine⟨u,?_,h1⟩;have h0:=Xz 0 u rfl;have:ad.add 0=ad:=by unfold Addr.add;simp
         rw[this] at h0;have hl:=Uy (P:=P) (t:=t) h0 Ou;simpa[Instr.loadAt,Instr.sureAddr,asAddr,Sem.run_bind] using hl
      ·cases h
     ·cases hq
    ·cases h
  ·cases h
theorem Jh (hs:HS cx bs w S H) (he:ER m bs w S env a) {x:ResultVar} {y:XV} (h:Mj P H env x=some y):∃v,(match x with|.tmp t=>pure (a.tmps.getD t undef)|.cell t ty=>do loadVar ty (←asAddr (a.tmps.getD t undef)):Sem Value).run P w=.ok v w∧XR bs w S y v:=by
 cases x with
 | tmp t=>exact⟨_,rfl,AF he h⟩
 | cell t ty=>exact RX hs (fun y hy=>AF he hy) h
theorem Gt (hs:HS cx bs w S H) (he:ER m bs w S env a):∀{l:List ResultVar} {r:List XV},Mk P H env l=some r→∃vs,(l.mapM fun x=>(match x with|.tmp t=>pure (a.tmps.getD t undef)|.cell t ty=>do loadVar ty (←asAddr (a.tmps.getD t undef)):Sem Value)).run P w=.ok vs w∧F2 (XR bs w S) r vs
 | [],r,h=>by injection h with h;subst h;exact⟨[],rfl,.nil⟩
 | x::l,r,h=>by
  unfold Mk at h;split at h
  ·rename_i y r' h1 h2;injection h with h
   subst h;obtain⟨v,q1,q2⟩:=Jh hs he h1;obtain⟨vs,q3,q4⟩:=Gt hs he h2;refine⟨v::vs,?_,.cons q2 q4⟩;rw[List.mapM_cons];simp only[Sem.run_bind,q1,Result.andThen_ok,q3,Sem.run_pure]
  ·cases h
theorem Df:∀{l:List XV} {cs:List (Bool×List AV)} {vs:List Value},Dg l=some cs→F2 (XR bs w S) l vs→F2 (fun p v=>CR bs w S p.1 p.2 v) cs vs
 | [],_,_,h,hf=>by cases hf;injection h with h;subst h;exact .nil
 | x::l,_,_,h,hf=>by
  cases hf with
  | cons h1 h2=>
   unfold Dg at h;split at h
   ·rename_i y r hy hr;injection h with h
    subst h;refine .cons ?_ (Df hr h2);cases x with
    | one b=>injection hy with hy;subst hy;exact⟨b,rfl,h1⟩
    | agg cs=>injection hy with hy;subst hy;exact h1
    | tup l=>cases hy
   ·cases h
theorem QO {cx:Cx} {st:dX} {a:Act} {w:World} {r:XV} {vw:Bool} (hvw:cx.pb=[]∨vw=false) (h:VO P fn vw st=some r) (cj:fx m cx st a w):YA P fn m cx r st a w:=by
 obtain⟨bs,S,hs,he⟩:=cj;unfold VO at h;cases e:Mk P st.heap st.env fn.results.toList with
 | none=>rw[e] at h;cases h
 | some l=>
  rw[e] at h;obtain⟨vs,q1,q2⟩:=Gt hs he e;have Zn:∀b,FZ bs st.heap S b→(cx.S0 b∨cx.w0.heap.size≤b∨cx.M b)∧b<w.heap.size:=fun b hb=>by
   rcases hb with hb|⟨i,x,v,h1,h2,h3⟩
   ·exact⟨(hs.s b hb).2,(hs.s b hb).1⟩
   ·exact⟨.inr (hs.nw i x v b h1 h2 h3).1,(hs.o i x v h1 h2).lt h3⟩
  have key:∃S',(∀b,S' b→(cx.S0 b∨cx.w0.heap.size≤b∨cx.M b)∧b<w.heap.size)∧(vw=true∨∀b,S' b→S b)∧F2 (XR bs w S') (l.map (fun x=>if vw then xN st.heap x else x)) vs:=by
   cases vw with
   | true=>exact⟨_,Zn,.inl rfl,q2.mapL fun x _ v hv=>Bl hs hv⟩
   | false=>exact⟨S,fun b hb=>⟨(hs.s b hb).2,(hs.s b hb).1⟩,.inr fun _ h=>h,by simpa using q2⟩
  obtain⟨S',k1,k2,k3⟩:=key;have qO:∀v,(v=if h:vs.toArray.size=1 then vs.toArray[0] else .tuple vs.toArray)→(results fn a.tmps).run P w=.ok v w:=by
   rintro v rfl;unfold results;rw[Array.mapM_eq_mapM_toList];simp only[Sem.run_bind,map_eq_pure_bind,bind_assoc,pure_bind];exact(congrArg (fun r=>Result.andThen r _) q1).trans rfl
  have np:cx.pb=[]∨∀b,S' b→S b:=by
   rcases hvw with q|q
   ·exact .inl q
   ·rcases k2 with k2|k2
    ·rw[q] at k2;cases k2
    ·exact .inr k2
  simp only at h;split at h
  ·rename_i x hx;rw[hx] at k3;split at h
   ·rename_i hf;injection h with h
    subst h;cases k3 with
    | @cons _ v _ _ h1 h2=>
     cases h2
     exact⟨bs,S,S',hs,he,k1,np,v,qO v rfl,XR.free hf h1⟩
   ·cases h
  ·rename_i l' fv;cases ec:Dg (l.map (fun x=>if vw then xN st.heap x else x)) with
   | none=>rw[ec] at h;cases h
   | some cs=>
    rw[ec] at h;have h:(if(XV.tup cs).free then some (XV.tup cs) else none)=some r:=h;split at h
    ·rename_i hf;injection h with h
     subst h;refine⟨bs,S,S',hs,he,k1,np,.tuple vs.toArray,qO _ ?_,XR.free hf ⟨vs,rfl,Df ec k3⟩⟩;have hl:=k3.length;rw[dif_neg];intro h1;rw[abW,←hl] at h1
     match hm:l.map (fun x=>if vw then xN st.heap x else x),h1 with
     | [x],_=>exact fv x hm
    ·cases h
end
def IW:AV→AV
 | .val (.int k n)=>.sym (.int k n)
 | .val (.bool b)=>.sym (.bool b)
 | .val (.string s)=>.sym (.string s)
 | a=>a
def Qt:XV→XV
 | .one a=>.one (IW a)
 | .agg cs=>.agg (cs.map IW)
 | .tup l=>.tup (l.map fun p=>(p.1,p.2.map IW))
section
variable {bs:List Value} {w:World} {S:Nat→Prop}
theorem zn {x:AV} {v:Value} (h:VR bs w S x v):VR bs w S (IW x) v:=by
 unfold IW;split<;>exact h
theorem Gh {ag:Bool} {cs:List AV} {v:Value} (h:CR bs w S ag cs v):CR bs w S ag (cs.map IW) v:=by
 unfold CR at h ⊢;cases ag with
 | true=>obtain⟨vs,e,h⟩:=h;exact⟨vs,e,h.mapL fun _ _ _ h=>zn h⟩
 | false=>obtain⟨a,rfl,h⟩:=h;exact⟨_,rfl,zn h⟩
theorem Gg {x:XV} {v:Value} (h:XR bs w S x v):XR bs w S (Qt x) v:=by
 cases x with
 | one b=>exact zn h
 | agg cs=>exact Gh (ag:=true) h
 | tup l=>obtain⟨vs,e,h⟩:=h;exact⟨vs,e,h.mapL fun _ _ _ h=>Gh h⟩
end
def XV.plain:XV→Bool
 | .one a=>a.plain
 | .agg cs=>cs.all AV.plain
 | .tup l=>l.all fun p=>p.2.all AV.plain
section
variable {P:Program} {m:Nat} {loops:List Code} (R:Rg P m) (L:AU P R.fn m R.pb loops)
def fnT (n:Nat) (body:Code) (l0:List (Nat×SS)) (x:ct l0):T XV:=(run R L n [.code 0 body] (di l0 x)).bind fun q=>match q with
 | .ret r _=>.lf (Qt r)
 | .nrm _=>if R.fn.results.toList.isEmpty then .lf (.tup []) else .bad
 | _=>.bad
end
def aX (l0:List (Nat×SS)) (G:ct l0→T XV) (xs:List XV):T XV:=match oR [] l0 ⟨qM 0 xs,[]⟩ with
 | some x=>if xs.length=l0.length then G x else .bad
 | none=>.bad
section
variable {P:Program} {fn:Func} {w:World} {S:Nat→Prop}
theorem VR.plain {bs bm:List Value} {S S':Nat→Prop} {w w':World} {x:AV} {v:Value} (hp:x.plain=true) (h:VR bs w S x v):VR bm w' S' x v:=by
 cases x with
 | val u=>exact h
 | sym u=>exact h
 | _=>cases hp
theorem CR.plain {bs bm:List Value} {S S':Nat→Prop} {w w':World} {ag:Bool} {cs:List AV} {v:Value} (hp:cs.all AV.plain=true) (h:CR bs w S ag cs v):CR bm w' S' ag cs v:=by
 have hc:=abq.1 hp;have key:∀{cs:List AV} {vs:List Value},(∀x∈cs,x.plain=true)→F2 (VR bs w S) cs vs→F2 (VR bm w' S') cs vs:=by
  intro cs vs hc hf;induction hf with
  | nil=>exact .nil
  | cons h _ ih=>exact .cons (VR.plain (hc _ aaS) h) (ih fun x hx=>hc x (aa9 _ hx))
 unfold CR at h ⊢;cases ag with
 | true=>obtain⟨vs,e,h⟩:=h;exact⟨vs,e,key hc h⟩
 | false=>obtain⟨x,rfl,h⟩:=h;exact⟨x,rfl,VR.plain (hc x aaS) h⟩
theorem XR.plain {bs bm:List Value} {S S':Nat→Prop} {w w':World} {x:XV} {v:Value} (hp:x.plain=true) (h:XR bs w S x v):XR bm w' S' x v:=by
 cases x with
 | one b=>exact VR.plain hp h
 | agg cs=>exact CR.plain hp h
 | tup l=>
  obtain⟨vs,e,h⟩:=h;refine⟨vs,e,?_⟩;have hc:=abq.1 hp;clear e;induction h with
  | nil=>exact .nil
  | @cons p _ _ _ h _ ih=>exact .cons (CR.plain (hc p aaS) h) (ih (abq.2 fun x hx=>hc x (aa9 _ hx)) fun x hx=>hc x (aa9 _ hx))
theorem uy {bs:List Value} {tmps:Array Value}:∀{xs:List XV} {vs:List Value} {n:Nat},F2 (XR bs w S) xs vs→(∀(j:Nat) (v:Value),vs[j]?=some v→tmps[n+j]?=some v)→∀t x,(t,x)∈qM n xs→∃v,tmps[t]?=some v∧XR bs w S x v
 | [],_,_,_,_,_,_,h=>by cases h
 | x::xs,_,n,hf,ht,t,y,h=>by
  cases hf with
  | @cons _ v _ vs h1 h2=>
   rcases aba.1 h with e|h
   ·injection e with e1 e2
    subst e1 e2;exact⟨v,ht 0 v rfl,h1⟩
   ·refine uy (n:=n+1) h2 (fun j v hj=>?_) t y h;rw[show n+1+j=n+(j+1) by omega];exact ht (j+1) v (by simpa using hj)
theorem pure_ok {f:FuncId} {body:Code} {loops:List Code} (R:Rg P fn.ntmps) (L:AU P R.fn fn.ntmps R.pb loops) (SK:R.fn=fn) (hRp:R.pb=[]) (hf:P.funcs[f]?=some fn) (hb:fn.body=some body) (hl:loops=kC body) (al:Bool) (n:Nat) (l0:List (Nat×SS)) (G:ct l0→T XV) (D5:l0.length≤fn.ntmps) (h:∀x r,La l0 x→(G x).hit r→(fnT R L n body l0 x).hit r∧(al=true∨r.plain=true)):ax P f al (aX l0 G):=by
 intro w S xs vs r hW hS hx hr;unfold aX at hr;split at hr
 ·rename_i x i7;split at hr
  ·rename_i bM;have Bc:vs.length≤fn.ntmps:=by rw[←hx.length,bM];exact D5
   let cx:Cx:=⟨w,S,fun _=>False,[],[],wk0 hW⟩
   have hs:HS cx [] w S []:=⟨rfl,(fun _ _ _ h=>by cases h),(fun _ _ _ _ _ _ _ _ h=>by cases h),(fun _ _ _ _ h=>by cases h),fun b q=>⟨hS b q,.inl q⟩,fun _ h=>h,rfl,rfl,rfl,aaW _,fun _ _ _=>rfl,fun _ _ h=>by cases h⟩;have he:ER fn.ntmps [] w S (qM 0 xs) { tmps:=vs.toArray++Array.replicate (fn.ntmps-vs.toArray.size) undef,defers:=[] }:=by
    refine⟨rfl,?_,uy hx fun j v hj=>?_⟩
    ·show(vs.toArray++Array.replicate (fn.ntmps-vs.toArray.size) undef).size=_;rw[Array.size_append,Array.size_replicate,abW];omega
    ·rw[ace,Array.getElem?_append,if_pos (by rw[abW];exact(aab.1 hj).1)];simpa using hj
   have cj:=uq (cx:=cx) i7 ⟨[],S,hs,he⟩;obtain⟨h1,h2⟩:=h x r (Pp cj) hr;obtain⟨q,h3,h4⟩:=T.hit_bind h1;refine calls_of_wp hf hb (wp_mono (zl (cx:=cx) hRp.symm h3 cj fun j z hz=>by rw[hl,ace];exact hz) fun e a' w' hq=>?_);have below:∀{bs S1 H},HS cx bs w' S1 H→Below w.heap.size w w':=fun fK=>⟨fK.os,fK.tape,fK.output,fK.size,fun b hb=>fK.old b hb fun h=>h⟩;cases e with
   | ret=>
    obtain⟨r',dA,rfl,bs,S1,S',fK,yG,k1,_,v,k2,k3⟩:=hq;have h4:Qt r'=r:=h4;subst h4;have k3:=Gg k3;rw[SK] at k2;refine⟨yG.d,v,k2,?_⟩;rcases h2 with h2|h2
    ·refine⟨v,S',rfl,below fK,fun b q=>?_,k3⟩;obtain⟨q1,q2⟩:=k1 b q;rcases q1 with q1|q1|q1
     ·exact .inl ⟨h2,q1⟩
     ·exact .inr ⟨q1,q2⟩
     ·exact q1.elim
    ·exact⟨v,fun _=>False,rfl,below fK,fun b q=>q.elim,XR.plain h2 k3⟩
   | normal=>
    obtain⟨dA,rfl,bs,S1,fK,yG⟩:=hq;simp only at h4;split at h4
    ·rename_i qO;have h4:XV.tup []=r:=h4;subst h4;rw[SK] at qO;have NJ:fn.results=#[]:=by
      have:fn.results.toList=[]:=List.isEmpty_iff.1 qO;rw[←acj (xs:=fn.results),this]
     exact⟨yG.d,_,results_none NJ _ _ _,_,fun _=>False,rfl,below fK,fun b q=>q.elim,[],rfl,.nil⟩
    ·exact h4.elim
   | exit id=>
    obtain⟨dA,rfl,_⟩:=hq;exact h4.elim
   | _=>exact hq.elim
  ·exact hr.elim
 ·exact hr.elim
theorem ZE {bs:List Value}:∀{xs:List XV} {vs:List Value} {n:Nat},F2 (XR bs w S) xs vs→∀t x,(t,x)∈qM n xs→∃v,vs[t-n]?=some v∧n≤t∧XR bs w S x v
 | [],_,_,_,_,_,h=>by cases h
 | x::xs,_,n,hf,t,y,h=>by
  cases hf with
  | @cons _ v _ vs h1 h2=>
   rcases aba.1 h with e|h
   ·injection e with e1 e2
    subst e1 e2;exact⟨v,by rw[Nat.sub_self];rfl,aaW _,h1⟩
   ·obtain⟨v,q1,q2,q3⟩:=ZE (n:=n+1) h2 t y h;refine⟨v,?_,by omega,q3⟩;rw[show t-n=t-(n+1)+1 by omega];exact q1
theorem Dx {l0:List (Nat×SS)} {G:ct l0→T XV} {w:World} {S:Nat→Prop} {xs:List XV} {vs:List Value} {r:XV} (hW:Wd w) (hS:∀b,S b→b<w.heap.size) (hx:F2 (XR [] w S) xs vs) (hr:(aX l0 G xs).hit r) (mY:∀x:ct l0,(di l0 x).heap=[]:=by intro x;rfl) : ∃x:ct l0,(∀t y,(t,y)∈(di l0 x).env→∃v,vs[t]?=some v∧XR [] w S y v)∧vs.length=l0.length∧(G x).hit r:=by
 unfold aX at hr;split at hr
 ·rename_i x i7;split at hr
  ·rename_i bM
   let cx:Cx:=⟨w,S,fun _=>False,[],[],wk0 hW⟩
   have hs:HS cx [] w S []:=⟨rfl,(fun _ _ _ h=>by cases h),(fun _ _ _ _ _ _ _ _ h=>by cases h),(fun _ _ _ _ h=>by cases h),fun b q=>⟨hS b q,.inl q⟩,fun _ h=>h,rfl,rfl,rfl,aaW _,fun _ _ _=>rfl,fun _ _ h=>by cases h⟩;have he:ER vs.length [] w S (qM 0 xs) ⟨vs.toArray,[]⟩:=⟨rfl,by simp,fun t y hy=>by
    obtain⟨v,q1,_,q3⟩:=ZE hx t y hy;exact⟨v,by simpa using q1,q3⟩⟩
   obtain⟨us,q1,q2⟩:=nJ (cx:=cx) i7 hs he;have hus:us=[]:=by
    have:=q1.len;rw[mY x] at this;exact abv this
   subst hus;exact⟨x,(fun t y hy=>by
    obtain⟨v,q3,q4⟩:=q2.k t y hy;exact⟨v,by simpa using q3,q4⟩),(hx.length.symm.trans bM),hr⟩
  ·exact hr.elim
 ·exact hr.elim
theorem zJ {f:FuncId} {al:Bool} {l0:List (Nat×SS)} {G:ct l0→T XV} (h:∀(w:World) (S:Nat→Prop) (x:ct l0) (vs:List Value) (r:XV),Wd w→(∀b,S b→b<w.heap.size)→(∀t y,(t,y)∈(di l0 x).env→∃v,vs[t]?=some v∧XR [] w S y v)→vs.length=l0.length→(G x).hit r→ Calls P f vs.toArray w fun e w'=>∃v S',e=.returned v∧Below w.heap.size w w'∧(∀b,S' b→(al=true∧S b)∨(w.heap.size≤b∧b<w'.heap.size))∧XR [] w' S' r v) (mY:∀x:ct l0,(di l0 x).heap=[]:=by intro x;rfl):ax P f al (aX l0 G):=fun w S _ vs r hW hS hx hr=>let ⟨x,h1,h2,h3⟩:=Dx hW hS hx hr mY;h w S x vs r hW hS h1 h2 h3
theorem gr {f:FuncId} {al:Bool} {l0:List (Nat×SS)} {G:ct l0→T XV} (h:∀(w:World) (S:Nat→Prop) (x:ct l0) (vs:List Value) (r:XV),(∀b,S b→b<w.heap.size)→(∀t y,(t,y)∈(di l0 x).env→∃v,vs[t]?=some v∧XR [] w S y v)→vs.length=l0.length→(G x).hit r→ Calls P f vs.toArray w fun e w'=>∃v S',e=.returned v∧Below w.heap.size w w'∧(∀b,S' b→(al=true∧S b)∨(w.heap.size≤b∧b<w'.heap.size))∧XR [] w' S' r v) (mY:∀x:ct l0,(di l0 x).heap=[]:=by intro x;rfl):ax P f al (aX l0 G):=zJ (fun w S x vs r _=>h w S x vs r) mY
end
section
variable {P:Program} {ops:Array Oper} {Q:Exit→Act→World→Prop}
theorem ny {id:Nat} {a:Act} {W:World} (n r:Nat) (I:(Nat→Bool)→Act→World→Prop) (hm:P.follows .mixedOrders=true) (hb:mQ (n+r) ops=true) (ku:vW ops n (n+r)=true) (h0:I (fun _=>false) a W.drew) (db:∀(Q':Exit→Act→World→Prop) d a w i,i<n→I d a w→d i=false→(∀j,n≤j→d j=false)→(∀k j,d k=true→waits ops k j=true→d j=true)→(∀j,waits ops i j=true→d j=true)→wpOp P ops Q' i (I (kd d i)) a w) (Fp:∀d a w,I d a w→(∀j,j<n→d j=true)→Gf P ops Q r n a w):(Code.region id ops true).wp P Q a W:=by
 have jB:=fC hb;refine xo (n+r) (fun d a' w'=>(∀i j,d i=true→waits ops i j=true→d j=true)∧ ((∃k s,n<k∧k+s=n+r∧(∀j,j<k→d j=true)∧(∀j,k≤j→d j=false)∧Gf P ops Q s k a' w')∨((∀j,n≤j→d j=false)∧I d a' w'))) hm hb ⟨fun i j h=>by simp at h,.inr ⟨fun _ _=>rfl,h0⟩⟩ ?_ ?_
 ·intro d a' w' i hi hI oY hw;obtain⟨uh,hI⟩:=hI;have XB:∀k j,kd d i k=true→waits ops k j=true→kd d i j=true:=by
   intro k j hdk hkj;by_cases e:k=i
   ·subst e;have:=hw j hkj;by_cases e2:j=k
    ·subst e2;exact gE d j
    ·rw[bK d e2];exact this
   ·rw[bK d e] at hdk;have:=uh k j hdk hkj;by_cases e2:j=i
    ·subst e2;exact gE d j
    ·rw[bK d e2];exact this
  rcases hI with⟨k,s,hnk,hks,nr,ug,ht⟩|⟨ug,hI⟩
  ·have hik:i=k:=by
    rcases Nat.lt_trichotomy i k with h|h|h
    ·rw[nr i h] at oY;cases oY
    ·exact h
    ·have h1:=py 9 i hw (fun q hq j=>uh q j hq) (pK ku hi (by omega) h);rw[ug k (aaW _)] at h1;cases h1
   subst hik;cases s with
   | zero=>omega
   | succ s=>
    refine wpOp_mono (fun a'' w'' h=>⟨XB,.inl ⟨i+1,s,by omega,by omega,fun j hj=>?_,fun j hj=>?_,h⟩⟩) ht
    ·by_cases e:j=i
     ·subst e;exact gE d j
     ·rw[bK d e];exact nr j (by omega)
    ·rw[bK d (show j≠i by omega)];exact ug j (by omega)
  ·by_cases da:n≤i
   ·have Qc:i=n:=by
     rcases Nat.lt_or_ge n i with h|h
     ·have h1:=py 9 i hw (fun q hq j=>uh q j hq) (pK ku hi da h);rw[ug n (aaW _)] at h1;cases h1
     ·omega
    subst Qc;have dS:∀j,j<i→d j=true:=fun j hj=>py 9 i hw (fun k hk j=>uh k j hk) (pK ku hi (aaW _) hj);obtain⟨r,rfl⟩:∃q,r=q+1:=⟨r-1,by omega⟩;refine wpOp_mono (fun a'' w'' h=>⟨XB,.inl ⟨i+1,r,by omega,by omega,fun j hj=>?_,fun j hj=>?_,h⟩⟩) (Fp d a' w' hI dS)
    ·by_cases e:j=i
     ·subst e;exact gE d j
     ·rw[bK d e];exact dS j (by omega)
    ·rw[bK d (show j≠i by omega)];exact ug j (by omega)
   ·refine wpOp_mono (fun a'' w'' h=>⟨XB,.inr ⟨fun j hj=>?_,h⟩⟩) (db Q d a' w' i (by omega) hI oY ug uh hw);rw[bK d (show j≠i by omega)];exact ug j hj
 ·intro d a' w' hI dS;obtain⟨_,hI⟩:=hI;rcases hI with⟨k,s,hnk,hks,nr,ug,ht⟩|⟨ug,hI⟩
  ·cases s with
   | zero=>exact ht
   | succ s=>
    have:=ug k (aaW _);rw[dS k (by omega)] at this;cases this
  ·cases r with
   | zero=>exact Fp d a' w' hI fun j hj=>dS j (by omega)
   | succ r=>
    have:=ug n (aaW _);rw[dS n (by omega)] at this;cases this
end
def msk (o:Oper) (fw:List Nat):Nat:=o.after.toList.foldl (fun s e=>if Region.binds .any e then s||| 2^e.on||| fw.getD e.on 0 else s) 0
def vH:List Oper→List Nat→List Nat
 | [],fw=>fw
 | o::l,fw=>vH l (fw++[msk o fw])
def selB (ms:List Nat) (i j:Nat):Bool:=decide (j<i)&&(ms.getD i 0).testBit j
abbrev Rs:=List (Option (XV×Option ai))
def lU (ops:Array Oper) (kp:Nat→Bool) (dG:Env) (xV:Nat→Bool) (rs:Rs):Env:=
 ((List.range rs.length).filterMap fun j=>if xV j then match dC ops j,rs[j]? with
  | some t,some (some r)=>some (t,r.1)
  | _,_=>none else none)++dG.filter fun p=>kp p.1
def JN (ops:Array Oper) (n:Nat) (d:Nat→Bool) (t:Nat):Bool:=(List.range n).all fun j=>!(dC ops j==some t)||!(d j)
def R1 (ops:Array Oper) (n:Nat) (ms:List Nat) (i t:Nat):Bool:=(List.range n).all fun j=>!(dC ops j==some t)||(ms.getD j 0).testBit i
def tN (rs:Rs) (j:Nat):ai:=match rs[j]? with
 | some (some (_,some x))=>x
 | _=>.dead
def lw (H0:List ai) (n:Nat) (xV:Nat→Bool) (rs:Rs):List ai:=H0++(List.range n).map fun j=>if xV j then tN rs j else .dead
def aaZ (ops:Array Oper) (i:Nat):Bool:=ops.toList.any fun o=>match o.guard with
 | some (j,_)=>j==i
 | none=>false
def Qf (ops:Array Oper) (i:Nat) (o:Oper) (rs:Rs):Option Bool:=match o.guard with
 | none=>some true
 | some (j,want)=>if waits ops i j then match dC ops j,rs[j]? with
  | some _,some (some (.one (.val (.bool b)),_))=>some (b==want)
  | some _,some (some (.tup [],_))=>some false
  | _,_=>none else none
def tB {P:Program} (C:iZ P) (ops:Array Oper) (n:Nat) (ms:List Nat) (dG:Env) (H0:List ai):List Oper→Rs→T Rs
 | [],rs=>.lf rs
 | o::l,rs=>match Qf ops rs.length o rs with
  | some false=>tB C ops n ms dG H0 l (rs++[some (.tup [],none)])
  | some true=>(U5 C.ty C.D (H0.length+rs.length) (lU ops (R1 ops n ms rs.length) dG (selB ms rs.length) rs) (lw H0 n (selB ms rs.length) rs) o).bind fun r=>match aaZ ops rs.length,r with
   | true,(.one (.sym (.bool b)),none)=>.br b (tB C ops n ms dG H0 l (rs++[some (.one (.val (.bool true)),none)])) (tB C ops n ms dG H0 l (rs++[some (.one (.val (.bool false)),none)]))
   | _,r=>tB C ops n ms dG H0 l (rs++[some r])
  | none=>.bad
def UF (o:Oper):Bool:=match o.op with
 | .store ..=>true
 | .call { callee:=.builtin .append, .. }=>true
 | .mapUpdate ..=>true
 | .lookup ..=>true
 | _=>false
def aay (o:Oper):List Nat:=o.op.operands.toList.filterMap fun
 | .tmp t=>some t
 | _=>none
def CW {P:Program} (C:iZ P):List Nat→List Oper→Nat
 | _,[]=>0
 | rd,o::l=>if UF o||C.eff o||(match o.dst with|some t=>rd.contains t|none=>false) then 0 else CW C (aay o++rd) l+1
def wG {P:Program} (C:iZ P):List Oper→Nat
 | []=>0
 | o::l=>if UF o||C.eff o then 0 else wG C l+1
def Tf {P:Program} (C:iZ P) (m:Nat) (ops:Array Oper) (n:Nat) (st:dX):T dX:=
 if P.follows .mixedOrders&&mQ (n+(ops.size-n)) ops&&vW ops n (n+(ops.size-n))&&yT ops n m then
  (tB C ops n (vH (ops.toList.take n) []) st.env st.heap (ops.toList.take n) []).bind fun rs=>
   EF C m ops (ops.toList.drop n) ⟨lU ops (rW ops n) st.env (fun _=>true) rs,lw st.heap n (fun _=>true) rs⟩
 else .bad
section
variable {P:Program} {ops:Array Oper} {Q:Exit→Act→World→Prop} {C:iZ P} {n m:Nat} {cx:Cx} {ms:List Nat} {dG:Env} {H0:List ai} {kp:Nat→Bool}
def DT (ops:Array Oper) (fw:List Nat):Prop:=∀(i s:Nat),fw[i]?=some s→∀j,s.testBit j=true→∀d:Nat→Bool,(∀k q,d k=true→waits ops k q=true→d q=true)→(∀q,waits ops i q=true→d q=true)→d j=true
theorem Lo {i:Nat} {o:Oper} (ho:ops[i]?=some o) {e:Edge} (he:e∈o.after.toList) (hb:Region.binds .any e=true):waits ops i e.on=true:=by
 unfold waits;rw[ho];simp only[adf,abF,Array.any_eq_true',aaO,beq_iff_eq];exact⟨e,by simpa using he,hb,rfl⟩
theorem Wm {fw:List Nat} (h:DT ops fw) {i:Nat} {o:Oper} (ho:ops[i]?=some o) {j:Nat} (hj:(msk o fw).testBit j=true) (d:Nat→Bool) (hc:∀k q,d k=true→waits ops k q=true→d q=true) (hw:∀q,waits ops i q=true→d q=true):d j=true:=by
 unfold msk at hj;have key:∀(l:List Edge) (s:Nat),(∀e∈l,e∈o.after.toList)→(∀j,s.testBit j=true→d j=true)→∀j,(l.foldl (fun s e=>if Region.binds .any e then s||| 2^e.on||| fw.getD e.on 0 else s) s).testBit j=true→d j=true:=by
  intro l;induction l with
  | nil=>intro s _ hs j hj;exact hs j hj
  | cons e l ih=>
   intro s hl hs j hj;refine ih _ (fun e he=>hl e (aa9 _ he)) (fun j hj=>?_) j hj;simp only at hj;split at hj
   ·rename_i hb;have hon:=hw _ (Lo ho (hl e aaS) hb);rw[Nat.testBit_or,Nat.testBit_or,acP,acP] at hj;rcases hj with(hj|hj)|hj
    ·exact hs j hj
    ·rw[Nat.testBit_two_pow] at hj;have:e.on=j:=by simpa using hj
     rw[←this];exact hon
    ·cases hq:fw[e.on]? with
     | none=>rw[aar,hq] at hj;simp at hj
     | some q=>
      rw[aar,hq] at hj;exact h e.on q hq j hj d hc fun k hk=>hc _ k hon hk
   ·exact hs j hj
 exact key _ 0 (fun _ h=>h) (fun j hj=>by simp at hj) j hj
theorem zW:∀(l:List Oper) (fw:List Nat),DT ops fw→(∀(k:Nat) (o:Oper),l[k]?=some o→ops[fw.length+k]?=some o)→DT ops (vH l fw)
 | [],_,h,_=>h
 | o::l,fw,h,hl=>by
  refine zW l _ (fun i s hs j hj d hc hw=>?_) fun k o' hk=>?_
  ·by_cases hi:i<fw.length
   ·rw[aaK hi] at hs;exact h i s hs j hj d hc hw
   ·have Qc:i<fw.length+1:=by have:=(aab.1 hs).1;simpa using this
    obtain rfl:i=fw.length:=by omega
    rw[aag (aaW _)] at hs;simp only[Nat.sub_self,ads,Option.some.injEq] at hs;subst hs;exact Wm h (hl 0 o rfl) hj d hc hw
  ·rw[aa8,abs,ab1,act,adN (0+1)];exact hl (k+1) o' (by simpa using hk)
def mR (C:iZ P) (ops:Array Oper) (n:Nat) (ms:List Nat) (dG:Env) (H0:List ai) (rs:Rs) (i:Nat):Prop:=
 ∃o,ops[i]?=some o∧((Qf ops i o (rs.take i)=some false∧rs[i]?=some (some (.tup [],none)))∨
  (Qf ops i o (rs.take i)=some true∧∃r0 r,(U5 C.ty C.D (H0.length+i) (lU ops (R1 ops n ms i) dG (selB ms i) (rs.take i)) (lw H0 n (selB ms i) (rs.take i)) o).hit r0∧rs[i]?=some (some r)∧(r=r0∨∃b,r0=(.one (.sym (.bool b)),none)∧r=(.one (.val (.bool b)),none))))
theorem mR.more {rs:Rs} {i:Nat} (h:mR C ops n ms dG H0 rs i) (hi:i<rs.length) (x:Option (XV×Option ai)):mR C ops n ms dG H0 (rs++[x]) i:=by
 unfold mR at h ⊢;rw[acv (by omega),aaK hi];exact h
theorem CJ:∀(l:List Oper) (rs rs':Rs),(tB C ops n ms dG H0 l rs).hit rs'→(∀(k:Nat) (o:Oper),l[k]?=some o→ops[rs.length+k]?=some o)→(∀i,i<rs.length→mR C ops n ms dG H0 rs i)→rs'.length=rs.length+l.length∧∀i,i<rs'.length→mR C ops n ms dG H0 rs' i
 | [],rs,rs',h,_,hs=>by have h:rs=rs':=h;subst h;exact⟨rfl,hs⟩
 | o::l,rs,rs',h,hl,hs=>by
  have ho:=hl 0 o rfl;rw[adA] at ho;have next:∀(x:Option (XV×Option ai)),(tB C ops n ms dG H0 l (rs++[x])).hit rs'→mR C ops n ms dG H0 (rs++[x]) rs.length→rs'.length=rs.length+(o::l).length∧∀i,i<rs'.length→mR C ops n ms dG H0 rs' i:=by
   intro x h hx;obtain⟨q1,q2⟩:=CJ l (rs++[x]) rs' h (fun k o' hk=>by
    rw[aa8,abs,ab1,act,adN (0+1)];exact hl (k+1) o' (by simpa using hk)) fun i hi=>by
     rw[aa8,abs,ab1] at hi;by_cases e:i=rs.length
     ·rw[e];exact hx
     ·exact(hs i (by omega)).more (by omega) x
   refine⟨?_,q2⟩;rw[q1,aa8,abs,ab1,abs];omega
  have sJ:∀x,(rs++[x]).take rs.length=rs:=fun x=>by rw[acv (aaW _),List.take_length]
  have gI:∀x,(rs++[x])[rs.length]?=some x:=fun x=>by rw[aag (aaW _)];simp
  unfold tB at h;split at h
  ·rename_i hg;exact next _ h ⟨o,ho,.inl ⟨by rw[sJ];exact hg,gI _⟩⟩
  ·rename_i hg;obtain⟨r0,h1,h2⟩:=T.hit_bind h;split at h2
   ·rename_i b sP;cases b with
    | true=>exact next _ (h2.1 rfl) ⟨o,ho,.inr ⟨by rw[sJ];exact hg,_,_,by rw[sJ];exact h1,gI _,.inr ⟨true,rfl,rfl⟩⟩⟩
    | false=>exact next _ (h2.2 rfl) ⟨o,ho,.inr ⟨by rw[sJ];exact hg,_,_,by rw[sJ];exact h1,gI _,.inr ⟨false,rfl,rfl⟩⟩⟩
   ·exact next _ h2 ⟨o,ho,.inr ⟨by rw[sJ];exact hg,_,_,by rw[sJ];exact h1,gI _,.inl rfl⟩⟩
  ·exact h.elim
theorem jC {xV:Nat→Bool} {rs:Rs} {t:Nat} {x:XV} (h:(t,x)∈lU ops kp dG xV rs):(∃j r,j<rs.length∧xV j=true∧dC ops j=some t∧rs[j]?=some (some r)∧r.1=x)∨((t,x)∈dG∧kp t=true):=by
 rcases acb.1 h with h|h
 ·obtain⟨j,hj,h⟩:=adw.1 h;left
  split at h
  ·rename_i hs;split at h
   ·rename_i t' r ht hr;injection h with h
    injection h with h1 h2
    subst h1 h2;exact⟨j,r,abM.1 hj,hs,ht,hr,rfl⟩
   ·cases h
  ·cases h
 ·right
  obtain⟨h1,h2⟩:=adm.1 h;exact⟨h1,h2⟩
theorem js {xV:Nat→Bool} {rs:Rs} {t j:Nat} {r:XV×Option ai} (hj:j<rs.length) (hs:xV j=true) (ht:dC ops j=some t) (hr:rs[j]?=some (some r)):(t,r.1)∈lU ops kp dG xV rs:=by
 refine List.mem_append_left _ (adw.2 ⟨j,abM.2 hj,?_⟩);rw[if_pos hs,ht,hr]
theorem lT {xV:Nat→Bool} {rs:Rs} {t:Nat} {x:XV} (h:(t,x)∈dG) (hn:kp t=true):(t,x)∈lU ops kp dG xV rs:=List.mem_append_right _ (adm.2 ⟨h,hn⟩)
theorem qJ {d:Nat→Bool} {t:Nat}:JN ops n d t=true↔∀j,j<n→dC ops j=some t→d j=false:=by
 unfold JN;rw[abq];constructor
 ·intro h j hj ht;have:=h j (abM.2 hj);rw[ht] at this;simpa using this
 ·intro h j hj;by_cases ht:dC ops j=some t
  ·rw[h j (abM.1 hj) ht];simp
  ·simp[ht]
theorem R0 {i t:Nat}:R1 ops n ms i t=true↔∀j,j<n→dC ops j=some t→(ms.getD j 0).testBit i=true:=by
 unfold R1;rw[abq];constructor
 ·intro h j hj ht;have:=h j (abM.2 hj);rw[ht] at this;simpa using this
 ·intro h j hj;by_cases ht:dC ops j=some t
  ·rw[h j (abM.1 hj) ht];simp
  ·simp[ht]
theorem He {d:Nat→Bool} {t:Nat} (h:rW ops n t=true):JN ops n d t=true:=qJ.2 fun _ hj ht=>absurd ht (B6 h hj)
theorem UE {i t:Nat} (An:DT ops ms) (Qa:ms.length=n) {d:Nat→Bool} (oY:d i=false) (hc:∀k q,d k=true→waits ops k q=true→d q=true) (h:R1 ops n ms i t=true):JN ops n d t=true:=qJ.2 fun j hj ht=>by
 cases pQ:d j with
 | false=>rfl
 | true=>
  have h1:=R0.1 h j hj ht;have hjm:j<ms.length:=by omega
  rw[aar,aac hjm] at h1;have:=An j _ (aac hjm) i h1 d hc fun q hq=>hc j q pQ hq;rw[oY] at this;cases this
theorem Hc {d:Nat→Bool} {i t:Nat} (hi:i<n) (h:JN ops n (kd d i) t=true) (oY:d i=false):JN ops n d t=true∧dC ops i≠some t:=by
 refine⟨qJ.2 fun j hj ht=>?_,fun ht=>?_⟩
 ·by_cases e:j=i
  ·rw[e];exact oY
  ·have:=qJ.1 h j hj ht
   rwa [bK d e] at this
 ·have:=qJ.1 h i hi ht;rw[gE] at this;cases this
theorem iW {xV:Nat→Bool} {rs:Rs}:(lw H0 n xV rs).length=H0.length+n:=by simp[lw]
theorem lS {xV:Nat→Bool} {rs:Rs} {j:Nat} (hj:j<n):(lw H0 n xV rs)[H0.length+j]?=some (if xV j then tN rs j else .dead):=by
 unfold lw;rw[aag (by omega),abH,acX,adr hj];rfl
theorem sY {xV:Nat→Bool} {rs:Rs} {i:Nat} (hi:i<H0.length):(lw H0 n xV rs)[i]?=H0[i]?:=by
 unfold lw;rw[aaK hi]
def DI (m:Nat) (cx:Cx) (ops:Array Oper) (n:Nat) (dG:Env) (H0:List ai) (rs:Rs) (d:Nat→Bool) (a:Act) (w:World):Prop:=
 ∃bs S,HS cx bs w S (lw H0 n d rs)∧(∀j,j<n→d j=false→bs[H0.length+j]?=some undef)∧ER m bs w S (lU ops (JN ops n d) dG d rs) a
theorem qz {rs:Rs} {i:Nat} (h:rs[i]?=some none∨∃x,rs[i]?=some (some (x,none))):tN rs i=.dead:=by
 unfold tN;rcases h with h|⟨x,h⟩<;>rw[h]
theorem wE {d:Nat→Bool} {rs:Rs} {i:Nat} (hi:i<n) (_:d i=false):lw H0 n (kd d i) rs=(lw H0 n d rs).set (H0.length+i) (tN rs i):=by
 apply acW;intro k;by_cases e:H0.length+i=k
 ·subst e;rw[abc (by rw[iW];omega),lS hi,gE];rfl
 ·rw[aaY e];by_cases hk:k<H0.length
  ·rw[sY hk,sY hk]
  ·by_cases gR:k<H0.length+n
   ·obtain⟨j,rfl⟩:∃j,k=H0.length+j:=⟨k-H0.length,by omega⟩;rw[lS (by omega),lS (by omega),bK d (by omega)]
   ·rw[abL (by rw[iW];omega),abL (by rw[iW];omega)]
theorem DI.step {rs:Rs} (bM:rs.length=n) (_:n≤ops.size) (eM:∀i,i<n→mR C ops n ms dG H0 rs i) (An:DT ops ms) (Qa:ms.length=n) (lQ:yT ops n m=true) (tA:∀(i j:Nat),waits ops i j=true→j<i) {Q':Exit→Act→World→Prop} {d:Nat→Bool} {a:Act} {w:World} {i:Nat} (hi:i<n) (h:DI m cx ops n dG H0 rs d a w) (oY:d i=false) (_:∀j,n≤j→d j=false) (hc:∀k q,d k=true→waits ops k q=true→d q=true) (hw:∀q,waits ops i q=true→d q=true) : wpOp P ops Q' i (DI m cx ops n dG H0 rs (kd d i)) a w:=by
 obtain⟨bs,S,hs,hu,he⟩:=h;obtain⟨o,ho,Ol⟩:=eM i hi;have xl:bs.length=H0.length+n:=by rw[hs.len,iW]
 have wt:∀t,dC ops i=some t→t<m:=fun t ht=>(mI lQ hi ht).1;have UK:o.dst=dC ops i:=by unfold dC;rw[ho];rfl
 have sK:∀(v:Value) t,dC ops i≠some t→(a.put o.dst v).tmps[t]?=a.tmps[t]?:=by
  intro v t hx;rw[UK];cases e:dC ops i with
  | none=>rfl
  | some q=>
   have fv:q≠t:=fun e2=>hx (by rw[e,e2]);show(a.tmps.setIfInBounds q v)[t]?=_;rw[adn fv]
 have qP:∀v:Value,(a.put o.dst v).tmps.size=m∧(a.put o.dst v).defers=[]:=by
  intro v;cases o.dst with
  | none=>exact⟨he.s,he.d⟩
  | some q=>exact⟨by show(a.tmps.setIfInBounds q v).size=m;rw[Array.size_setIfInBounds];exact he.s,he.d⟩
 have wv:∀t x,(t,x)∈lU ops (JN ops n (kd d i)) dG (kd d i) rs→((t,x)∈lU ops (JN ops n d) dG d rs∧dC ops i≠some t)∨(dC ops i=some t∧∃r,rs[i]?=some (some r)∧r.1=x):=by
  intro t x hx;rcases jC hx with⟨j,r,hj,fK,ht,hr,Y9⟩|⟨h1,hn⟩
  ·by_cases e:j=i
   ·subst e;exact .inr ⟨ht,r,hr,Y9⟩
   ·rw[bK d e] at fK;subst Y9;exact .inl ⟨js hj fK ht hr,fun e2=>Ie lQ hi (by omega) (fun e3=>e e3.symm) t e2 ht⟩
  ·obtain⟨k1,k2⟩:=Hc hi hn oY;exact .inl ⟨lT h1 k1,k2⟩
 have wn:∀{c:Bool},Qf ops i o (rs.take i)=some c→Region.wanted o (yielded ops a.tmps)=c:=by
  intro c hg;unfold Qf at hg;split at hg
  ·rename_i sP;injection hg with hg
   subst hg;simp[Region.wanted,sP]
  ·rename_i j want sP;split at hg
   ·rename_i P2;split at hg
    ·rename_i t b _ ht hr;injection hg with hg
     subst hg;have NY:=tA i j P2;rw[acz,if_pos NY] at hr;obtain⟨v,hv,hx⟩:=he.k t _ (js (by omega) (hw j P2) ht hr);obtain⟨rfl,_⟩:=hx;exact oz sP ht hv
    ·rename_i t _ ht hr;injection hg with hg
     subst hg;have NY:=tA i j P2;rw[acz,if_pos NY] at hr;obtain⟨v,hv,vs,e1,e2⟩:=he.k t _ (js (by omega) (hw j P2) ht hr);cases e2
     exact rJ sP ht (by rw[hv,e1];rfl)
    ·cases hg
   ·cases hg
 rcases Ol with⟨hg,hr⟩|⟨hg,r0,r,ahc,hr,Sk⟩
 ·
  have Cv:=wn hg;unfold wpOp;rw[ho];simp only[Cv,abC,if_false];have oW:tN rs i=.dead:=qz (.inr ⟨_,hr⟩);refine⟨bs,S,?_,fun j hj pQ=>hu j hj ?_,(qP undef).2,(qP undef).1,fun t x hx=>?_⟩
  ·rw[wE hi oY,oW];refine hs.mask (by simp) fun k x hx=>?_;by_cases e:H0.length+i=k
   ·subst e;rw[abc (by rw[iW];omega)] at hx;exact .inl (aae hx).symm
   ·rw[aaY e] at hx;exact .inr hx
  ·by_cases e:j=i
   ·subst e;exact oY
   ·rw[bK d e] at pQ;exact pQ
  ·rcases wv t x hx with⟨hx,fv⟩|⟨ht,r,NK,Y9⟩
   ·obtain⟨v,q1,q2⟩:=he.k t x hx;exact⟨v,(sK undef t fv).trans q1,q2⟩
   ·rw[hr] at NK;obtain rfl:=aae (aae NK);subst Y9;refine⟨undef,?_,[],rfl,.nil⟩;rw[UK,ht];show(a.tmps.setIfInBounds t undef)[t]?=_;exact ab8 (by rw[he.s];exact wt t ht)
 ·have Cv:=wn hg;have Fb:∀j,selB ms i j=true→j<i∧d j=true:=by
   intro j hj;unfold selB at hj;rw[aaO,decide_eq_true_eq] at hj;refine⟨hj.1,?_⟩;have him:i<ms.length:=by rw[Qa];exact hi
   have wl:=hj.2;rw[aar,aac him] at wl;exact An i _ (aac him) j wl d hc hw
  have Cy:∀j,j<i→(rs.take i)[j]?=rs[j]?:=fun j hj=>by rw[acz,if_pos hj]
  have abu:∀j,j<i→tN (rs.take i) j=tN rs j:=fun j hj=>by unfold tN;rw[Cy j hj]
  have hsm:HS cx bs w S (lw H0 n (selB ms i) (rs.take i)):=by
   refine hs.mask (by rw[iW,iW]) fun k x hx=>?_;by_cases hk:k<H0.length
   ·rw[sY hk] at hx ⊢;exact .inr hx
   ·have gR:k<H0.length+n:=by have:=(aab.1 hx).1;rw[iW] at this;exact this
    obtain⟨j,rfl⟩:∃j,k=H0.length+j:=⟨k-H0.length,by omega⟩;rw[lS (by omega)] at hx;rw[lS (by omega)];split at hx
    ·rename_i hsj;obtain⟨q1,q2⟩:=Fb j hsj;rw[q2,abu j q1] at*;exact .inr hx
    ·exact .inl (aae hx).symm
  have hem:ER m bs w S (lU ops (R1 ops n ms i) dG (selB ms i) (rs.take i)) a:=by
   refine⟨he.d,he.s,fun t x hx=>?_⟩;rcases jC hx with⟨j,q,hj,fK,ht,hq,rfl⟩|⟨h1,hn⟩
   ·obtain⟨q1,q2⟩:=Fb j fK;rw[Cy j q1] at hq;exact he.k t _ (js (by omega) q2 ht hq)
   ·exact he.k t x (lT h1 (UE An Qa oY hc hn))
  have uf:=AA C.isP hsm hem ahc;refine uH ho Cv (uf _ _ fun v w' S' u hb hS hn hx hf=>?_);have fK:=hs.grow hb hS hn;have heg:∀bm,jq bs bm→XR bm w' S' r0.1 v→ER m bm w' S' (lU ops (JN ops n (kd d i)) dG (kd d i) rs) (a.put o.dst v):=by
   intro bm ha i7;refine⟨(qP v).2,(qP v).1,fun t x hx=>?_⟩;rcases wv t x hx with⟨hx,fv⟩|⟨ht,r',jQ,rfl⟩
   ·obtain⟨z,q1,q2⟩:=he.k t x hx;exact⟨z,(sK v t fv).trans q1,q2.keep hS ((aA.of_below hb).sub fun b q=>(hs.s b q).1) ha⟩
   ·rw[hr] at jQ;obtain rfl:=aae (aae jQ);refine⟨v,?_,?_⟩
    ·rw[UK,ht];show(a.tmps.setIfInBounds t v)[t]?=_;exact ab8 (by rw[he.s];exact wt t ht)
    ·rcases Sk with rfl|⟨b,e1,e2⟩
     ·exact i7
     ·rw[e1] at i7;rw[e2];exact⟨i7.1,rfl⟩
  have hun:bs[H0.length+i]?=some undef:=hu i hi oY;cases NH:r0.2 with
  | none=>
   have agE:r.2=none:=by
    rcases Sk with rfl|⟨b,_,e2⟩
    ·exact NH
    ·rw[e2]
   have oW:tN rs i=.dead:=qz (.inr ⟨r.1,by rw[hr,←agE]⟩);obtain⟨Sc,_⟩:=hx bs (jq.refl _) (by rw[NH];intro h;cases h);refine⟨bs,S',?_,fun j hj pQ=>hu j hj ?_,heg bs (jq.refl _) Sc⟩
   ·rw[wE hi oY,oW];refine fK.mask (by simp) fun k x hx=>?_;by_cases e:H0.length+i=k
    ·subst e;rw[abc (by rw[iW];omega)] at hx;exact .inl (aae hx).symm
    ·rw[aaY e] at hx;exact .inr hx
   ·by_cases e:j=i
    ·subst e;exact oY
    ·rw[bK d e] at pQ;exact pQ
  | some x=>
   have Y9:r=r0:=by
    rcases Sk with h|⟨b,e1,_⟩
    ·exact h
    ·rw[e1] at NH;cases NH
   have oW:tN rs i=x:=by
    unfold tN;rw[hr,Y9];obtain⟨r1,r2⟩:=r0;have NH:r2=some x:=NH;subst NH;rfl
   have Fh:H0.length+i<bs.length:=by omega
   have ww:jq bs (bs.set (H0.length+i) u):=fun q z hq hz=>by
    rw[aaY (fun e=>by subst e;rw[hun] at hq;injection hq with hq;subst hq;cases hz)];exact hq
   obtain⟨Sc,Bb⟩:=hx (bs.set (H0.length+i) u) ww fun _=>by rw[abc Fh]
   have mY:=hf x NH;have abU:(lw H0 n d rs)[H0.length+i]?=some .dead:=by rw[lS hi,oY];rfl
   have jR:=fK.fill (x:=x) (v:=u) abU hun rfl (Bb x NH) fun b gl=>⟨.inl (aa7 hs.size (mY b gl).1),(mY b gl).2,fun k z q hz hq e=>by
    have:=(hs.o k z q hz hq).lt e;have:=(mY b gl).1;omega⟩
   refine⟨bs.set (H0.length+i) u,S',?_,fun j hj pQ=>?_,heg _ ww Sc⟩
   ·rw[wE hi oY,oW];exact jR
   ·by_cases e:j=i
    ·subst e;rw[gE] at pQ;cases pQ
    ·rw[bK d e] at pQ;rw[aaY (by omega)];exact hu j hj pQ
theorem HS.pads {bs:List Value} {w:World} {S:Nat→Prop} {H:List ai} (h:HS cx bs w S H):∀n,HS cx (bs++List.replicate n undef) w S (H++List.replicate n .dead)
 | 0=>by simpa using h
 | n+1=>by
  have:=(HS.pads h n).pad;rw[abQ,abQ,←adD,←adD] at this;exact this
theorem Ke {rs:Rs}:lw H0 n (fun _=>false) rs=H0++List.replicate n .dead:=by
 unfold lw;congr 1
 apply acW;intro i;by_cases hi:i<n
 ·rw[acX,adr hi,adt,if_pos hi];rfl
 ·rw[abL (by simp;omega),abL (by simp;omega)]
theorem um {dA:dX}:∀(l:List Oper) (i:Nat) {st:dX} {a:Act} {w:World},ops.toList.drop i=l→(EF C m ops l st).hit dA→fx m cx st a w→(∀a' w',fx m cx dA a' w'→Q .normal a' w')→Gf P ops Q l.length i a w
 | [],i,st,a,w,_,h,cj,hQ=>by
  have h:st=dA:=h;subst h;exact hQ a w cj
 | o::l,i,st,a,w,hl,h,cj,hQ=>by
  obtain⟨st1,h1,h2⟩:=T.hit_bind h;have ho:ops[i]?=some o:=by
   have:=congrArg (fun l:List Oper=>l[0]?) hl;simp only[acy,adA,ads,Array.getElem?_toList] at this;exact this
  have xH:ops.toList.drop (i+1)=l:=by
   rw[←adM,hl];rfl
  exact Oz ho h1 cj (fun st q1 q2=>LY q1 q2 fun a' w' q=>um l (i+1) xH h2 q hQ) fun a' w' q=>um l (i+1) xH h2 q hQ
theorem OS {id:Nat} {st dA:dX} {a:Act} {w:World} {n:Nat} (h:(Tf C m ops n st).hit dA) (cj:fx m cx st a w) (hQ:∀a' w',fx m cx dA a' w'→Q .normal a' w'):(Code.region id ops true).wp P Q a w:=by
 unfold Tf at h;split at h
 ·rename_i hc;simp only[aaO] at hc;obtain⟨⟨⟨hm,hb⟩,ku⟩,lQ⟩:=hc;obtain⟨rs,h1,h2⟩:=T.hit_bind h;have jB:=fC hb;have Fh:n≤ops.size:=by omega
  have D1:(ops.toList.take n).length=n:=by rw[ab4,abI];omega
  have gI:∀(k:Nat) (o:Oper),(ops.toList.take n)[k]?=some o→ops[k]?=some o:=fun k o hk=>by
   rw[acz] at hk;split at hk
   ·simpa using hk
   ·cases hk
  obtain⟨q1,q2⟩:=CJ _ [] rs h1 (fun k o hk=>by rw[ab1,ace];exact gI k o hk) fun i hi=>absurd hi (Nat.not_lt_zero _);rw[ab1,ace,D1] at q1;have An:DT ops (vH (ops.toList.take n) []):=zW _ [] (fun i s hs=>by cases hs) fun k o hk=>by rw[ab1,ace];exact gI k o hk
  have Qa:∀(l:List Oper) (fw:List Nat),(vH l fw).length=fw.length+l.length:=by
   intro l;induction l with
   | nil=>intro fw;rfl
   | cons o l ih=>intro fw;show(vH l _).length=_;rw[ih,aa8,abs,ab1,abs];omega
  have tA:∀(i j:Nat),waits ops i j=true→j<i:=by
   intro i j hw;unfold waits at hw;cases ho:ops[i]? with
   | none=>rw[ho] at hw;cases hw
   | some o=>
    rw[ho] at hw;simp only[adf,abF,Array.any_eq_true',aaO,beq_iff_eq] at hw;obtain⟨e,he,hbi,rfl⟩:=hw;exact ol hb ho e he hbi
  refine ny n (ops.size-n) (DI m cx ops n st.env st.heap rs) hm hb ku ?_ (fun Q' d a w i hi hI oY ug hc hw=>DI.step q1 Fh (fun i hi=>q2 i (by omega)) An (by rw[Qa,ab1,ace,D1]) lQ tA hi hI oY ug hc hw) fun d a w hI dS=>?_
  ·obtain⟨bs,S,hs,he⟩:=cj;have hd:Below w.heap.size w w.drew:=(Below.refl _ _).drew;refine⟨bs++List.replicate n undef,S,by rw[Ke];exact(hs.grow hd (fun _ h=>h) fun _ h=>.inl h).pads n,fun j hj _=>?_,he.d,he.s,fun t x hx=>?_⟩
   ·rw[←hs.len,aag (by omega),abH,adt,if_pos hj]
   ·rcases jC hx with⟨j,r,_,h,_⟩|⟨h1,_⟩
    ·cases h
    ·obtain⟨v,k1,k2⟩:=he.k t x h1;exact⟨v,k1,k2.keep (fun _ h=>h) (fun _ _=>rfl) fun o u hu _=>by rw[aaK (aab.1 hu).1];exact hu⟩
  ·obtain⟨bs,S,hs,_,he⟩:=hI;have mX:fx m cx ⟨lU ops (rW ops n) st.env (fun _=>true) rs,lw st.heap n (fun _=>true) rs⟩ a w:=by
    refine⟨bs,S,?_,he.d,he.s,fun t x hx=>he.k t x ?_⟩
    ·have:lw st.heap n (fun _=>true) rs=lw st.heap n d rs:=by
      unfold lw;congr 1
      apply List.map_congr_left;intro j hj;rw[dS j (abM.1 hj)]
     show HS cx bs w S (lw st.heap n (fun _=>true) rs);rw[this];exact hs
    ·rcases jC hx with⟨j,r,hj,_,ht,hr,rfl⟩|⟨k1,k2⟩
     ·exact js hj (dS j (by omega)) ht hr
     ·exact lT k1 (He k2)
   have:=um (C:=C) (Q:=Q) (cx:=cx) (ops.toList.drop n) n rfl h2 mX hQ
   rwa [acL,abI] at this
 ·exact h.elim
end
end Go.Proofs.YtjlhbfbdcfajfaaGreatDoor
