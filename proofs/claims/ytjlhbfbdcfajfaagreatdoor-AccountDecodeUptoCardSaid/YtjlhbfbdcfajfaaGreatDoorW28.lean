/- MFn MPure MDrw -/
import Derived.Test.YtjlhbfbdcfajfaaGreatDoorW00
import Derived.Test.YtjlhbfbdcfajfaaGreatDoorW27
set_option maxHeartbeats 8000000
set_option maxRecDepth 100000
namespace Go.Proofs.YtjlhbfbdcfajfaaGreatDoor
open Go Go.RowKit
inductive LE (l lo lr:List (Nat×SS)) where
 | back (x:cA l)
 | out (y:cA lo)
 | ret (r:XV) (z:cA lr)
section
variable {P:Program} {m:Nat} {loops:List Code} (R:Rg P m) (L:Cj P R.fn m R.pb loops)
def rdT (n k d:Nat) (b:Code) (l lo lr:List (Nat×SS)) (x:cA l):T (LE l lo lr):=(run R L n [.code (k+1) b] (du l x)).bind fun q=>match q with
 | .nrm st=>T.op ((pp R.pb l st).map .back)
 | .ext id st=>if id=d then T.op ((pp R.pb lo st).map .out) else .bad
 | .ret r st=>T.op ((pp R.pb lr st).map (.ret r))
def lpT (pb:List Nat) (d:Nat) (l lo lr:List (Nat×SS)) (G:cA l→T (LE l lo lr)) (st:ek):T Lf:=match pp pb l st with
 | some x=>(G x).bind fun q=>match q with
  | .back _=>.bad
  | .out y=>.lf (.ext d (du lo y))
  | .ret r z=>.lf (.ret r (du lr z))
 | none=>.bad
theorem RtS.nrm {fn:Func} {cx:Cx} {r:XV} {st:ek} {a:Act} {w:World} {l:List (Nat×SS)} {z:cA l} (h:RtS P fn m cx r st a w) (hr:pp cx.pb l st=some z):RtS P fn m cx r (du l z) a w:=by
 obtain⟨bs,S,S',hs,he,q⟩:=h;obtain⟨us,q1,q2⟩:=od hr hs he;exact⟨us,S,S',q1,q2,q⟩
theorem adJ {n k d:Nat} {b:Code} {l lo lr:List (Nat×SS)} {G:cA l→T (LE l lo lr)} (μ:cA l→Nat) (hk:∀j x,(kO b)[j]?=some x→loops[k+1+j]?=some x) (dl:∀x r,My l x→(G x).hit r→∃q,(rdT R L n k d b l lo lr x).hit q∧match q with|.back x'=>μ x'<μ x∧(G x').hit r|q=>q=r):Cm P R.fn m R.pb (.loop b) (lpT R.pb d l lo lr G):=by
 intro cx st a w lf nR h ct;unfold lpT at h;split at h
 ·rename_i x hx;obtain⟨r,h1,h2⟩:=T.hit_bind h;rw[←nR] at hx;have ct:=vf hx ct;refine wp_loop_ghost (fun j a w=>∃x,j=μ x∧(G x).hit r∧fK m cx (du l x) a w) (μ x) ⟨x,rfl,h1,ct⟩ ?_;rintro j a1 w1 ⟨x1,rfl,g1,s1⟩;obtain⟨q,q1,q2⟩:=dl x1 r (Rk s1) g1;obtain⟨lf',p1,p2⟩:=T.hit_bind q1;refine wp_mono (AJ nR p1 s1 hk) fun e a2 w2 he=>?_;cases e with
  | normal=>
   obtain⟨dG,rfl,s2⟩:=he;have p2:=T.hit_op p2;cases e2:pp R.pb l dG with
   | none=>rw[e2] at p2;cases p2
   | some y=>
    rw[e2] at p2;injection p2 with p2
    subst p2;rw[←nR] at e2;exact⟨μ y,q2.1,y,rfl,q2.2,vf e2 s2⟩
  | exit id=>
   obtain⟨dG,rfl,s2⟩:=he;simp only at p2;split at p2
   ·rename_i e3;subst e3;have p2:=T.hit_op p2;cases e2:pp R.pb lo dG with
    | none=>rw[e2] at p2;cases p2
    | some y=>
     rw[e2] at p2;injection p2 with p2
     subst p2;have q2:LE.out y=r:=q2;subst q2;have h2:Lf.ext id (du lo y)=lf:=h2;rw[←nR] at e2;exact⟨_,h2,vf e2 s2⟩
   ·exact p2.elim
  | ret=>
   obtain⟨r',dG,rfl,s2⟩:=he;have p2:=T.hit_op p2;cases e2:pp R.pb lr dG with
   | none=>rw[e2] at p2;cases p2
   | some y=>
    rw[e2] at p2;injection p2 with p2
    subst p2;have q2:LE.ret r' y=r:=q2;subst q2;have h2:Lf.ret r' (du lr y)=lf:=h2;rw[←nR] at e2;exact⟨_,_,h2,s2.nrm e2⟩
  | _=>exact he.elim
 ·exact h.elim
end
def noL (P:Program) (fn:Func) (m:Nat) (pb:List Nat) (loops:List Code):Cj P fn m pb loops:=⟨fun _=>none,fun _ _ _ h=>by cases h⟩
def Cj.add {P:Program} {fn:Func} {m:Nat} {pb:List Nat} {loops:List Code} (L:Cj P fn m pb loops) (k:Nat) (g:ek→T Lf) (h:∀c,loops[k]?=some c→Cm P fn m pb c g):Cj P fn m pb loops:=
 ⟨fun i=>if i=k then some g else L.f i,fun i g' c hf hc=>by
  by_cases e:i=k
  ·rw[if_pos e] at hf;injection hf with hf;subst hf e;exact h c hc
  ·rw[if_neg e] at hf;exact L.ok i g' c hf hc⟩
def rK:Nat→List XV→Env
 | _,[]=>[]
 | n,x::l=>(n,x)::rK (n+1) l
def NH (P:Program) (H:List aj) (env:Env):ResultVar→Option XV
 | .tmp t=>env.lookup t
 | .cell t ty=>Y2 P H ty (env.lookup t)
def NI (P:Program) (H:List aj) (env:Env):List ResultVar→Option (List XV)
 | []=>some []
 | x::l=>match NH P H env x,NI P H env l with
  | some y,some r=>some (y::r)
  | _,_=>none
def XV.comp:XV→Option (Bool×List AV)
 | .one a=>some (false,[a])
 | .agg cs=>some (true,cs)
 | .tup _=>none
def EA:List XV→Option (List (Bool×List AV))
 | []=>some []
 | x::l=>match x.comp,EA l with
  | some y,some r=>some (y::r)
  | _,_=>none
def X7 (P:Program) (fn:Func) (vw:Bool) (st:ek):Option XV:=match NI P st.heap st.env fn.results.toList with
 | none=>none
 | some l=>match l.map (fun x=>if vw then yN st.heap x else x) with
  | [x]=>if x.free then some x else none
  | l=>(EA l).bind fun cs=>if(XV.tup cs).free then some (.tup cs) else none
section
variable {P:Program} {fn:Func} {cx:Cx} {bs:List Value} {w:World} {S:Nat→Prop} {H:List aj} {m:Nat} {env:Env} {a:Act}
theorem Un (hs:HS cx bs w S H) {t:TypeId} {x:Option XV} {v:Value} (hx:∀y,x=some y→XR bs w S y v) {y:XV} (h:Y2 P H t x=some y):∃u,(do loadVar t (←asAddr v):Sem Value).run P w=.ok u w∧XR bs w S y u:=by
 cases x with
 | none=>unfold Y2 at h;cases hq:Y3 P t<;>rw[hq] at h<;>cases h
 | some z=>
  unfold Y2 at h;split at h
  ·rename_i q b hq hz;injection hz with hz
   subst hz;cases e:vz H b with
   | none=>rw[e] at h;cases h
   | some cs=>
    rw[e] at h;have h:WH q (cs.take q.2)=some y:=h;obtain⟨ad,vs,hv,hc,hf⟩:=xR hs e (hx _ rfl);subst hv;have BH:=hf.take q.2;have Z1:=hc.take q.2;have hl:=BH.length;unfold WH at h;split at h
    ·rename_i bO;rw[bO] at hl;unfold Y3 at hq;split at hq
     ·rename_i P7;cases hi:P.info? t with
      | none=>rw[hi] at hq;cases hq
      | some i=>
       rw[hi] at hq;injection hq with hq
       subst hq;simp only[if_true] at h;injection h with h
       subst h;refine⟨_,?_,CR.agg BH⟩;have hl:=Wz Z1 P7 (by rw[hi];exact congrArg some hl);simpa[Instr.loadAt,Instr.sureAddr,asAddr,Sem.run_bind] using hl
     ·rename_i P7;injection hq with hq
      subst hq;simp only[abx,if_false] at h;split at h
      ·rename_i b' hb;injection h with h
       subst h;rw[hb] at BH;cases UA:vs.take 1 with
       | nil=>rw[UA] at BH;cases BH
       | cons u r=>
        rw[UA] at BH Z1;cases BH with
        | cons h1 h2=>
         refine⟨u,?_,h1⟩;have h0:=Z1 0 u rfl;have:ad.add 0=ad:=by unfold Addr.add;simp
         rw[this] at h0;have hl:=WA (P:=P) (t:=t) h0 P7;simpa[Instr.loadAt,Instr.sureAddr,asAddr,Sem.run_bind] using hl
      ·cases h
     ·cases hq
    ·cases h
  ·cases h
theorem Ku (hs:HS cx bs w S H) (he:ER m bs w S env a) {x:ResultVar} {y:XV} (h:NH P H env x=some y):∃v,(match x with|.tmp t=>pure (a.tmps.getD t undef)|.cell t ty=>do loadVar ty (←asAddr (a.tmps.getD t undef)):Sem Value).run P w=.ok v w∧XR bs w S y v:=by
 cases x with
 | tmp t=>exact⟨_,rfl,xD he h⟩
 | cell t ty=>exact Un hs (fun y hy=>xD he hy) h
theorem Il (hs:HS cx bs w S H) (he:ER m bs w S env a):∀{l:List ResultVar} {r:List XV},NI P H env l=some r→∃vs,(l.mapM fun x=>(match x with|.tmp t=>pure (a.tmps.getD t undef)|.cell t ty=>do loadVar ty (←asAddr (a.tmps.getD t undef)):Sem Value)).run P w=.ok vs w∧F2 (XR bs w S) r vs
 | [],r,h=>by injection h with h;subst h;exact⟨[],rfl,.nil⟩
 | x::l,r,h=>by
  unfold NI at h;split at h
  ·rename_i y r' h1 h2;injection h with h
   subst h;obtain⟨v,q1,q2⟩:=Ku hs he h1;obtain⟨vs,q3,q4⟩:=Il hs he h2;refine⟨v::vs,?_,.cons q2 q4⟩;rw[List.mapM_cons];simp only[Sem.run_bind,q1,Result.andThen_ok,q3,Sem.run_pure]
  ·cases h
theorem Ez:∀{l:List XV} {cs:List (Bool×List AV)} {vs:List Value},EA l=some cs→F2 (XR bs w S) l vs→F2 (fun p v=>CR bs w S p.1 p.2 v) cs vs
 | [],_,_,h,hf=>by cases hf;injection h with h;subst h;exact .nil
 | x::l,_,_,h,hf=>by
  cases hf with
  | cons h1 h2=>
   unfold EA at h;split at h
   ·rename_i y r hy hr;injection h with h
    subst h;refine .cons ?_ (Ez hr h2);cases x with
    | one b=>injection hy with hy;subst hy;exact⟨b,rfl,h1⟩
    | agg cs=>injection hy with hy;subst hy;exact h1
    | tup l=>cases hy
   ·cases h
theorem Ti {cx:Cx} {st:ek} {a:Act} {w:World} {r:XV} {vw:Bool} (hvw:cx.pb=[]∨vw=false) (h:X7 P fn vw st=some r) (ct:fK m cx st a w):RtS P fn m cx r st a w:=by
 obtain⟨bs,S,hs,he⟩:=ct;unfold X7 at h;cases e:NI P st.heap st.env fn.results.toList with
 | none=>rw[e] at h;cases h
 | some l=>
  rw[e] at h;obtain⟨vs,q1,q2⟩:=Il hs he e;have hS1:∀b,Hj bs st.heap S b→(cx.S0 b∨cx.w0.heap.size≤b∨cx.M b)∧b<w.heap.size:=fun b hb=>by
   rcases hb with hb|⟨i,x,v,h1,h2,h3⟩
   ·exact⟨(hs.s b hb).2,(hs.s b hb).1⟩
   ·exact⟨.inr (hs.nw i x v b h1 h2 h3).1,(hs.o i x v h1 h2).lt h3⟩
  have key:∃S',(∀b,S' b→(cx.S0 b∨cx.w0.heap.size≤b∨cx.M b)∧b<w.heap.size)∧(vw=true∨∀b,S' b→S b)∧F2 (XR bs w S') (l.map (fun x=>if vw then yN st.heap x else x)) vs:=by
   cases vw with
   | true=>exact⟨_,hS1,.inl rfl,q2.mapL fun x _ v hv=>CC hs hv⟩
   | false=>exact⟨S,fun b hb=>⟨(hs.s b hb).2,(hs.s b hb).1⟩,.inr fun _ h=>h,by simpa using q2⟩
  obtain⟨S',k1,k2,k3⟩:=key;have rO:∀v,(v=if h:vs.toArray.size=1 then vs.toArray[0] else .tuple vs.toArray)→(results fn a.tmps).run P w=.ok v w:=by
   rintro v rfl;unfold results;rw[Array.mapM_eq_mapM_toList];simp only[Sem.run_bind,map_eq_pure_bind,bind_assoc,pure_bind];exact(congrArg (fun r=>Result.andThen r _) q1).trans rfl
  have nR:cx.pb=[]∨∀b,S' b→S b:=by
   rcases hvw with q|q
   ·exact .inl q
   ·rcases k2 with k2|k2
    ·rw[q] at k2;cases k2
    ·exact .inr k2
  simp only at h;split at h
  ·rename_i x hx;rw[hx] at k3;split at h
   ·rename_i hf;injection h with h
    subst h;cases k3 with
    | @cons _ v _ _ h1 h2=>
     cases h2
     exact⟨bs,S,S',hs,he,k1,nR,v,rO v rfl,XR.free hf h1⟩
   ·cases h
  ·rename_i l' fI;cases ec:EA (l.map (fun x=>if vw then yN st.heap x else x)) with
   | none=>rw[ec] at h;cases h
   | some cs=>
    rw[ec] at h;have h:(if(XV.tup cs).free then some (XV.tup cs) else none)=some r:=h;split at h
    ·rename_i hf;injection h with h
     subst h;refine⟨bs,S,S',hs,he,k1,nR,.tuple vs.toArray,rO _ ?_,XR.free hf ⟨vs,rfl,Ez ec k3⟩⟩;have hl:=k3.length;rw[dif_neg];intro h1;rw[abM,←hl] at h1
     match hm:l.map (fun x=>if vw then yN st.heap x else x),h1 with
     | [x],_=>exact fI x hm
    ·cases h
end
def J7:AV→AV
 | .val (.int k n)=>.sym (.int k n)
 | .val (.bool b)=>.sym (.bool b)
 | .val (.string s)=>.sym (.string s)
 | a=>a
def SL:XV→XV
 | .one a=>.one (J7 a)
 | .agg cs=>.agg (cs.map J7)
 | .tup l=>.tup (l.map fun p=>(p.1,p.2.map J7))
section
variable {bs:List Value} {w:World} {S:Nat→Prop}
theorem AL {x:AV} {v:Value} (h:VR bs w S x v):VR bs w S (J7 x) v:=by
 unfold J7;split<;>exact h
theorem H9 {ag:Bool} {cs:List AV} {v:Value} (h:CR bs w S ag cs v):CR bs w S ag (cs.map J7) v:=by
 unfold CR at h ⊢;cases ag with
 | true=>obtain⟨vs,e,h⟩:=h;exact⟨vs,e,h.mapL fun _ _ _ h=>AL h⟩
 | false=>obtain⟨a,rfl,h⟩:=h;exact⟨_,rfl,AL h⟩
theorem H8 {x:XV} {v:Value} (h:XR bs w S x v):XR bs w S (SL x) v:=by
 cases x with
 | one b=>exact AL h
 | agg cs=>exact H9 (ag:=true) h
 | tup l=>obtain⟨vs,e,h⟩:=h;exact⟨vs,e,h.mapL fun _ _ _ h=>H9 h⟩
end
def XV.plain:XV→Bool
 | .one a=>a.plain
 | .agg cs=>cs.all AV.plain
 | .tup l=>l.all fun p=>p.2.all AV.plain
section
variable {P:Program} {m:Nat} {loops:List Code} (R:Rg P m) (L:Cj P R.fn m R.pb loops)
def fnT (n:Nat) (body:Code) (l0:List (Nat×SS)) (x:cA l0):T XV:=(run R L n [.code 0 body] (du l0 x)).bind fun q=>match q with
 | .ret r _=>.lf (SL r)
 | .nrm _=>if R.fn.results.toList.isEmpty then .lf (.tup []) else .bad
 | _=>.bad
end
def aU (l0:List (Nat×SS)) (G:cA l0→T XV) (xs:List XV):T XV:=match pp [] l0 ⟨rK 0 xs,[]⟩ with
 | some x=>if xs.length=l0.length then G x else .bad
 | none=>.bad
section
variable {P:Program} {fn:Func} {w:World} {S:Nat→Prop}
theorem VR.plain {bs bn:List Value} {S S':Nat→Prop} {w w':World} {x:AV} {v:Value} (hp:x.plain=true) (h:VR bs w S x v):VR bn w' S' x v:=by
 cases x with
 | val u=>exact h
 | sym u=>exact h
 | _=>cases hp
theorem CR.plain {bs bn:List Value} {S S':Nat→Prop} {w w':World} {ag:Bool} {cs:List AV} {v:Value} (hp:cs.all AV.plain=true) (h:CR bs w S ag cs v):CR bn w' S' ag cs v:=by
 have hc:=abv.1 hp;have key:∀{cs:List AV} {vs:List Value},(∀x∈cs,x.plain=true)→F2 (VR bs w S) cs vs→F2 (VR bn w' S') cs vs:=by
  intro cs vs hc hf;induction hf with
  | nil=>exact .nil
  | cons h _ ih=>exact .cons (VR.plain (hc _ abh) h) (ih fun x hx=>hc x (abr _ hx))
 unfold CR at h ⊢;cases ag with
 | true=>obtain⟨vs,e,h⟩:=h;exact⟨vs,e,key hc h⟩
 | false=>obtain⟨x,rfl,h⟩:=h;exact⟨x,rfl,VR.plain (hc x abh) h⟩
theorem XR.plain {bs bn:List Value} {S S':Nat→Prop} {w w':World} {x:XV} {v:Value} (hp:x.plain=true) (h:XR bs w S x v):XR bn w' S' x v:=by
 cases x with
 | one b=>exact VR.plain hp h
 | agg cs=>exact CR.plain hp h
 | tup l=>
  obtain⟨vs,e,h⟩:=h;refine⟨vs,e,?_⟩;have hc:=abv.1 hp;clear e;induction h with
  | nil=>exact .nil
  | @cons p _ _ _ h _ ih=>exact .cons (CR.plain (hc p abh) h) (ih (abv.2 fun x hx=>hc x (abr _ hx)) fun x hx=>hc x (abr _ hx))
theorem vm {bs:List Value} {tmps:Array Value}:∀{xs:List XV} {vs:List Value} {n:Nat},F2 (XR bs w S) xs vs→(∀(j:Nat) (v:Value),vs[j]?=some v→tmps[n+j]?=some v)→∀t x,(t,x)∈rK n xs→∃v,tmps[t]?=some v∧XR bs w S x v
 | [],_,_,_,_,_,_,h=>by cases h
 | x::xs,_,n,hf,ht,t,y,h=>by
  cases hf with
  | @cons _ v _ vs h1 h2=>
   rcases abq.1 h with e|h
   ·injection e with e1 e2
    subst e1 e2;exact⟨v,ht 0 v rfl,h1⟩
   ·refine vm (n:=n+1) h2 (fun j v hj=>?_) t y h;rw[show n+1+j=n+(j+1) by omega];exact ht (j+1) v (by simpa using hj)
theorem pure_ok {f:FuncId} {body:Code} {loops:List Code} (R:Rg P fn.ntmps) (L:Cj P R.fn fn.ntmps R.pb loops) (UU:R.fn=fn) (hRp:R.pb=[]) (hf:P.funcs[f]?=some fn) (hb:fn.body=some body) (hl:loops=kO body) (al:Bool) (n:Nat) (l0:List (Nat×SS)) (G:cA l0→T XV) (Fi:l0.length≤fn.ntmps) (h:∀x r,My l0 x→(G x).hit r→(fnT R L n body l0 x).hit r∧(al=true∨r.plain=true)):av P f al (aU l0 G):=by
 intro w S xs vs r hW hS hx hr;unfold aU at hr;split at hr
 ·rename_i x jk;split at hr
  ·rename_i bO;have Cq:vs.length≤fn.ntmps:=by rw[←hx.length,bO];exact Fi
   let cx:Cx:=⟨w,S,fun _=>False,[],[],wk0 hW⟩
   have hs:HS cx [] w S []:=⟨rfl,(fun _ _ _ h=>by cases h),(fun _ _ _ _ _ _ _ _ h=>by cases h),(fun _ _ _ _ h=>by cases h),fun b q=>⟨hS b q,.inl q⟩,fun _ h=>h,rfl,rfl,rfl,abi _,fun _ _ _=>rfl,fun _ _ h=>by cases h⟩;have he:ER fn.ntmps [] w S (rK 0 xs) { tmps:=vs.toArray++Array.replicate (fn.ntmps-vs.toArray.size) undef,defers:=[] }:=by
    refine⟨rfl,?_,vm hx fun j v hj=>?_⟩
    ·show(vs.toArray++Array.replicate (fn.ntmps-vs.toArray.size) undef).size=_;rw[Array.size_append,Array.size_replicate,abM];omega
    ·rw[abQ,Array.getElem?_append,if_pos (by rw[abM];exact(aad.1 hj).1)];simpa using hj
   have ct:=vf (cx:=cx) jk ⟨[],S,hs,he⟩;obtain⟨h1,h2⟩:=h x r (Rk ct) hr;obtain⟨q,h3,h4⟩:=T.hit_bind h1;refine calls_of_wp hf hb (wp_mono (AJ (cx:=cx) hRp.symm h3 ct fun j z hz=>by rw[hl,abQ];exact hz) fun e a' w' hq=>?_);have below:∀{bs S1 H},HS cx bs w' S1 H→Below w.heap.size w w':=fun fV=>⟨fV.os,fV.tape,fV.output,fV.size,fun b hb=>fV.old b hb fun h=>h⟩;cases e with
   | ret=>
    obtain⟨r',dG,rfl,bs,S1,S',fV,zU,k1,_,v,k2,k3⟩:=hq;have h4:SL r'=r:=h4;subst h4;have k3:=H8 k3;rw[UU] at k2;refine⟨zU.d,v,k2,?_⟩;rcases h2 with h2|h2
    ·refine⟨v,S',rfl,below fV,fun b q=>?_,k3⟩;obtain⟨q1,q2⟩:=k1 b q;rcases q1 with q1|q1|q1
     ·exact .inl ⟨h2,q1⟩
     ·exact .inr ⟨q1,q2⟩
     ·exact q1.elim
    ·exact⟨v,fun _=>False,rfl,below fV,fun b q=>q.elim,XR.plain h2 k3⟩
   | normal=>
    obtain⟨dG,rfl,bs,S1,fV,zU⟩:=hq;simp only at h4;split at h4
    ·rename_i rO;have h4:XV.tup []=r:=h4;subst h4;rw[UU] at rO;have Pp:fn.results=#[]:=by
      have:fn.results.toList=[]:=List.isEmpty_iff.1 rO;rw[←abT (xs:=fn.results),this]
     exact⟨zU.d,_,results_none Pp _ _ _,_,fun _=>False,rfl,below fV,fun b q=>q.elim,[],rfl,.nil⟩
    ·exact h4.elim
   | exit id=>
    obtain⟨dG,rfl,_⟩:=hq;exact h4.elim
   | _=>exact hq.elim
  ·exact hr.elim
 ·exact hr.elim
theorem ack {bs:List Value}:∀{xs:List XV} {vs:List Value} {n:Nat},F2 (XR bs w S) xs vs→∀t x,(t,x)∈rK n xs→∃v,vs[t-n]?=some v∧n≤t∧XR bs w S x v
 | [],_,_,_,_,_,h=>by cases h
 | x::xs,_,n,hf,t,y,h=>by
  cases hf with
  | @cons _ v _ vs h1 h2=>
   rcases abq.1 h with e|h
   ·injection e with e1 e2
    subst e1 e2;exact⟨v,by rw[Nat.sub_self];rfl,abi _,h1⟩
   ·obtain⟨v,q1,q2,q3⟩:=ack (n:=n+1) h2 t y h;refine⟨v,?_,by omega,q3⟩;rw[show t-n=t-(n+1)+1 by omega];exact q1
theorem EQ {l0:List (Nat×SS)} {G:cA l0→T XV} {w:World} {S:Nat→Prop} {xs:List XV} {vs:List Value} {r:XV} (hW:Wd w) (hS:∀b,S b→b<w.heap.size) (hx:F2 (XR [] w S) xs vs) (hr:(aU l0 G xs).hit r) (nD:∀x:cA l0,(du l0 x).heap=[]:=by intro x;rfl) : ∃x:cA l0,(∀t y,(t,y)∈(du l0 x).env→∃v,vs[t]?=some v∧XR [] w S y v)∧vs.length=l0.length∧(G x).hit r:=by
 unfold aU at hr;split at hr
 ·rename_i x jk;split at hr
  ·rename_i bO
   let cx:Cx:=⟨w,S,fun _=>False,[],[],wk0 hW⟩
   have hs:HS cx [] w S []:=⟨rfl,(fun _ _ _ h=>by cases h),(fun _ _ _ _ _ _ _ _ h=>by cases h),(fun _ _ _ _ h=>by cases h),fun b q=>⟨hS b q,.inl q⟩,fun _ h=>h,rfl,rfl,rfl,abi _,fun _ _ _=>rfl,fun _ _ h=>by cases h⟩;have he:ER vs.length [] w S (rK 0 xs) ⟨vs.toArray,[]⟩:=⟨rfl,by simp,fun t y hy=>by
    obtain⟨v,q1,_,q3⟩:=ack hx t y hy;exact⟨v,by simpa using q1,q3⟩⟩
   obtain⟨us,q1,q2⟩:=od (cx:=cx) jk hs he;have hus:us=[]:=by
    have:=q1.len;rw[nD x] at this;exact abs this
   subst hus;exact⟨x,(fun t y hy=>by
    obtain⟨v,q3,q4⟩:=q2.k t y hy;exact⟨v,by simpa using q3,q4⟩),(hx.length.symm.trans bO),hr⟩
  ·exact hr.elim
 ·exact hr.elim
theorem Bb {f:FuncId} {al:Bool} {l0:List (Nat×SS)} {G:cA l0→T XV} (h:∀(w:World) (S:Nat→Prop) (x:cA l0) (vs:List Value) (r:XV),Wd w→(∀b,S b→b<w.heap.size)→(∀t y,(t,y)∈(du l0 x).env→∃v,vs[t]?=some v∧XR [] w S y v)→vs.length=l0.length→(G x).hit r→ Calls P f vs.toArray w fun e w'=>∃v S',e=.returned v∧Below w.heap.size w w'∧(∀b,S' b→(al=true∧S b)∨(w.heap.size≤b∧b<w'.heap.size))∧XR [] w' S' r v) (nD:∀x:cA l0,(du l0 x).heap=[]:=by intro x;rfl):av P f al (aU l0 G):=fun w S _ vs r hW hS hx hr=>let ⟨x,h1,h2,h3⟩:=EQ hW hS hx hr nD;h w S x vs r hW hS h1 h2 h3
theorem gD {f:FuncId} {al:Bool} {l0:List (Nat×SS)} {G:cA l0→T XV} (h:∀(w:World) (S:Nat→Prop) (x:cA l0) (vs:List Value) (r:XV),(∀b,S b→b<w.heap.size)→(∀t y,(t,y)∈(du l0 x).env→∃v,vs[t]?=some v∧XR [] w S y v)→vs.length=l0.length→(G x).hit r→ Calls P f vs.toArray w fun e w'=>∃v S',e=.returned v∧Below w.heap.size w w'∧(∀b,S' b→(al=true∧S b)∨(w.heap.size≤b∧b<w'.heap.size))∧XR [] w' S' r v) (nD:∀x:cA l0,(du l0 x).heap=[]:=by intro x;rfl):av P f al (aU l0 G):=Bb (fun w S x vs r _=>h w S x vs r) nD
end
section
variable {P:Program} {ops:Array Oper} {Q:Exit→Act→World→Prop}
theorem nT {id:Nat} {a:Act} {W:World} (n r:Nat) (I:(Nat→Bool)→Act→World→Prop) (hm:P.follows .mixedOrders=true) (hb:nj (n+r) ops=true) (kH:xg ops n (n+r)=true) (h0:I (fun _=>false) a W.drew) (dl:∀(Q':Exit→Act→World→Prop) d a w i,i<n→I d a w→d i=false→(∀j,n≤j→d j=false)→(∀k j,d k=true→waits ops k j=true→d j=true)→(∀j,waits ops i j=true→d j=true)→wpOp P ops Q' i (I (kw d i)) a w) (GA:∀d a w,I d a w→(∀j,j<n→d j=true)→H7 P ops Q r n a w):(Code.region id ops true).wp P Q a W:=by
 have jN:=fO hb;refine yq (n+r) (fun d a' w'=>(∀i j,d i=true→waits ops i j=true→d j=true)∧ ((∃k s,n<k∧k+s=n+r∧(∀j,j<k→d j=true)∧(∀j,k≤j→d j=false)∧H7 P ops Q s k a' w')∨((∀j,n≤j→d j=false)∧I d a' w'))) hm hb ⟨fun i j h=>by simp at h,.inr ⟨fun _ _=>rfl,h0⟩⟩ ?_ ?_
 ·intro d a' w' i hi hI pC hw;obtain⟨uZ,hI⟩:=hI;have Z4:∀k j,kw d i k=true→waits ops k j=true→kw d i j=true:=by
   intro k j hdk hkj;by_cases e:k=i
   ·subst e;have:=hw j hkj;by_cases e2:j=k
    ·subst e2;exact gN d j
    ·rw[bM d e2];exact this
   ·rw[bM d e] at hdk;have:=uZ k j hdk hkj;by_cases e2:j=i
    ·subst e2;exact gN d j
    ·rw[bM d e2];exact this
  rcases hI with⟨k,s,hnk,hks,nS,uY,ht⟩|⟨uY,hI⟩
  ·have hik:i=k:=by
    rcases Nat.lt_trichotomy i k with h|h|h
    ·rw[nS i h] at pC;cases pC
    ·exact h
    ·have h1:=qi 9 i hw (fun q hq j=>uZ q j hq) (qz kH hi (by omega) h);rw[uY k (abi _)] at h1;cases h1
   subst hik;cases s with
   | zero=>omega
   | succ s=>
    refine wpOp_mono (fun a'' w'' h=>⟨Z4,.inl ⟨i+1,s,by omega,by omega,fun j hj=>?_,fun j hj=>?_,h⟩⟩) ht
    ·by_cases e:j=i
     ·subst e;exact gN d j
     ·rw[bM d e];exact nS j (by omega)
    ·rw[bM d (show j≠i by omega)];exact uY j (by omega)
  ·by_cases di:n≤i
   ·have Sn:i=n:=by
     rcases Nat.lt_or_ge n i with h|h
     ·have h1:=qi 9 i hw (fun q hq j=>uZ q j hq) (qz kH hi di h);rw[uY n (abi _)] at h1;cases h1
     ·omega
    subst Sn;have dM:∀j,j<i→d j=true:=fun j hj=>qi 9 i hw (fun k hk j=>uZ k j hk) (qz kH hi (abi _) hj);obtain⟨r,rfl⟩:∃q,r=q+1:=⟨r-1,by omega⟩;refine wpOp_mono (fun a'' w'' h=>⟨Z4,.inl ⟨i+1,r,by omega,by omega,fun j hj=>?_,fun j hj=>?_,h⟩⟩) (GA d a' w' hI dM)
    ·by_cases e:j=i
     ·subst e;exact gN d j
     ·rw[bM d e];exact dM j (by omega)
    ·rw[bM d (show j≠i by omega)];exact uY j (by omega)
   ·refine wpOp_mono (fun a'' w'' h=>⟨Z4,.inr ⟨fun j hj=>?_,h⟩⟩) (dl Q d a' w' i (by omega) hI pC uY uZ hw);rw[bM d (show j≠i by omega)];exact uY j hj
 ·intro d a' w' hI dM;obtain⟨_,hI⟩:=hI;rcases hI with⟨k,s,hnk,hks,nS,uY,ht⟩|⟨uY,hI⟩
  ·cases s with
   | zero=>exact ht
   | succ s=>
    have:=uY k (abi _);rw[dM k (by omega)] at this;cases this
  ·cases r with
   | zero=>exact GA d a' w' hI fun j hj=>dM j (by omega)
   | succ r=>
    have:=uY n (abi _);rw[dM n (by omega)] at this;cases this
end
def msk (o:Oper) (fJ:List Nat):Nat:=o.after.toList.foldl (fun s e=>if Region.binds .any e then s||| 2^e.on||| fJ.getD e.on 0 else s) 0
def wT:List Oper→List Nat→List Nat
 | [],fJ=>fJ
 | o::l,fJ=>wT l (fJ++[msk o fJ])
def selB (ms:List Nat) (i j:Nat):Bool:=decide (j<i)&&(ms.getD i 0).testBit j
abbrev Rs:=List (Option (XV×Option aj))
def mz (ops:Array Oper) (kp:Nat→Bool) (dN:Env) (yW:Nat→Bool) (rs:Rs):Env:=
 ((List.range rs.length).filterMap fun j=>if yW j then match dI ops j,rs[j]? with
  | some t,some (some r)=>some (t,r.1)
  | _,_=>none else none)++dN.filter fun p=>kp p.1
def K7 (ops:Array Oper) (n:Nat) (d:Nat→Bool) (t:Nat):Bool:=(List.range n).all fun j=>!(dI ops j==some t)||!(d j)
def Us (ops:Array Oper) (n:Nat) (ms:List Nat) (i t:Nat):Bool:=(List.range n).all fun j=>!(dI ops j==some t)||(ms.getD j 0).testBit i
def uF (rs:Rs) (j:Nat):aj:=match rs[j]? with
 | some (some (_,some x))=>x
 | _=>.dead
def lL (H0:List aj) (n:Nat) (yW:Nat→Bool) (rs:Rs):List aj:=H0++(List.range n).map fun j=>if yW j then uF rs j else .dead
def adX (ops:Array Oper) (i:Nat):Bool:=ops.toList.any fun o=>match o.guard with
 | some (j,_)=>j==i
 | none=>false
def Sr (ops:Array Oper) (i:Nat) (o:Oper) (rs:Rs):Option Bool:=match o.guard with
 | none=>some true
 | some (j,want)=>if waits ops i j then match dI ops j,rs[j]? with
  | some _,some (some (.one (.val (.bool b)),_))=>some (b==want)
  | some _,some (some (.tup [],_))=>some false
  | _,_=>none else none
def uo {P:Program} (C:hZ P) (ops:Array Oper) (n:Nat) (ms:List Nat) (dN:Env) (H0:List aj):List Oper→Rs→T Rs
 | [],rs=>.lf rs
 | o::l,rs=>match Sr ops rs.length o rs with
  | some false=>uo C ops n ms dN H0 l (rs++[some (.tup [],none)])
  | some true=>(Xe C.ty C.D (H0.length+rs.length) (mz ops (Us ops n ms rs.length) dN (selB ms rs.length) rs) (lL H0 n (selB ms rs.length) rs) o).bind fun r=>match adX ops rs.length,r with
   | true,(.one (.sym (.bool b)),none)=>.br b (uo C ops n ms dN H0 l (rs++[some (.one (.val (.bool true)),none)])) (uo C ops n ms dN H0 l (rs++[some (.one (.val (.bool false)),none)]))
   | _,r=>uo C ops n ms dN H0 l (rs++[some r])
  | none=>.bad
def WM (o:Oper):Bool:=match o.op with
 | .store ..=>true
 | .call { callee:=.builtin .append, .. }=>true
 | .mapUpdate ..=>true
 | .lookup ..=>true
 | _=>false
def adp (o:Oper):List Nat:=o.op.operands.toList.filterMap fun
 | .tmp t=>some t
 | _=>none
def Eo {P:Program} (C:hZ P):List Nat→List Oper→Nat
 | _,[]=>0
 | rd,o::l=>if WM o||C.eff o||(match o.dst with|some t=>rd.contains t|none=>false) then 0 else Eo C (adp o++rd) l+1
def xH {P:Program} (C:hZ P):List Oper→Nat
 | []=>0
 | o::l=>if WM o||C.eff o then 0 else xH C l+1
def Vh {P:Program} (C:hZ P) (m:Nat) (ops:Array Oper) (n:Nat) (st:ek):T ek:=
 if P.follows .mixedOrders&&nj (n+(ops.size-n)) ops&&xg ops n (n+(ops.size-n))&&Aj ops n m then
  (uo C ops n (wT (ops.toList.take n) []) st.env st.heap (ops.toList.take n) []).bind fun rs=>
   FT C m ops (ops.toList.drop n) ⟨mz ops (ti ops n) st.env (fun _=>true) rs,lL st.heap n (fun _=>true) rs⟩
 else .bad
section
variable {P:Program} {ops:Array Oper} {Q:Exit→Act→World→Prop} {C:hZ P} {n m:Nat} {cx:Cx} {ms:List Nat} {dN:Env} {H0:List aj} {kp:Nat→Bool}
def E5 (ops:Array Oper) (fJ:List Nat):Prop:=∀(i s:Nat),fJ[i]?=some s→∀j,s.testBit j=true→∀d:Nat→Bool,(∀k q,d k=true→waits ops k q=true→d q=true)→(∀q,waits ops i q=true→d q=true)→d j=true
theorem MK {i:Nat} {o:Oper} (ho:ops[i]?=some o) {e:Edge} (he:e∈o.after.toList) (hb:Region.binds .any e=true):waits ops i e.on=true:=by
 unfold waits;rw[ho];simp only[acB,aby,Array.any_eq_true',aba,beq_iff_eq];exact⟨e,by simpa using he,hb,rfl⟩
theorem YK {fJ:List Nat} (h:E5 ops fJ) {i:Nat} {o:Oper} (ho:ops[i]?=some o) {j:Nat} (hj:(msk o fJ).testBit j=true) (d:Nat→Bool) (hc:∀k q,d k=true→waits ops k q=true→d q=true) (hw:∀q,waits ops i q=true→d q=true):d j=true:=by
 unfold msk at hj;have key:∀(l:List Edge) (s:Nat),(∀e∈l,e∈o.after.toList)→(∀j,s.testBit j=true→d j=true)→∀j,(l.foldl (fun s e=>if Region.binds .any e then s||| 2^e.on||| fJ.getD e.on 0 else s) s).testBit j=true→d j=true:=by
  intro l;induction l with
  | nil=>intro s _ hs j hj;exact hs j hj
  | cons e l ih=>
   intro s hl hs j hj;refine ih _ (fun e he=>hl e (abr _ he)) (fun j hj=>?_) j hj;simp only at hj;split at hj
   ·rename_i hb;have hon:=hw _ (MK ho (hl e abh) hb);rw[Nat.testBit_or,Nat.testBit_or,ace,ace] at hj;rcases hj with(hj|hj)|hj
    ·exact hs j hj
    ·rw[Nat.testBit_two_pow] at hj;have:e.on=j:=by simpa using hj
     rw[←this];exact hon
    ·cases hq:fJ[e.on]? with
     | none=>rw[aaQ,hq] at hj;simp at hj
     | some q=>
      rw[aaQ,hq] at hj;exact h e.on q hq j hj d hc fun k hk=>hc _ k hon hk
   ·exact hs j hj
 exact key _ 0 (fun _ h=>h) (fun j hj=>by simp at hj) j hj
theorem Bn:∀(l:List Oper) (fJ:List Nat),E5 ops fJ→(∀(k:Nat) (o:Oper),l[k]?=some o→ops[fJ.length+k]?=some o)→E5 ops (wT l fJ)
 | [],_,h,_=>h
 | o::l,fJ,h,hl=>by
  refine Bn l _ (fun i s hs j hj d hc hw=>?_) fun k o' hk=>?_
  ·by_cases hi:i<fJ.length
   ·rw[abc hi] at hs;exact h i s hs j hj d hc hw
   ·have Sn:i<fJ.length+1:=by have:=(aad.1 hs).1;simpa using this
    obtain rfl:i=fJ.length:=by omega
    rw[aa8 (abi _)] at hs;simp only[Nat.sub_self,adi,adR] at hs;subst hs;exact YK h (hl 0 o rfl) hj d hc hw
  ·rw[abm,abp,abJ,ab3,aez (0+1)];exact hl (k+1) o' (by simpa using hk)
def nk (C:hZ P) (ops:Array Oper) (n:Nat) (ms:List Nat) (dN:Env) (H0:List aj) (rs:Rs) (i:Nat):Prop:=
 ∃o,ops[i]?=some o∧((Sr ops i o (rs.take i)=some false∧rs[i]?=some (some (.tup [],none)))∨
  (Sr ops i o (rs.take i)=some true∧∃r0 r,(Xe C.ty C.D (H0.length+i) (mz ops (Us ops n ms i) dN (selB ms i) (rs.take i)) (lL H0 n (selB ms i) (rs.take i)) o).hit r0∧rs[i]?=some (some r)∧(r=r0∨∃b,r0=(.one (.sym (.bool b)),none)∧r=(.one (.val (.bool b)),none))))
theorem nk.more {rs:Rs} {i:Nat} (h:nk C ops n ms dN H0 rs i) (hi:i<rs.length) (x:Option (XV×Option aj)):nk C ops n ms dN H0 (rs++[x]) i:=by
 unfold nk at h ⊢;rw[ab4 (by omega),abc hi];exact h
theorem Eb:∀(l:List Oper) (rs rs':Rs),(uo C ops n ms dN H0 l rs).hit rs'→(∀(k:Nat) (o:Oper),l[k]?=some o→ops[rs.length+k]?=some o)→(∀i,i<rs.length→nk C ops n ms dN H0 rs i)→rs'.length=rs.length+l.length∧∀i,i<rs'.length→nk C ops n ms dN H0 rs' i
 | [],rs,rs',h,_,hs=>by have h:rs=rs':=h;subst h;exact⟨rfl,hs⟩
 | o::l,rs,rs',h,hl,hs=>by
  have ho:=hl 0 o rfl;rw[acX] at ho;have next:∀(x:Option (XV×Option aj)),(uo C ops n ms dN H0 l (rs++[x])).hit rs'→nk C ops n ms dN H0 (rs++[x]) rs.length→rs'.length=rs.length+(o::l).length∧∀i,i<rs'.length→nk C ops n ms dN H0 rs' i:=by
   intro x h hx;obtain⟨q1,q2⟩:=Eb l (rs++[x]) rs' h (fun k o' hk=>by
    rw[abm,abp,abJ,ab3,aez (0+1)];exact hl (k+1) o' (by simpa using hk)) fun i hi=>by
     rw[abm,abp,abJ] at hi;by_cases e:i=rs.length
     ·rw[e];exact hx
     ·exact(hs i (by omega)).more (by omega) x
   refine⟨?_,q2⟩;rw[q1,abm,abp,abJ,abp];omega
  have tJ:∀x,(rs++[x]).take rs.length=rs:=fun x=>by rw[ab4 (abi _),List.take_length]
  have gR:∀x,(rs++[x])[rs.length]?=some x:=fun x=>by rw[aa8 (abi _)];simp
  unfold uo at h;split at h
  ·rename_i hg;exact next _ h ⟨o,ho,.inl ⟨by rw[tJ];exact hg,gR _⟩⟩
  ·rename_i hg;obtain⟨r0,h1,h2⟩:=T.hit_bind h;split at h2
   ·rename_i b tL;cases b with
    | true=>exact next _ (h2.1 rfl) ⟨o,ho,.inr ⟨by rw[tJ];exact hg,_,_,by rw[tJ];exact h1,gR _,.inr ⟨true,rfl,rfl⟩⟩⟩
    | false=>exact next _ (h2.2 rfl) ⟨o,ho,.inr ⟨by rw[tJ];exact hg,_,_,by rw[tJ];exact h1,gR _,.inr ⟨false,rfl,rfl⟩⟩⟩
   ·exact next _ h2 ⟨o,ho,.inr ⟨by rw[tJ];exact hg,_,_,by rw[tJ];exact h1,gR _,.inl rfl⟩⟩
  ·exact h.elim
theorem jO {yW:Nat→Bool} {rs:Rs} {t:Nat} {x:XV} (h:(t,x)∈mz ops kp dN yW rs):(∃j r,j<rs.length∧yW j=true∧dI ops j=some t∧rs[j]?=some (some r)∧r.1=x)∨((t,x)∈dN∧kp t=true):=by
 rcases abR.1 h with h|h
 ·obtain⟨j,hj,h⟩:=adG.1 h;left
  split at h
  ·rename_i hs;split at h
   ·rename_i t' r ht hr;injection h with h
    injection h with h1 h2
    subst h1 h2;exact⟨j,r,abG.1 hj,hs,ht,hr,rfl⟩
   ·cases h
  ·cases h
 ·right
  obtain⟨h1,h2⟩:=acS.1 h;exact⟨h1,h2⟩
theorem jF {yW:Nat→Bool} {rs:Rs} {t j:Nat} {r:XV×Option aj} (hj:j<rs.length) (hs:yW j=true) (ht:dI ops j=some t) (hr:rs[j]?=some (some r)):(t,r.1)∈mz ops kp dN yW rs:=by
 refine List.mem_append_left _ (adG.2 ⟨j,abG.2 hj,?_⟩);rw[if_pos hs,ht,hr]
theorem my {yW:Nat→Bool} {rs:Rs} {t:Nat} {x:XV} (h:(t,x)∈dN) (hn:kp t=true):(t,x)∈mz ops kp dN yW rs:=List.mem_append_right _ (acS.2 ⟨h,hn⟩)
theorem rG {d:Nat→Bool} {t:Nat}:K7 ops n d t=true↔∀j,j<n→dI ops j=some t→d j=false:=by
 unfold K7;rw[abv];constructor
 ·intro h j hj ht;have:=h j (abG.2 hj);rw[ht] at this;simpa using this
 ·intro h j hj;by_cases ht:dI ops j=some t
  ·rw[h j (abG.1 hj) ht];simp
  ·simp[ht]
theorem Ur {i t:Nat}:Us ops n ms i t=true↔∀j,j<n→dI ops j=some t→(ms.getD j 0).testBit i=true:=by
 unfold Us;rw[abv];constructor
 ·intro h j hj ht;have:=h j (abG.2 hj);rw[ht] at this;simpa using this
 ·intro h j hj;by_cases ht:dI ops j=some t
  ·rw[h j (abG.1 hj) ht];simp
  ·simp[ht]
theorem I3 {d:Nat→Bool} {t:Nat} (h:ti ops n t=true):K7 ops n d t=true:=rG.2 fun _ hj ht=>absurd ht (Ds h hj)
theorem WL {i t:Nat} (BF:E5 ops ms) (Sk:ms.length=n) {d:Nat→Bool} (pC:d i=false) (hc:∀k q,d k=true→waits ops k q=true→d q=true) (h:Us ops n ms i t=true):K7 ops n d t=true:=rG.2 fun j hj ht=>by
 cases qC:d j with
 | false=>rfl
 | true=>
  have h1:=Ur.1 h j hj ht;have hjm:j<ms.length:=by omega
  rw[aaQ,aac hjm] at h1;have:=BF j _ (aac hjm) i h1 d hc fun q hq=>hc j q qC hq;rw[pC] at this;cases this
theorem I2 {d:Nat→Bool} {i t:Nat} (hi:i<n) (h:K7 ops n (kw d i) t=true) (pC:d i=false):K7 ops n d t=true∧dI ops i≠some t:=by
 refine⟨rG.2 fun j hj ht=>?_,fun ht=>?_⟩
 ·by_cases e:j=i
  ·rw[e];exact pC
  ·have:=rG.1 h j hj ht
   rwa [bM d e] at this
 ·have:=rG.1 h i hi ht;rw[gN] at this;cases this
theorem jg {yW:Nat→Bool} {rs:Rs}:(lL H0 n yW rs).length=H0.length+n:=by simp[lL]
theorem mw {yW:Nat→Bool} {rs:Rs} {j:Nat} (hj:j<n):(lL H0 n yW rs)[H0.length+j]?=some (if yW j then uF rs j else .dead):=by
 unfold lL;rw[aa8 (by omega),abB,acn,adc hj];rfl
theorem tP {yW:Nat→Bool} {rs:Rs} {i:Nat} (hi:i<H0.length):(lL H0 n yW rs)[i]?=H0[i]?:=by
 unfold lL;rw[abc hi]
def DI (m:Nat) (cx:Cx) (ops:Array Oper) (n:Nat) (dN:Env) (H0:List aj) (rs:Rs) (d:Nat→Bool) (a:Act) (w:World):Prop:=
 ∃bs S,HS cx bs w S (lL H0 n d rs)∧(∀j,j<n→d j=false→bs[H0.length+j]?=some undef)∧ER m bs w S (mz ops (K7 ops n d) dN d rs) a
theorem rk {rs:Rs} {i:Nat} (h:rs[i]?=some none∨∃x,rs[i]?=some (some (x,none))):uF rs i=.dead:=by
 unfold uF;rcases h with h|⟨x,h⟩<;>rw[h]
theorem xE {d:Nat→Bool} {rs:Rs} {i:Nat} (hi:i<n) (_:d i=false):lL H0 n (kw d i) rs=(lL H0 n d rs).set (H0.length+i) (uF rs i):=by
 apply acl;intro k;by_cases e:H0.length+i=k
 ·subst e;rw[abt (by rw[jg];omega),mw hi,gN];rfl
 ·rw[abj e];by_cases hk:k<H0.length
  ·rw[tP hk,tP hk]
  ·by_cases eX:k<H0.length+n
   ·obtain⟨j,rfl⟩:∃j,k=H0.length+j:=⟨k-H0.length,by omega⟩;rw[mw (by omega),mw (by omega),bM d (by omega)]
   ·rw[abE (by rw[jg];omega),abE (by rw[jg];omega)]
theorem DI.step {rs:Rs} (bO:rs.length=n) (_:n≤ops.size) (fa:∀i,i<n→nk C ops n ms dN H0 rs i) (BF:E5 ops ms) (Sk:ms.length=n) (mn:Aj ops n m=true) (um:∀(i j:Nat),waits ops i j=true→j<i) {Q':Exit→Act→World→Prop} {d:Nat→Bool} {a:Act} {w:World} {i:Nat} (hi:i<n) (h:DI m cx ops n dN H0 rs d a w) (pC:d i=false) (_:∀j,n≤j→d j=false) (hc:∀k q,d k=true→waits ops k q=true→d q=true) (hw:∀q,waits ops i q=true→d q=true) : wpOp P ops Q' i (DI m cx ops n dN H0 rs (kw d i)) a w:=by
 obtain⟨bs,S,hs,hu,he⟩:=h;obtain⟨o,ho,PZ⟩:=fa i hi;have ym:bs.length=H0.length+n:=by rw[hs.len,jg]
 have xt:∀t,dI ops i=some t→t<m:=fun t ht=>(m5 mn hi ht).1;have WR:o.dst=dI ops i:=by unfold dI;rw[ho];rfl
 have tK:∀(v:Value) t,dI ops i≠some t→(a.put o.dst v).tmps[t]?=a.tmps[t]?:=by
  intro v t hx;rw[WR];cases e:dI ops i with
  | none=>rfl
  | some q=>
   have fI:q≠t:=fun e2=>hx (by rw[e,e2]);show(a.tmps.setIfInBounds q v)[t]?=_;rw[acT fI]
 have rP:∀v:Value,(a.put o.dst v).tmps.size=m∧(a.put o.dst v).defers=[]:=by
  intro v;cases o.dst with
  | none=>exact⟨he.s,he.d⟩
  | some q=>exact⟨by show(a.tmps.setIfInBounds q v).size=m;rw[Array.size_setIfInBounds];exact he.s,he.d⟩
 have xv:∀t x,(t,x)∈mz ops (K7 ops n (kw d i)) dN (kw d i) rs→((t,x)∈mz ops (K7 ops n d) dN d rs∧dI ops i≠some t)∨(dI ops i=some t∧∃r,rs[i]?=some (some r)∧r.1=x):=by
  intro t x hx;rcases jO hx with⟨j,r,hj,fV,ht,hr,hrx⟩|⟨h1,hn⟩
  ·by_cases e:j=i
   ·subst e;exact .inr ⟨ht,r,hr,hrx⟩
   ·rw[bM d e] at fV;subst hrx;exact .inl ⟨jF hj fV ht hr,fun e2=>Jt mn hi (by omega) (fun e3=>e e3.symm) t e2 ht⟩
  ·obtain⟨k1,k2⟩:=I2 hi hn pC;exact .inl ⟨my h1 k1,k2⟩
 have xp:∀{c:Bool},Sr ops i o (rs.take i)=some c→Region.wanted o (yielded ops a.tmps)=c:=by
  intro c hg;unfold Sr at hg;split at hg
  ·rename_i tL;injection hg with hg
   subst hg;simp[Region.wanted,tL]
  ·rename_i j want tL;split at hg
   ·rename_i Sb;split at hg
    ·rename_i t b _ ht hr;injection hg with hg
     subst hg;have PG:=um i j Sb;rw[ab6,if_pos PG] at hr;obtain⟨v,hv,hx⟩:=he.k t _ (jF (by omega) (hw j Sb) ht hr);obtain⟨rfl,_⟩:=hx;exact oV tL ht hv
    ·rename_i t _ ht hr;injection hg with hg
     subst hg;have PG:=um i j Sb;rw[ab6,if_pos PG] at hr;obtain⟨v,hv,vs,e1,e2⟩:=he.k t _ (jF (by omega) (hw j Sb) ht hr);cases e2
     exact sR tL ht (by rw[hv,e1];rfl)
    ·cases hg
   ·cases hg
 rcases PZ with⟨hg,hr⟩|⟨hg,r0,r,aku,hr,UF⟩
 ·
  have DZ:=xp hg;unfold wpOp;rw[ho];simp only[DZ,abx,if_false];have pz:uF rs i=.dead:=rk (.inr ⟨_,hr⟩);refine⟨bs,S,?_,fun j hj qC=>hu j hj ?_,(rP undef).2,(rP undef).1,fun t x hx=>?_⟩
  ·rw[xE hi pC,pz];refine hs.mask (by simp) fun k x hx=>?_;by_cases e:H0.length+i=k
   ·subst e;rw[abt (by rw[jg];omega)] at hx;exact .inl (aaZ hx).symm
   ·rw[abj e] at hx;exact .inr hx
  ·by_cases e:j=i
   ·subst e;exact pC
   ·rw[bM d e] at qC;exact qC
  ·rcases xv t x hx with⟨hx,fI⟩|⟨ht,r,Lg,hrx⟩
   ·obtain⟨v,q1,q2⟩:=he.k t x hx;exact⟨v,(tK undef t fI).trans q1,q2⟩
   ·rw[hr] at Lg;obtain rfl:=aaZ (aaZ Lg);subst hrx;refine⟨undef,?_,[],rfl,.nil⟩;rw[WR,ht];show(a.tmps.setIfInBounds t undef)[t]?=_;exact abP (by rw[he.s];exact xt t ht)
 ·have DZ:=xp hg;have Gq:∀j,selB ms i j=true→j<i∧d j=true:=by
   intro j hj;unfold selB at hj;rw[aba,decide_eq_true_eq] at hj;refine⟨hj.1,?_⟩;have him:i<ms.length:=by rw[Sk];exact hi
   have xo:=hj.2;rw[aaQ,aac him] at xo;exact BF i _ (aac him) j xo d hc hw
  have D2:∀j,j<i→(rs.take i)[j]?=rs[j]?:=fun j hj=>by rw[ab6,if_pos hj]
  have aeq:∀j,j<i→uF (rs.take i) j=uF rs j:=fun j hj=>by unfold uF;rw[D2 j hj]
  have hsm:HS cx bs w S (lL H0 n (selB ms i) (rs.take i)):=by
   refine hs.mask (by rw[jg,jg]) fun k x hx=>?_;by_cases hk:k<H0.length
   ·rw[tP hk] at hx ⊢;exact .inr hx
   ·have eX:k<H0.length+n:=by have:=(aad.1 hx).1;rw[jg] at this;exact this
    obtain⟨j,rfl⟩:∃j,k=H0.length+j:=⟨k-H0.length,by omega⟩;rw[mw (by omega)] at hx;rw[mw (by omega)];split at hx
    ·rename_i hsj;obtain⟨q1,q2⟩:=Gq j hsj;rw[q2,aeq j q1] at*;exact .inr hx
    ·exact .inl (aaZ hx).symm
  have hem:ER m bs w S (mz ops (Us ops n ms i) dN (selB ms i) (rs.take i)) a:=by
   refine⟨he.d,he.s,fun t x hx=>?_⟩;rcases jO hx with⟨j,q,hj,fV,ht,hq,rfl⟩|⟨h1,hn⟩
   ·obtain⟨q1,q2⟩:=Gq j fV;rw[D2 j q1] at hq;exact he.k t _ (jF (by omega) q2 ht hq)
   ·exact he.k t x (my h1 (WL BF Sk pC hc hn))
  have oy:=BM C.isP hsm hem aku;refine vH ho DZ (oy _ _ fun v w' S' u hb hS hn hx hf=>?_);have fV:=hs.grow hb hS hn;have heg:∀bn,jD bs bn→XR bn w' S' r0.1 v→ER m bn w' S' (mz ops (K7 ops n (kw d i)) dN (kw d i) rs) (a.put o.dst v):=by
   intro bn ha jk;refine⟨(rP v).2,(rP v).1,fun t x hx=>?_⟩;rcases xv t x hx with⟨hx,fI⟩|⟨ht,r',j3,rfl⟩
   ·obtain⟨z,q1,q2⟩:=he.k t x hx;exact⟨z,(tK v t fI).trans q1,q2.keep hS ((aA.of_below hb).sub fun b q=>(hs.s b q).1) ha⟩
   ·rw[hr] at j3;obtain rfl:=aaZ (aaZ j3);refine⟨v,?_,?_⟩
    ·rw[WR,ht];show(a.tmps.setIfInBounds t v)[t]?=_;exact abP (by rw[he.s];exact xt t ht)
    ·rcases UF with rfl|⟨b,e1,e2⟩
     ·exact jk
     ·rw[e1] at jk;rw[e2];exact⟨jk.1,rfl⟩
  have hun:bs[H0.length+i]?=some undef:=hu i hi pC;cases Pn:r0.2 with
  | none=>
   have ajV:r.2=none:=by
    rcases UF with rfl|⟨b,_,e2⟩
    ·exact Pn
    ·rw[e2]
   have pz:uF rs i=.dead:=rk (.inr ⟨r.1,by rw[hr,←ajV]⟩);obtain⟨Uy,_⟩:=hx bs (jD.refl _) (by rw[Pn];intro h;cases h);refine⟨bs,S',?_,fun j hj qC=>hu j hj ?_,heg bs (jD.refl _) Uy⟩
   ·rw[xE hi pC,pz];refine fV.mask (by simp) fun k x hx=>?_;by_cases e:H0.length+i=k
    ·subst e;rw[abt (by rw[jg];omega)] at hx;exact .inl (aaZ hx).symm
    ·rw[abj e] at hx;exact .inr hx
   ·by_cases e:j=i
    ·subst e;exact pC
    ·rw[bM d e] at qC;exact qC
  | some x=>
   have hrx:r=r0:=by
    rcases UF with h|⟨b,e1,_⟩
    ·exact h
    ·rw[e1] at Pn;cases Pn
   have pz:uF rs i=x:=by
    unfold uF;rw[hr,hrx];obtain⟨r1,r2⟩:=r0;have Pn:r2=some x:=Pn;subst Pn;rfl
   have Gv:H0.length+i<bs.length:=by omega
   have xx:jD bs (bs.set (H0.length+i) u):=fun q z hq hz=>by
    rw[abj (fun e=>by subst e;rw[hun] at hq;injection hq with hq;subst hq;cases hz)];exact hq
   obtain⟨Uy,Cp⟩:=hx (bs.set (H0.length+i) u) xx fun _=>by rw[abt Gv]
   have nD:=hf x Pn;have aeO:(lL H0 n d rs)[H0.length+i]?=some .dead:=by rw[mw hi,pC];rfl
   have j4:=fV.fill (x:=x) (v:=u) aeO hun rfl (Cp x Pn) fun b gz=>⟨.inl (abk hs.size (nD b gz).1),(nD b gz).2,fun k z q hz hq e=>by
    have:=(hs.o k z q hz hq).lt e;have:=(nD b gz).1;omega⟩
   refine⟨bs.set (H0.length+i) u,S',?_,fun j hj qC=>?_,heg _ xx Uy⟩
   ·rw[xE hi pC,pz];exact j4
   ·by_cases e:j=i
    ·subst e;rw[gN] at qC;cases qC
    ·rw[bM d e] at qC;rw[abj (by omega)];exact hu j hj qC
theorem HS.pads {bs:List Value} {w:World} {S:Nat→Prop} {H:List aj} (h:HS cx bs w S H):∀n,HS cx (bs++List.replicate n undef) w S (H++List.replicate n .dead)
 | 0=>by simpa using h
 | n+1=>by
  have:=(HS.pads h n).pad;rw[abD,abD,←ad3,←ad3] at this;exact this
theorem Ly {rs:Rs}:lL H0 n (fun _=>false) rs=H0++List.replicate n .dead:=by
 unfold lL;congr 1
 apply acl;intro i;by_cases hi:i<n
 ·rw[acn,adc hi,acz,if_pos hi];rfl
 ·rw[abE (by simp;omega),abE (by simp;omega)]
theorem vc {dG:ek}:∀(l:List Oper) (i:Nat) {st:ek} {a:Act} {w:World},ops.toList.drop i=l→(FT C m ops l st).hit dG→fK m cx st a w→(∀a' w',fK m cx dG a' w'→Q .normal a' w')→H7 P ops Q l.length i a w
 | [],i,st,a,w,_,h,ct,hQ=>by
  have h:st=dG:=h;subst h;exact hQ a w ct
 | o::l,i,st,a,w,hl,h,ct,hQ=>by
  obtain⟨st1,h1,h2⟩:=T.hit_bind h;have ho:ops[i]?=some o:=by
   have:=congrArg (fun l:List Oper=>l[0]?) hl;simp only[ab5,acX,adi,Array.getElem?_toList] at this;exact this
  have yI:ops.toList.drop (i+1)=l:=by
   rw[←ad5,hl];rfl
  exact Qm ho h1 ct (fun st q1 q2=>No q1 q2 fun a' w' q=>vc l (i+1) yI h2 q hQ) fun a' w' q=>vc l (i+1) yI h2 q hQ
theorem QJ {id:Nat} {st dG:ek} {a:Act} {w:World} {n:Nat} (h:(Vh C m ops n st).hit dG) (ct:fK m cx st a w) (hQ:∀a' w',fK m cx dG a' w'→Q .normal a' w'):(Code.region id ops true).wp P Q a w:=by
 unfold Vh at h;split at h
 ·rename_i hc;simp only[aba] at hc;obtain⟨⟨⟨hm,hb⟩,kH⟩,mn⟩:=hc;obtain⟨rs,h1,h2⟩:=T.hit_bind h;have jN:=fO hb;have Gv:n≤ops.size:=by omega
  have Fe:(ops.toList.take n).length=n:=by rw[abH,abC];omega
  have gR:∀(k:Nat) (o:Oper),(ops.toList.take n)[k]?=some o→ops[k]?=some o:=fun k o hk=>by
   rw[ab6] at hk;split at hk
   ·simpa using hk
   ·cases hk
  obtain⟨q1,q2⟩:=Eb _ [] rs h1 (fun k o hk=>by rw[abJ,abQ];exact gR k o hk) fun i hi=>absurd hi (Nat.not_lt_zero _);rw[abJ,abQ,Fe] at q1;have BF:E5 ops (wT (ops.toList.take n) []):=Bn _ [] (fun i s hs=>by cases hs) fun k o hk=>by rw[abJ,abQ];exact gR k o hk
  have Sk:∀(l:List Oper) (fJ:List Nat),(wT l fJ).length=fJ.length+l.length:=by
   intro l;induction l with
   | nil=>intro fJ;rfl
   | cons o l ih=>intro fJ;show(wT l _).length=_;rw[ih,abm,abp,abJ,abp];omega
  have um:∀(i j:Nat),waits ops i j=true→j<i:=by
   intro i j hw;unfold waits at hw;cases ho:ops[i]? with
   | none=>rw[ho] at hw;cases hw
   | some o=>
    rw[ho] at hw;simp only[acB,aby,Array.any_eq_true',aba,beq_iff_eq] at hw;obtain⟨e,he,hbi,rfl⟩:=hw;exact oN hb ho e he hbi
  refine nT n (ops.size-n) (DI m cx ops n st.env st.heap rs) hm hb kH ?_ (fun Q' d a w i hi hI pC uY hc hw=>DI.step q1 Gv (fun i hi=>q2 i (by omega)) BF (by rw[Sk,abJ,abQ,Fe]) mn um hi hI pC uY hc hw) fun d a w hI dM=>?_
  ·obtain⟨bs,S,hs,he⟩:=ct;have hd:Below w.heap.size w w.drew:=(Below.refl _ _).drew;refine⟨bs++List.replicate n undef,S,by rw[Ly];exact(hs.grow hd (fun _ h=>h) fun _ h=>.inl h).pads n,fun j hj _=>?_,he.d,he.s,fun t x hx=>?_⟩
   ·rw[←hs.len,aa8 (by omega),abB,acz,if_pos hj]
   ·rcases jO hx with⟨j,r,_,h,_⟩|⟨h1,_⟩
    ·cases h
    ·obtain⟨v,k1,k2⟩:=he.k t x h1;exact⟨v,k1,k2.keep (fun _ h=>h) (fun _ _=>rfl) fun o u hu _=>by rw[abc (aad.1 hu).1];exact hu⟩
  ·obtain⟨bs,S,hs,_,he⟩:=hI;have nC:fK m cx ⟨mz ops (ti ops n) st.env (fun _=>true) rs,lL st.heap n (fun _=>true) rs⟩ a w:=by
    refine⟨bs,S,?_,he.d,he.s,fun t x hx=>he.k t x ?_⟩
    ·have:lL st.heap n (fun _=>true) rs=lL st.heap n d rs:=by
      unfold lL;congr 1
      apply List.map_congr_left;intro j hj;rw[dM j (abG.1 hj)]
     show HS cx bs w S (lL st.heap n (fun _=>true) rs);rw[this];exact hs
    ·rcases jO hx with⟨j,r,hj,_,ht,hr,rfl⟩|⟨k1,k2⟩
     ·exact jF hj (dM j (by omega)) ht hr
     ·exact my k1 (I3 k2)
   have:=vc (C:=C) (Q:=Q) (cx:=cx) (ops.toList.drop n) n rfl h2 nC hQ
   rwa [abW,abC] at this
 ·exact h.elim
end
end Go.Proofs.YtjlhbfbdcfajfaaGreatDoor
