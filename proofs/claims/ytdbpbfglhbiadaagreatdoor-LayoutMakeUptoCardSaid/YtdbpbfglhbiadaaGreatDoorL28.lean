/- MFn MPure MDrw -/
import Derived.Test.YtdbpbfglhbiadaaGreatDoorL00
import Derived.Test.YtdbpbfglhbiadaaGreatDoorL27
set_option maxHeartbeats 8000000
set_option maxRecDepth 100000
namespace Go.Proofs.YtdbpbfglhbiadaaGreatDoor
open Go Go.RowKit
inductive LE (l lo lr:List (Nat×SS)) where
 | back (x:cF l)
 | out (y:cF lo)
 | ret (r:XV) (z:cF lr)
section
variable {P:Program} {m:Nat} {loops:List Code} (R:Rg P m) (L:Cq P R.fn m R.pb loops)
def rdT (n k d:Nat) (b:Code) (l lo lr:List (Nat×SS)) (x:cF l):T (LE l lo lr):=(run R L n [.code (k+1) b] (dz l x)).bind fun q=>match q with
 | .nrm st=>T.op ((pw R.pb l st).map .back)
 | .ext id st=>if id=d then T.op ((pw R.pb lo st).map .out) else .bad
 | .ret r st=>T.op ((pw R.pb lr st).map (.ret r))
def lpT (pb:List Nat) (d:Nat) (l lo lr:List (Nat×SS)) (G:cF l→T (LE l lo lr)) (st:eu):T Lf:=match pw pb l st with
 | some x=>(G x).bind fun q=>match q with
  | .back _=>.bad
  | .out y=>.lf (.ext d (dz lo y))
  | .ret r z=>.lf (.ret r (dz lr z))
 | none=>.bad
theorem RtS.nrm {fn:Func} {cx:Cx} {r:XV} {st:eu} {a:Act} {w:World} {l:List (Nat×SS)} {z:cF l} (h:RtS P fn m cx r st a w) (hr:pw cx.pb l st=some z):RtS P fn m cx r (dz l z) a w:=by
 obtain⟨bs,S,S',hs,he,q⟩:=h;obtain⟨us,q1,q2⟩:=oi hr hs he;exact⟨us,S,S',q1,q2,q⟩
theorem aem {n k d:Nat} {b:Code} {l lo lr:List (Nat×SS)} {G:cF l→T (LE l lo lr)} (μ:cF l→Nat) (hk:∀j x,(kQ b)[j]?=some x→loops[k+1+j]?=some x) (dp:∀x r,MM l x→(G x).hit r→∃q,(rdT R L n k d b l lo lr x).hit q∧match q with|.back x'=>μ x'<μ x∧(G x').hit r|q=>q=r):Ct P R.fn m R.pb (.loop b) (lpT R.pb d l lo lr G):=by
 intro cx st a w lf nT h cA;unfold lpT at h;split at h
 ·rename_i x hx;obtain⟨r,h1,h2⟩:=T.hit_bind h;rw[←nT] at hx;have cA:=vE hx cA;refine wp_loop_ghost (fun j a w=>∃x,j=μ x∧(G x).hit r∧fJ m cx (dz l x) a w) (μ x) ⟨x,rfl,h1,cA⟩ ?_;rintro j a1 w1 ⟨x1,rfl,g1,s1⟩;obtain⟨q,q1,q2⟩:=dp x1 r (Rp s1) g1;obtain⟨lf',p1,p2⟩:=T.hit_bind q1;refine wp_mono (AS nT p1 s1 hk) fun e a2 w2 he=>?_;cases e with
  | normal=>
   obtain⟨dK,rfl,s2⟩:=he;have p2:=T.hit_op p2;cases e2:pw R.pb l dK with
   | none=>rw[e2] at p2;cases p2
   | some y=>
    rw[e2] at p2;injection p2 with p2
    subst p2;rw[←nT] at e2;exact⟨μ y,q2.1,y,rfl,q2.2,vE e2 s2⟩
  | exit id=>
   obtain⟨dK,rfl,s2⟩:=he;simp only at p2;split at p2
   ·rename_i e3;subst e3;have p2:=T.hit_op p2;cases e2:pw R.pb lo dK with
    | none=>rw[e2] at p2;cases p2
    | some y=>
     rw[e2] at p2;injection p2 with p2
     subst p2;have q2:LE.out y=r:=q2;subst q2;have h2:Lf.ext id (dz lo y)=lf:=h2;rw[←nT] at e2;exact⟨_,h2,vE e2 s2⟩
   ·exact p2.elim
  | ret=>
   obtain⟨r',dK,rfl,s2⟩:=he;have p2:=T.hit_op p2;cases e2:pw R.pb lr dK with
   | none=>rw[e2] at p2;cases p2
   | some y=>
    rw[e2] at p2;injection p2 with p2
    subst p2;have q2:LE.ret r' y=r:=q2;subst q2;have h2:Lf.ret r' (dz lr y)=lf:=h2;rw[←nT] at e2;exact⟨_,_,h2,s2.nrm e2⟩
  | _=>exact he.elim
 ·exact h.elim
end
def noL (P:Program) (fn:Func) (m:Nat) (pb:List Nat) (loops:List Code):Cq P fn m pb loops:=⟨fun _=>none,fun _ _ _ h=>by cases h⟩
def Cq.add {P:Program} {fn:Func} {m:Nat} {pb:List Nat} {loops:List Code} (L:Cq P fn m pb loops) (k:Nat) (g:eu→T Lf) (h:∀c,loops[k]?=some c→Ct P fn m pb c g):Cq P fn m pb loops:=
 ⟨fun i=>if i=k then some g else L.f i,fun i g' c hf hc=>by
  by_cases e:i=k
  ·rw[if_pos e] at hf;injection hf with hf;subst hf e;exact h c hc
  ·rw[if_neg e] at hf;exact L.ok i g' c hf hc⟩
def sa:Nat→List XV→Env
 | _,[]=>[]
 | n,x::l=>(n,x)::sa (n+1) l
def N7 (P:Program) (H:List ai) (env:Env):ResultVar→Option XV
 | .tmp t=>env.lookup t
 | .cell t ty=>Zn P H ty (env.lookup t)
def N8 (P:Program) (H:List ai) (env:Env):List ResultVar→Option (List XV)
 | []=>some []
 | x::l=>match N7 P H env x,N8 P H env l with
  | some y,some r=>some (y::r)
  | _,_=>none
def XV.comp:XV→Option (Bool×List AV)
 | .one a=>some (false,[a])
 | .agg cs=>some (true,cs)
 | .tup _=>none
def EL:List XV→Option (List (Bool×List AV))
 | []=>some []
 | x::l=>match x.comp,EL l with
  | some y,some r=>some (y::r)
  | _,_=>none
def YC (P:Program) (ty:TypeId→Option Ty) (fn:Func) (vw:Bool) (st:eu):Option XV:=match N8 P st.heap st.env fn.results.toList with
 | none=>none
 | some l=>match l.map (fun x=>if vw then nW ty st.heap x else x) with
  | [x]=>if x.free then some x else none
  | l=>(EL l).bind fun cs=>if(XV.tup cs).free then some (.tup cs) else none
section
variable {P:Program} {fn:Func} {cx:Cx} {bs:List Value} {w:World} {S:Nat→Prop} {H:List ai} {m:Nat} {env:Env} {a:Act}
theorem Us (hs:HS cx bs w S H) {t:TypeId} {x:Option XV} {v:Value} (hx:∀y,x=some y→XR bs w S y v) {y:XV} (h:Zn P H t x=some y):∃u,(do loadVar t (←asAddr v):Sem Value).run P w=.ok u w∧XR bs w S y u:=by
 cases x with
 | none=>unfold Zn at h;cases hq:Zo P t<;>rw[hq] at h<;>cases h
 | some z=>
  unfold Zn at h;split at h
  ·rename_i q b hq hz;injection hz with hz
   subst hz;cases e:vT H b with
   | none=>rw[e] at h;cases h
   | some cs=>
    rw[e] at h;have h:WP q (cs.take q.2)=some y:=h;obtain⟨ad,vs,hv,hc,hf⟩:=yf hs e (hx _ rfl);subst hv;have BS:=hf.take q.2;have hct:=hc.take q.2;have hl:=BS.length;unfold WP at h;split at h
    ·rename_i bG;rw[bG] at hl;unfold Zo at hq;split at hq
     ·rename_i Qq;cases hi:P.info? t with
      | none=>rw[hi] at hq;cases hq
      | some i=>
       rw[hi] at hq;injection hq with hq
       subst hq;simp only[if_true] at h;injection h with h
       subst h;refine⟨_,?_,CR.agg BS⟩;have hl:=WI hct Qq (by rw[hi];exact congrArg some hl);simpa[Instr.loadAt,Instr.sureAddr,asAddr,Sem.run_bind] using hl
     ·rename_i Qq;injection hq with hq
      subst hq;simp only[abs,if_false] at h;split at h
      ·rename_i b' hb;injection h with h
       subst h;rw[hb] at BS;cases UG:vs.take 1 with
       | nil=>rw[UG] at BS;cases BS
       | cons u r=>
        rw[UG] at BS hct;cases BS with
        | cons h1 h2=>
         refine⟨u,?_,h1⟩;have h0:=hct 0 u rfl;have:ad.add 0=ad:=by unfold Addr.add;simp
         rw[this] at h0;have hl:=WJ (P:=P) (t:=t) h0 Qq;simpa[Instr.loadAt,Instr.sureAddr,asAddr,Sem.run_bind] using hl
      ·cases h
     ·cases hq
    ·cases h
  ·cases h
theorem KJ (hs:HS cx bs w S H) (he:ER m bs w S env a) {x:ResultVar} {y:XV} (h:N7 P H env x=some y):∃v,(match x with|.tmp t=>pure (a.tmps.getD t undef)|.cell t ty=>do loadVar ty (←asAddr (a.tmps.getD t undef)):Sem Value).run P w=.ok v w∧XR bs w S y v:=by
 cases x with
 | tmp t=>exact⟨_,rfl,ud he h⟩
 | cell t ty=>exact Us hs (fun y hy=>ud he hy) h
theorem IA (hs:HS cx bs w S H) (he:ER m bs w S env a):∀{l:List ResultVar} {r:List XV},N8 P H env l=some r→∃vs,(l.mapM fun x=>(match x with|.tmp t=>pure (a.tmps.getD t undef)|.cell t ty=>do loadVar ty (←asAddr (a.tmps.getD t undef)):Sem Value)).run P w=.ok vs w∧F2 (XR bs w S) r vs
 | [],r,h=>by injection h with h;subst h;exact⟨[],rfl,.nil⟩
 | x::l,r,h=>by
  unfold N8 at h;split at h
  ·rename_i y r' h1 h2;injection h with h
   subst h;obtain⟨v,q1,q2⟩:=KJ hs he h1;obtain⟨vs,q3,q4⟩:=IA hs he h2;refine⟨v::vs,?_,.cons q2 q4⟩;rw[List.mapM_cons];simp only[Sem.run_bind,q1,Result.andThen_ok,q3,Sem.run_pure]
  ·cases h
theorem EK:∀{l:List XV} {cs:List (Bool×List AV)} {vs:List Value},EL l=some cs→F2 (XR bs w S) l vs→F2 (fun p v=>CR bs w S p.1 p.2 v) cs vs
 | [],_,_,h,hf=>by cases hf;injection h with h;subst h;exact .nil
 | x::l,_,_,h,hf=>by
  cases hf with
  | cons h1 h2=>
   unfold EL at h;split at h
   ·rename_i y r hy hr;injection h with h
    subst h;refine .cons ?_ (EK hr h2);cases x with
    | one b=>injection hy with hy;subst hy;exact⟨b,rfl,h1⟩
    | agg cs=>injection hy with hy;subst hy;exact h1
    | tup l=>cases hy
   ·cases h
theorem To {cx:Cx} {st:eu} {a:Act} {w:World} {r:XV} {vw:Bool} {ty:TypeId→Option Ty} (hvw:cx.pb=[]∨vw=false) (h:YC P ty fn vw st=some r) (cA:fJ m cx st a w):RtS P fn m cx r st a w:=by
 obtain⟨bs,S,hs,he⟩:=cA;unfold YC at h;cases e:N8 P st.heap st.env fn.results.toList with
 | none=>rw[e] at h;cases h
 | some l=>
  rw[e] at h;obtain⟨vs,q1,q2⟩:=IA hs he e;have hS1:∀b,Hy bs st.heap S b→(cx.S0 b∨cx.w0.heap.size≤b∨cx.M b)∧b<w.heap.size:=fun b hb=>by
   rcases hb with hb|⟨i,x,v,h1,h2,h3⟩
   ·exact⟨(hs.s b hb).2,(hs.s b hb).1⟩
   ·exact⟨.inr (hs.nw i x v b h1 h2 h3).1,(hs.o i x v h1 h2).lt h3⟩
  have key:∃S',(∀b,S' b→(cx.S0 b∨cx.w0.heap.size≤b∨cx.M b)∧b<w.heap.size)∧(vw=true∨∀b,S' b→S b)∧F2 (XR bs w S') (l.map (fun x=>if vw then nW ty st.heap x else x)) vs:=by
   cases vw with
   | true=>exact⟨_,hS1,.inl rfl,q2.mapL fun x _ v hv=>CJ hs hv⟩
   | false=>exact⟨S,fun b hb=>⟨(hs.s b hb).2,(hs.s b hb).1⟩,.inr fun _ h=>h,by simpa using q2⟩
  obtain⟨S',k1,k2,k3⟩:=key;have si:∀v,(v=if h:vs.toArray.size=1 then vs.toArray[0] else .tuple vs.toArray)→(results fn a.tmps).run P w=.ok v w:=by
   rintro v rfl;unfold results;rw[Array.mapM_eq_mapM_toList];simp only[Sem.run_bind,map_eq_pure_bind,bind_assoc,pure_bind];exact(congrArg (fun r=>Result.andThen r _) q1).trans rfl
  have nT:cx.pb=[]∨∀b,S' b→S b:=by
   rcases hvw with q|q
   ·exact .inl q
   ·rcases k2 with k2|k2
    ·rw[q] at k2;cases k2
    ·exact .inr k2
  simp only at h;split at h
  ·rename_i x hx;rw[hx] at k3;split at h
   ·rename_i hf;injection h with h
    subst h;cases k3 with
    | @cons _ v _ _ h1 h2=>
     cases h2
     exact⟨bs,S,S',hs,he,k1,nT,v,si v rfl,XR.free hf h1⟩
   ·cases h
  ·rename_i l' fG;cases ec:EL (l.map (fun x=>if vw then nW ty st.heap x else x)) with
   | none=>rw[ec] at h;cases h
   | some cs=>
    rw[ec] at h;have h:(if(XV.tup cs).free then some (XV.tup cs) else none)=some r:=h;split at h
    ·rename_i hf;injection h with h
     subst h;refine⟨bs,S,S',hs,he,k1,nT,.tuple vs.toArray,si _ ?_,XR.free hf ⟨vs,rfl,EK ec k3⟩⟩;have hl:=k3.length;rw[dif_neg];intro h1;rw[ab6,←hl] at h1
     match hm:l.map (fun x=>if vw then nW ty st.heap x else x),h1 with
     | [x],_=>exact fG x hm
    ·cases h
end
def Kh:AV→AV
 | .val (.int k n)=>.sym (.int k n)
 | .val (.bool b)=>.sym (.bool b)
 | .val (.string s)=>.sym (.string s)
 | a=>a
def SX:XV→XV
 | .one a=>.one (Kh a)
 | .agg cs=>.agg (cs.map Kh)
 | .tup l=>.tup (l.map fun p=>(p.1,p.2.map Kh))
section
variable {bs:List Value} {w:World} {S:Nat→Prop}
theorem AW {x:AV} {v:Value} (h:VR bs w S x v):VR bs w S (Kh x) v:=by
 unfold Kh;split<;>exact h
theorem Io {ag:Bool} {cs:List AV} {v:Value} (h:CR bs w S ag cs v):CR bs w S ag (cs.map Kh) v:=by
 unfold CR at h ⊢;cases ag with
 | true=>obtain⟨vs,e,h⟩:=h;exact⟨vs,e,h.mapL fun _ _ _ h=>AW h⟩
 | false=>obtain⟨a,rfl,h⟩:=h;exact⟨_,rfl,AW h⟩
theorem Im {x:XV} {v:Value} (h:XR bs w S x v):XR bs w S (SX x) v:=by
 cases x with
 | one b=>exact AW h
 | agg cs=>exact Io (ag:=true) h
 | tup l=>obtain⟨vs,e,h⟩:=h;exact⟨vs,e,h.mapL fun _ _ _ h=>Io h⟩
end
def XV.plain:XV→Bool
 | .one a=>a.plain
 | .agg cs=>cs.all AV.plain
 | .tup l=>l.all fun p=>p.2.all AV.plain
section
variable {P:Program} {m:Nat} {loops:List Code} (R:Rg P m) (L:Cq P R.fn m R.pb loops)
def fnT (n:Nat) (body:Code) (l0:List (Nat×SS)) (x:cF l0):T XV:=(run R L n [.code 0 body] (dz l0 x)).bind fun q=>match q with
 | .ret r _=>.lf (SX r)
 | .nrm _=>if R.fn.results.toList.isEmpty then .lf (.tup []) else .bad
 | _=>.bad
end
def aU (l0:List (Nat×SS)) (G:cF l0→T XV) (xs:List XV):T XV:=match pw [] l0 ⟨sa 0 xs,[]⟩ with
 | some x=>if xs.length=l0.length then G x else .bad
 | none=>.bad
section
variable {P:Program} {fn:Func} {w:World} {S:Nat→Prop}
theorem VR.plain {bs bn:List Value} {S S':Nat→Prop} {w w':World} {x:AV} {v:Value} (hp:x.plain=true) (h:VR bs w S x v):VR bn w' S' x v:=by
 cases x with
 | val u=>exact h
 | sym u=>exact h
 | _=>cases hp
theorem CR.plain {bs bn:List Value} {S S':Nat→Prop} {w w':World} {ag:Bool} {cs:List AV} {v:Value} (hp:cs.all AV.plain=true) (h:CR bs w S ag cs v):CR bn w' S' ag cs v:=by
 have hc:=aaR.1 hp;have key:∀{cs:List AV} {vs:List Value},(∀x∈cs,x.plain=true)→F2 (VR bs w S) cs vs→F2 (VR bn w' S') cs vs:=by
  intro cs vs hc hf;induction hf with
  | nil=>exact .nil
  | cons h _ ih=>exact .cons (VR.plain (hc _ aaw) h) (ih fun x hx=>hc x (aaN _ hx))
 unfold CR at h ⊢;cases ag with
 | true=>obtain⟨vs,e,h⟩:=h;exact⟨vs,e,key hc h⟩
 | false=>obtain⟨x,rfl,h⟩:=h;exact⟨x,rfl,VR.plain (hc x aaw) h⟩
theorem XR.plain {bs bn:List Value} {S S':Nat→Prop} {w w':World} {x:XV} {v:Value} (hp:x.plain=true) (h:XR bs w S x v):XR bn w' S' x v:=by
 cases x with
 | one b=>exact VR.plain hp h
 | agg cs=>exact CR.plain hp h
 | tup l=>
  obtain⟨vs,e,h⟩:=h;refine⟨vs,e,?_⟩;have hc:=aaR.1 hp;clear e;induction h with
  | nil=>exact .nil
  | @cons p _ _ _ h _ ih=>exact .cons (CR.plain (hc p aaw) h) (ih (aaR.2 fun x hx=>hc x (aaN _ hx)) fun x hx=>hc x (aaN _ hx))
theorem vM {bs:List Value} {tmps:Array Value}:∀{xs:List XV} {vs:List Value} {n:Nat},F2 (XR bs w S) xs vs→(∀(j:Nat) (v:Value),vs[j]?=some v→tmps[n+j]?=some v)→∀t x,(t,x)∈sa n xs→∃v,tmps[t]?=some v∧XR bs w S x v
 | [],_,_,_,_,_,_,h=>by cases h
 | x::xs,_,n,hf,ht,t,y,h=>by
  cases hf with
  | @cons _ v _ vs h1 h2=>
   rcases aaP.1 h with e|h
   ·injection e with e1 e2
    subst e1 e2;exact⟨v,ht 0 v rfl,h1⟩
   ·refine vM (n:=n+1) h2 (fun j v hj=>?_) t y h;rw[show n+1+j=n+(j+1) by omega];exact ht (j+1) v (by simpa using hj)
theorem pure_ok {f:FuncId} {body:Code} {loops:List Code} (R:Rg P fn.ntmps) (L:Cq P R.fn fn.ntmps R.pb loops) (U2:R.fn=fn) (hRp:R.pb=[]) (hf:P.funcs[f]?=some fn) (hb:fn.body=some body) (hl:loops=kQ body) (al:Bool) (n:Nat) (l0:List (Nat×SS)) (G:cF l0→T XV) (BR:l0.length≤fn.ntmps) (h:∀x r,MM l0 x→(G x).hit r→(fnT R L n body l0 x).hit r∧(al=true∨r.plain=true)):av P f al (aU l0 G):=by
 intro w S xs vs r hW hS hx hr;unfold aU at hr;split at hr
 ·rename_i x ji;split at hr
  ·rename_i bG;have Cy:vs.length≤fn.ntmps:=by rw[←hx.length,bG];exact BR
   let cx:Cx:=⟨w,S,fun _=>False,[],[],wk0 hW⟩
   have hs:HS cx [] w S []:=⟨rfl,(fun _ _ _ h=>by cases h),(fun _ _ _ _ _ _ _ _ h=>by cases h),(fun _ _ _ _ h=>by cases h),fun b q=>⟨hS b q,.inl q⟩,fun _ h=>h,rfl,rfl,rfl,aaJ _,fun _ _ _=>rfl,fun _ _ h=>by cases h⟩;have he:ER fn.ntmps [] w S (sa 0 xs) { tmps:=vs.toArray++Array.replicate (fn.ntmps-vs.toArray.size) undef,defers:=[] }:=by
    refine⟨rfl,?_,vM hx fun j v hj=>?_⟩
    ·show(vs.toArray++Array.replicate (fn.ntmps-vs.toArray.size) undef).size=_;rw[Array.size_append,Array.size_replicate,ab6];omega
    ·rw[ab7,Array.getElem?_append,if_pos (by rw[ab6];exact(aag.1 hj).1)];simpa using hj
   have cA:=vE (cx:=cx) ji ⟨[],S,hs,he⟩;obtain⟨h1,h2⟩:=h x r (Rp cA) hr;obtain⟨q,h3,h4⟩:=T.hit_bind h1;refine calls_of_wp hf hb (wp_mono (AS (cx:=cx) hRp.symm h3 cA fun j z hz=>by rw[hl,ab7];exact hz) fun e a' w' hq=>?_);have below:∀{bs S1 H},HS cx bs w' S1 H→Below w.heap.size w w':=fun fV=>⟨fV.os,fV.tape,fV.output,fV.size,fun b hb=>fV.old b hb fun h=>h⟩;cases e with
   | ret=>
    obtain⟨r',dK,rfl,bs,S1,S',fV,Ai,k1,_,v,k2,k3⟩:=hq;have h4:SX r'=r:=h4;subst h4;have k3:=Im k3;rw[U2] at k2;refine⟨Ai.d,v,k2,?_⟩;rcases h2 with h2|h2
    ·refine⟨v,S',rfl,below fV,fun b q=>?_,k3⟩;obtain⟨q1,q2⟩:=k1 b q;rcases q1 with q1|q1|q1
     ·exact .inl ⟨h2,q1⟩
     ·exact .inr ⟨q1,q2⟩
     ·exact q1.elim
    ·exact⟨v,fun _=>False,rfl,below fV,fun b q=>q.elim,XR.plain h2 k3⟩
   | normal=>
    obtain⟨dK,rfl,bs,S1,fV,Ai⟩:=hq;simp only at h4;split at h4
    ·rename_i si;have h4:XV.tup []=r:=h4;subst h4;rw[U2] at si;have PI:fn.results=#[]:=by
      have:fn.results.toList=[]:=List.isEmpty_iff.1 si;rw[←acd (xs:=fn.results),this]
     exact⟨Ai.d,_,results_none PI _ _ _,_,fun _=>False,rfl,below fV,fun b q=>q.elim,[],rfl,.nil⟩
    ·exact h4.elim
   | exit id=>
    obtain⟨dK,rfl,_⟩:=hq;exact h4.elim
   | _=>exact hq.elim
  ·exact hr.elim
 ·exact hr.elim
theorem acY {bs:List Value}:∀{xs:List XV} {vs:List Value} {n:Nat},F2 (XR bs w S) xs vs→∀t x,(t,x)∈sa n xs→∃v,vs[t-n]?=some v∧n≤t∧XR bs w S x v
 | [],_,_,_,_,_,h=>by cases h
 | x::xs,_,n,hf,t,y,h=>by
  cases hf with
  | @cons _ v _ vs h1 h2=>
   rcases aaP.1 h with e|h
   ·injection e with e1 e2
    subst e1 e2;exact⟨v,by rw[aee];rfl,aaJ _,h1⟩
   ·obtain⟨v,q1,q2,q3⟩:=acY (n:=n+1) h2 t y h;refine⟨v,?_,by omega,q3⟩;rw[show t-n=t-(n+1)+1 by omega];exact q1
theorem E8 {l0:List (Nat×SS)} {G:cF l0→T XV} {w:World} {S:Nat→Prop} {xs:List XV} {vs:List Value} {r:XV} (hW:Wd w) (hS:∀b,S b→b<w.heap.size) (hx:F2 (XR [] w S) xs vs) (hr:(aU l0 G xs).hit r) (nC:∀x:cF l0,(dz l0 x).heap=[]:=by intro x;rfl) : ∃x:cF l0,(∀t y,(t,y)∈(dz l0 x).env→∃v,vs[t]?=some v∧XR [] w S y v)∧vs.length=l0.length∧(G x).hit r:=by
 unfold aU at hr;split at hr
 ·rename_i x ji;split at hr
  ·rename_i bG
   let cx:Cx:=⟨w,S,fun _=>False,[],[],wk0 hW⟩
   have hs:HS cx [] w S []:=⟨rfl,(fun _ _ _ h=>by cases h),(fun _ _ _ _ _ _ _ _ h=>by cases h),(fun _ _ _ _ h=>by cases h),fun b q=>⟨hS b q,.inl q⟩,fun _ h=>h,rfl,rfl,rfl,aaJ _,fun _ _ _=>rfl,fun _ _ h=>by cases h⟩;have he:ER vs.length [] w S (sa 0 xs) ⟨vs.toArray,[]⟩:=⟨rfl,by simp,fun t y hy=>by
    obtain⟨v,q1,_,q3⟩:=acY hx t y hy;exact⟨v,by simpa using q1,q3⟩⟩
   obtain⟨us,q1,q2⟩:=oi (cx:=cx) ji hs he;have hus:us=[]:=by
    have:=q1.len;rw[nC x] at this;exact aaS this
   subst hus;exact⟨x,(fun t y hy=>by
    obtain⟨v,q3,q4⟩:=q2.k t y hy;exact⟨v,by simpa using q3,q4⟩),(hx.length.symm.trans bG),hr⟩
  ·exact hr.elim
 ·exact hr.elim
theorem Bo {f:FuncId} {al:Bool} {l0:List (Nat×SS)} {G:cF l0→T XV} (h:∀(w:World) (S:Nat→Prop) (x:cF l0) (vs:List Value) (r:XV),Wd w→(∀b,S b→b<w.heap.size)→(∀t y,(t,y)∈(dz l0 x).env→∃v,vs[t]?=some v∧XR [] w S y v)→vs.length=l0.length→(G x).hit r→ Calls P f vs.toArray w fun e w'=>∃v S',e=.returned v∧Below w.heap.size w w'∧(∀b,S' b→(al=true∧S b)∨(w.heap.size≤b∧b<w'.heap.size))∧XR [] w' S' r v) (nC:∀x:cF l0,(dz l0 x).heap=[]:=by intro x;rfl):av P f al (aU l0 G):=fun w S _ vs r hW hS hx hr=>let ⟨x,h1,h2,h3⟩:=E8 hW hS hx hr nC;h w S x vs r hW hS h1 h2 h3
theorem gH {f:FuncId} {al:Bool} {l0:List (Nat×SS)} {G:cF l0→T XV} (h:∀(w:World) (S:Nat→Prop) (x:cF l0) (vs:List Value) (r:XV),(∀b,S b→b<w.heap.size)→(∀t y,(t,y)∈(dz l0 x).env→∃v,vs[t]?=some v∧XR [] w S y v)→vs.length=l0.length→(G x).hit r→ Calls P f vs.toArray w fun e w'=>∃v S',e=.returned v∧Below w.heap.size w w'∧(∀b,S' b→(al=true∧S b)∨(w.heap.size≤b∧b<w'.heap.size))∧XR [] w' S' r v) (nC:∀x:cF l0,(dz l0 x).heap=[]:=by intro x;rfl):av P f al (aU l0 G):=Bo (fun w S x vs r _=>h w S x vs r) nC
end
section
variable {P:Program} {ops:Array Oper} {Q:Exit→Act→World→Prop}
theorem nV {id:Nat} {a:Act} {W:World} (n r:Nat) (I:(Nat→Bool)→Act→World→Prop) (hm:P.follows .mixedOrders=true) (hb:nj (n+r) ops=true) (kJ:xw ops n (n+r)=true) (h0:I (fun _=>false) a W.drew) (dp:∀(Q':Exit→Act→World→Prop) d a w i,i<n→I d a w→d i=false→(∀j,n≤j→d j=false)→(∀k j,d k=true→waits ops k j=true→d j=true)→(∀j,waits ops i j=true→d j=true)→wpOp P ops Q' i (I (ky d i)) a w) (GM:∀d a w,I d a w→(∀j,j<n→d j=true)→Il P ops Q r n a w):(Code.region id ops true).wp P Q a W:=by
 have jM:=fO hb;refine yG (n+r) (fun d a' w'=>(∀i j,d i=true→waits ops i j=true→d j=true)∧ ((∃k s,n<k∧k+s=n+r∧(∀j,j<k→d j=true)∧(∀j,k≤j→d j=false)∧Il P ops Q s k a' w')∨((∀j,n≤j→d j=false)∧I d a' w'))) hm hb ⟨fun i j h=>by simp at h,.inr ⟨fun _ _=>rfl,h0⟩⟩ ?_ ?_
 ·intro d a' w' i hi hI pE hw;obtain⟨vn,hI⟩:=hI;have aay:∀k j,ky d i k=true→waits ops k j=true→ky d i j=true:=by
   intro k j hdk hkj;by_cases e:k=i
   ·subst e;have:=hw j hkj;by_cases e2:j=k
    ·subst e2;exact gP d j
    ·rw[bN d e2];exact this
   ·rw[bN d e] at hdk;have:=vn k j hdk hkj;by_cases e2:j=i
    ·subst e2;exact gP d j
    ·rw[bN d e2];exact this
  rcases hI with⟨k,s,hnk,hks,nU,vm,ht⟩|⟨vm,hI⟩
  ·have hik:i=k:=by
    rcases Nat.lt_trichotomy i k with h|h|h
    ·rw[nU i h] at pE;cases pE
    ·exact h
    ·have h1:=qx 9 i hw (fun q hq j=>vn q j hq) (qI kJ hi (by omega) h);rw[vm k (aaJ _)] at h1;cases h1
   subst hik;cases s with
   | zero=>omega
   | succ s=>
    refine wpOp_mono (fun a'' w'' h=>⟨aay,.inl ⟨i+1,s,by omega,by omega,fun j hj=>?_,fun j hj=>?_,h⟩⟩) ht
    ·by_cases e:j=i
     ·subst e;exact gP d j
     ·rw[bN d e];exact nU j (by omega)
    ·rw[bN d (show j≠i by omega)];exact vm j (by omega)
  ·by_cases dj:n≤i
   ·have Sy:i=n:=by
     rcases Nat.lt_or_ge n i with h|h
     ·have h1:=qx 9 i hw (fun q hq j=>vn q j hq) (qI kJ hi dj h);rw[vm n (aaJ _)] at h1;cases h1
     ·omega
    subst Sy;have eR:∀j,j<i→d j=true:=fun j hj=>qx 9 i hw (fun k hk j=>vn k j hk) (qI kJ hi (aaJ _) hj);obtain⟨r,rfl⟩:∃q,r=q+1:=⟨r-1,by omega⟩;refine wpOp_mono (fun a'' w'' h=>⟨aay,.inl ⟨i+1,r,by omega,by omega,fun j hj=>?_,fun j hj=>?_,h⟩⟩) (GM d a' w' hI eR)
    ·by_cases e:j=i
     ·subst e;exact gP d j
     ·rw[bN d e];exact eR j (by omega)
    ·rw[bN d (show j≠i by omega)];exact vm j (by omega)
   ·refine wpOp_mono (fun a'' w'' h=>⟨aay,.inr ⟨fun j hj=>?_,h⟩⟩) (dp Q d a' w' i (by omega) hI pE vm vn hw);rw[bN d (show j≠i by omega)];exact vm j hj
 ·intro d a' w' hI eR;obtain⟨_,hI⟩:=hI;rcases hI with⟨k,s,hnk,hks,nU,vm,ht⟩|⟨vm,hI⟩
  ·cases s with
   | zero=>exact ht
   | succ s=>
    have:=vm k (aaJ _);rw[eR k (by omega)] at this;cases this
  ·cases r with
   | zero=>exact GM d a' w' hI fun j hj=>eR j (by omega)
   | succ r=>
    have:=vm n (aaJ _);rw[eR n (by omega)] at this;cases this
end
def msk (o:Oper) (ew:List Nat):Nat:=o.after.toList.foldl (fun s e=>if Region.binds .any e then s||| 2^e.on||| ew.getD e.on 0 else s) 0
def xi:List Oper→List Nat→List Nat
 | [],ew=>ew
 | o::l,ew=>xi l (ew++[msk o ew])
def selB (ms:List Nat) (i j:Nat):Bool:=decide (j<i)&&(ms.getD i 0).testBit j
abbrev Rs:=List (Option (XV×Option ai))
def mC (ops:Array Oper) (kp:Nat→Bool) (dP:Env) (zm:Nat→Bool) (rs:Rs):Env:=
 ((List.range rs.length).filterMap fun j=>if zm j then match dL ops j,rs[j]? with
  | some t,some (some r)=>some (t,r.1)
  | _,_=>none else none)++dP.filter fun p=>kp p.1
def Lj (ops:Array Oper) (n:Nat) (d:Nat→Bool) (t:Nat):Bool:=(List.range n).all fun j=>!(dL ops j==some t)||!(d j)
def Ux (ops:Array Oper) (n:Nat) (ms:List Nat) (i t:Nat):Bool:=(List.range n).all fun j=>!(dL ops j==some t)||(ms.getD j 0).testBit i
def uV (rs:Rs) (j:Nat):ai:=match rs[j]? with
 | some (some (_,some x))=>x
 | _=>.dead
def lQ (H0:List ai) (n:Nat) (zm:Nat→Bool) (rs:Rs):List ai:=H0++(List.range n).map fun j=>if zm j then uV rs j else .dead
def aeI (ops:Array Oper) (i:Nat):Bool:=ops.toList.any fun o=>match o.guard with
 | some (j,_)=>j==i
 | none=>false
def SC (ops:Array Oper) (i:Nat) (o:Oper) (rs:Rs):Option Bool:=match o.guard with
 | none=>some true
 | some (j,want)=>if waits ops i j then match dL ops j,rs[j]? with
  | some _,some (some (.one (.val (.bool b)),_))=>some (b==want)
  | some _,some (some (.tup [],_))=>some false
  | _,_=>none else none
def uI {P:Program} (C:ik P) (ops:Array Oper) (n:Nat) (ms:List Nat) (dP:Env) (H0:List ai):List Oper→Rs→T Rs
 | [],rs=>.lf rs
 | o::l,rs=>match SC ops rs.length o rs with
  | some false=>uI C ops n ms dP H0 l (rs++[some (.tup [],none)])
  | some true=>(Xi C.ty C.D (H0.length+rs.length) (mC ops (Ux ops n ms rs.length) dP (selB ms rs.length) rs) (lQ H0 n (selB ms rs.length) rs) o).bind fun r=>match aeI ops rs.length,r with
   | true,(.one (.sym (.bool b)),none)=>.br b (uI C ops n ms dP H0 l (rs++[some (.one (.val (.bool true)),none)])) (uI C ops n ms dP H0 l (rs++[some (.one (.val (.bool false)),none)]))
   | _,r=>uI C ops n ms dP H0 l (rs++[some r])
  | none=>.bad
def WS (o:Oper):Bool:=match o.op with
 | .store ..=>true
 | .call { callee:=.builtin .append, .. }=>true
 | .mapUpdate ..=>true
 | .lookup ..=>true
 | _=>false
def ad4 (o:Oper):List Nat:=o.op.operands.toList.filterMap fun
 | .tmp t=>some t
 | _=>none
def EA {P:Program} (C:ik P):List Nat→List Oper→Nat
 | _,[]=>0
 | rd,o::l=>if WS o||C.eff o||(match o.dst with|some t=>rd.contains t|none=>false) then 0 else EA C (ad4 o++rd) l+1
def xU {P:Program} (C:ik P):List Oper→Nat
 | []=>0
 | o::l=>if WS o||C.eff o then 0 else xU C l+1
def Vk {P:Program} (C:ik P) (m:Nat) (ops:Array Oper) (n:Nat) (st:eu):T eu:=
 if P.follows .mixedOrders&&nj (n+(ops.size-n)) ops&&xw ops n (n+(ops.size-n))&&AC ops n m then
  (uI C ops n (xi (ops.toList.take n) []) st.env st.heap (ops.toList.take n) []).bind fun rs=>
   F5 C m ops (ops.toList.drop n) ⟨mC ops (tB ops n) st.env (fun _=>true) rs,lQ st.heap n (fun _=>true) rs⟩
 else .bad
section
variable {P:Program} {ops:Array Oper} {Q:Exit→Act→World→Prop} {C:ik P} {n m:Nat} {cx:Cx} {ms:List Nat} {dP:Env} {H0:List ai} {kp:Nat→Bool}
def Fl (ops:Array Oper) (ew:List Nat):Prop:=∀(i s:Nat),ew[i]?=some s→∀j,s.testBit j=true→∀d:Nat→Bool,(∀k q,d k=true→waits ops k q=true→d q=true)→(∀q,waits ops i q=true→d q=true)→d j=true
theorem MY {i:Nat} {o:Oper} (ho:ops[i]?=some o) {e:Edge} (he:e∈o.after.toList) (hb:Region.binds .any e=true):waits ops i e.on=true:=by
 unfold waits;rw[ho];simp only[acJ,abw,Array.any_eq_true',aaI,beq_iff_eq];exact⟨e,by simpa using he,hb,rfl⟩
theorem Y5 {ew:List Nat} (h:Fl ops ew) {i:Nat} {o:Oper} (ho:ops[i]?=some o) {j:Nat} (hj:(msk o ew).testBit j=true) (d:Nat→Bool) (hc:∀k q,d k=true→waits ops k q=true→d q=true) (hw:∀q,waits ops i q=true→d q=true):d j=true:=by
 unfold msk at hj;have key:∀(l:List Edge) (s:Nat),(∀e∈l,e∈o.after.toList)→(∀j,s.testBit j=true→d j=true)→∀j,(l.foldl (fun s e=>if Region.binds .any e then s||| 2^e.on||| ew.getD e.on 0 else s) s).testBit j=true→d j=true:=by
  intro l;induction l with
  | nil=>intro s _ hs j hj;exact hs j hj
  | cons e l ih=>
   intro s hl hs j hj;refine ih _ (fun e he=>hl e (aaN _ he)) (fun j hj=>?_) j hj;simp only at hj;split at hj
   ·rename_i hb;have hon:=hw _ (MY ho (hl e aaw) hb);rw[Nat.testBit_or,Nat.testBit_or,acs,acs] at hj;rcases hj with(hj|hj)|hj
    ·exact hs j hj
    ·rw[Nat.testBit_two_pow] at hj;have:e.on=j:=by simpa using hj
     rw[←this];exact hon
    ·cases hq:ew[e.on]? with
     | none=>rw[aai,hq] at hj;simp at hj
     | some q=>
      rw[aai,hq] at hj;exact h e.on q hq j hj d hc fun k hk=>hc _ k hon hk
   ·exact hs j hj
 exact key _ 0 (fun _ h=>h) (fun j hj=>by simp at hj) j hj
theorem BA:∀(l:List Oper) (ew:List Nat),Fl ops ew→(∀(k:Nat) (o:Oper),l[k]?=some o→ops[ew.length+k]?=some o)→Fl ops (xi l ew)
 | [],_,h,_=>h
 | o::l,ew,h,hl=>by
  refine BA l _ (fun i s hs j hj d hc hw=>?_) fun k o' hk=>?_
  ·by_cases hi:i<ew.length
   ·rw[aaz hi] at hs;exact h i s hs j hj d hc hw
   ·have Sy:i<ew.length+1:=by have:=(aag.1 hs).1;simpa using this
    obtain rfl:i=ew.length:=by omega
    rw[aam (aaJ _)] at hs;simp only[aee,acV,Option.some.injEq] at hs;subst hs;exact Y5 h (hl 0 o rfl) hj d hc hw
  ·rw[aaD,aaO,abZ,aci,adn (0+1)];exact hl (k+1) o' (by simpa using hk)
def nk (C:ik P) (ops:Array Oper) (n:Nat) (ms:List Nat) (dP:Env) (H0:List ai) (rs:Rs) (i:Nat):Prop:=
 ∃o,ops[i]?=some o∧((SC ops i o (rs.take i)=some false∧rs[i]?=some (some (.tup [],none)))∨
  (SC ops i o (rs.take i)=some true∧∃r0 r,(Xi C.ty C.D (H0.length+i) (mC ops (Ux ops n ms i) dP (selB ms i) (rs.take i)) (lQ H0 n (selB ms i) (rs.take i)) o).hit r0∧rs[i]?=some (some r)∧(r=r0∨∃b,r0=(.one (.sym (.bool b)),none)∧r=(.one (.val (.bool b)),none))))
theorem nk.more {rs:Rs} {i:Nat} (h:nk C ops n ms dP H0 rs i) (hi:i<rs.length) (x:Option (XV×Option ai)):nk C ops n ms dP H0 (rs++[x]) i:=by
 unfold nk at h ⊢;rw[acj (by omega),aaz hi];exact h
theorem Ep:∀(l:List Oper) (rs rs':Rs),(uI C ops n ms dP H0 l rs).hit rs'→(∀(k:Nat) (o:Oper),l[k]?=some o→ops[rs.length+k]?=some o)→(∀i,i<rs.length→nk C ops n ms dP H0 rs i)→rs'.length=rs.length+l.length∧∀i,i<rs'.length→nk C ops n ms dP H0 rs' i
 | [],rs,rs',h,_,hs=>by have h:rs=rs':=h;subst h;exact⟨rfl,hs⟩
 | o::l,rs,rs',h,hl,hs=>by
  have ho:=hl 0 o rfl;rw[ac7] at ho;have next:∀(x:Option (XV×Option ai)),(uI C ops n ms dP H0 l (rs++[x])).hit rs'→nk C ops n ms dP H0 (rs++[x]) rs.length→rs'.length=rs.length+(o::l).length∧∀i,i<rs'.length→nk C ops n ms dP H0 rs' i:=by
   intro x h hx;obtain⟨q1,q2⟩:=Ep l (rs++[x]) rs' h (fun k o' hk=>by
    rw[aaD,aaO,abZ,aci,adn (0+1)];exact hl (k+1) o' (by simpa using hk)) fun i hi=>by
     rw[aaD,aaO,abZ] at hi;by_cases e:i=rs.length
     ·rw[e];exact hx
     ·exact(hs i (by omega)).more (by omega) x
   refine⟨?_,q2⟩;rw[q1,aaD,aaO,abZ,aaO];omega
  have tY:∀x,(rs++[x]).take rs.length=rs:=fun x=>by rw[acj (aaJ _),List.take_length]
  have gS:∀x,(rs++[x])[rs.length]?=some x:=fun x=>by rw[aam (aaJ _)];simp
  unfold uI at h;split at h
  ·rename_i hg;exact next _ h ⟨o,ho,.inl ⟨by rw[tY];exact hg,gS _⟩⟩
  ·rename_i hg;obtain⟨r0,h1,h2⟩:=T.hit_bind h;split at h2
   ·rename_i b ua;cases b with
    | true=>exact next _ (h2.1 rfl) ⟨o,ho,.inr ⟨by rw[tY];exact hg,_,_,by rw[tY];exact h1,gS _,.inr ⟨true,rfl,rfl⟩⟩⟩
    | false=>exact next _ (h2.2 rfl) ⟨o,ho,.inr ⟨by rw[tY];exact hg,_,_,by rw[tY];exact h1,gS _,.inr ⟨false,rfl,rfl⟩⟩⟩
   ·exact next _ h2 ⟨o,ho,.inr ⟨by rw[tY];exact hg,_,_,by rw[tY];exact h1,gS _,.inl rfl⟩⟩
  ·exact h.elim
theorem jN {zm:Nat→Bool} {rs:Rs} {t:Nat} {x:XV} (h:(t,x)∈mC ops kp dP zm rs):(∃j r,j<rs.length∧zm j=true∧dL ops j=some t∧rs[j]?=some (some r)∧r.1=x)∨((t,x)∈dP∧kp t=true):=by
 rcases abW.1 h with h|h
 ·obtain⟨j,hj,h⟩:=ac3.1 h;left
  split at h
  ·rename_i hs;split at h
   ·rename_i t' r ht hr;injection h with h
    injection h with h1 h2
    subst h1 h2;exact⟨j,r,abX.1 hj,hs,ht,hr,rfl⟩
   ·cases h
  ·cases h
 ·right
  obtain⟨h1,h2⟩:=acO.1 h;exact⟨h1,h2⟩
theorem jD {zm:Nat→Bool} {rs:Rs} {t j:Nat} {r:XV×Option ai} (hj:j<rs.length) (hs:zm j=true) (ht:dL ops j=some t) (hr:rs[j]?=some (some r)):(t,r.1)∈mC ops kp dP zm rs:=by
 refine List.mem_append_left _ (ac3.2 ⟨j,abX.2 hj,?_⟩);rw[if_pos hs,ht,hr]
theorem mB {zm:Nat→Bool} {rs:Rs} {t:Nat} {x:XV} (h:(t,x)∈dP) (hn:kp t=true):(t,x)∈mC ops kp dP zm rs:=ac8 _ (acO.2 ⟨h,hn⟩)
theorem rW {d:Nat→Bool} {t:Nat}:Lj ops n d t=true↔∀j,j<n→dL ops j=some t→d j=false:=by
 unfold Lj;rw[aaR];constructor
 ·intro h j hj ht;have:=h j (abX.2 hj);rw[ht] at this;simpa using this
 ·intro h j hj;by_cases ht:dL ops j=some t
  ·rw[h j (abX.1 hj) ht];simp
  ·simp[ht]
theorem Uw {i t:Nat}:Ux ops n ms i t=true↔∀j,j<n→dL ops j=some t→(ms.getD j 0).testBit i=true:=by
 unfold Ux;rw[aaR];constructor
 ·intro h j hj ht;have:=h j (abX.2 hj);rw[ht] at this;simpa using this
 ·intro h j hj;by_cases ht:dL ops j=some t
  ·rw[h j (abX.1 hj) ht];simp
  ·simp[ht]
theorem Jb {d:Nat→Bool} {t:Nat} (h:tB ops n t=true):Lj ops n d t=true:=rW.2 fun _ hj ht=>absurd ht (DD h hj)
theorem WR {i t:Nat} (BQ:Fl ops ms) (Sw:ms.length=n) {d:Nat→Bool} (pE:d i=false) (hc:∀k q,d k=true→waits ops k q=true→d q=true) (h:Ux ops n ms i t=true):Lj ops n d t=true:=rW.2 fun j hj ht=>by
 cases qL:d j with
 | false=>rfl
 | true=>
  have h1:=Uw.1 h j hj ht;have hjm:j<ms.length:=by omega
  rw[aai,aae hjm] at h1;have:=BQ j _ (aae hjm) i h1 d hc fun q hq=>hc j q qL hq;rw[pE] at this;cases this
theorem Ja {d:Nat→Bool} {i t:Nat} (hi:i<n) (h:Lj ops n (ky d i) t=true) (pE:d i=false):Lj ops n d t=true∧dL ops i≠some t:=by
 refine⟨rW.2 fun j hj ht=>?_,fun ht=>?_⟩
 ·by_cases e:j=i
  ·rw[e];exact pE
  ·have:=rW.1 h j hj ht
   rwa [bN d e] at this
 ·have:=rW.1 h i hi ht;rw[gP] at this;cases this
theorem je {zm:Nat→Bool} {rs:Rs}:(lQ H0 n zm rs).length=H0.length+n:=by simp[lQ]
theorem mA {zm:Nat→Bool} {rs:Rs} {j:Nat} (hj:j<n):(lQ H0 n zm rs)[H0.length+j]?=some (if zm j then uV rs j else .dead):=by
 unfold lQ;rw[aam (by omega),abK,acz,acT hj];rfl
theorem uf {zm:Nat→Bool} {rs:Rs} {i:Nat} (hi:i<H0.length):(lQ H0 n zm rs)[i]?=H0[i]?:=by
 unfold lQ;rw[aaz hi]
def DI (m:Nat) (cx:Cx) (ops:Array Oper) (n:Nat) (dP:Env) (H0:List ai) (rs:Rs) (d:Nat→Bool) (a:Act) (w:World):Prop:=
 ∃bs S,HS cx bs w S (lQ H0 n d rs)∧(∀j,j<n→d j=false→bs[H0.length+j]?=some undef)∧ER m bs w S (mC ops (Lj ops n d) dP d rs) a
theorem rH {rs:Rs} {i:Nat} (h:rs[i]?=some none∨∃x,rs[i]?=some (some (x,none))):uV rs i=.dead:=by
 unfold uV;rcases h with h|⟨x,h⟩<;>rw[h]
theorem xS {d:Nat→Bool} {rs:Rs} {i:Nat} (hi:i<n) (_:d i=false):lQ H0 n (ky d i) rs=(lQ H0 n d rs).set (H0.length+i) (uV rs i):=by
 apply acy;intro k;by_cases e:H0.length+i=k
 ·subst e;rw[aaQ (by rw[je];omega),mA hi,gP];rfl
 ·rw[aaK e];by_cases hk:k<H0.length
  ·rw[uf hk,uf hk]
  ·by_cases hZ:k<H0.length+n
   ·obtain⟨j,rfl⟩:∃j,k=H0.length+j:=⟨k-H0.length,by omega⟩;rw[mA (by omega),mA (by omega),bN d (by omega)]
   ·rw[abN (by rw[je];omega),abN (by rw[je];omega)]
theorem DI.step {rs:Rs} (bG:rs.length=n) (_:n≤ops.size) (fb:∀i,i<n→nk C ops n ms dP H0 rs i) (BQ:Fl ops ms) (Sw:ms.length=n) (mz:AC ops n m=true) (uH:∀(i j:Nat),waits ops i j=true→j<i) {Q':Exit→Act→World→Prop} {d:Nat→Bool} {a:Act} {w:World} {i:Nat} (hi:i<n) (h:DI m cx ops n dP H0 rs d a w) (pE:d i=false) (_:∀j,n≤j→d j=false) (hc:∀k q,d k=true→waits ops k q=true→d q=true) (hw:∀q,waits ops i q=true→d q=true) : wpOp P ops Q' i (DI m cx ops n dP H0 rs (ky d i)) a w:=by
 obtain⟨bs,S,hs,hu,he⟩:=h;obtain⟨o,ho,Qk⟩:=fb i hi;have yD:bs.length=H0.length+n:=by rw[hs.len,je]
 have xJ:∀t,dL ops i=some t→t<m:=fun t ht=>(m5 mz hi ht).1;have WX:o.dst=dL ops i:=by unfold dL;rw[ho];rfl
 have tZ:∀(v:Value) t,dL ops i≠some t→(a.put o.dst v).tmps[t]?=a.tmps[t]?:=by
  intro v t hx;rw[WX];cases e:dL ops i with
  | none=>rfl
  | some q=>
   have fG:q≠t:=fun e2=>hx (by rw[e,e2]);show(a.tmps.setIfInBounds q v)[t]?=_;rw[acP fG]
 have sj:∀v:Value,(a.put o.dst v).tmps.size=m∧(a.put o.dst v).defers=[]:=by
  intro v;cases o.dst with
  | none=>exact⟨he.s,he.d⟩
  | some q=>exact⟨by show(a.tmps.setIfInBounds q v).size=m;rw[Array.size_setIfInBounds];exact he.s,he.d⟩
 have xL:∀t x,(t,x)∈mC ops (Lj ops n (ky d i)) dP (ky d i) rs→((t,x)∈mC ops (Lj ops n d) dP d rs∧dL ops i≠some t)∨(dL ops i=some t∧∃r,rs[i]?=some (some r)∧r.1=x):=by
  intro t x hx;rcases jN hx with⟨j,r,hj,fV,ht,hr,hrx⟩|⟨h1,hn⟩
  ·by_cases e:j=i
   ·subst e;exact .inr ⟨ht,r,hr,hrx⟩
   ·rw[bN d e] at fV;subst hrx;exact .inl ⟨jD hj fV ht hr,fun e2=>JB mz hi (by omega) (fun e3=>e e3.symm) t e2 ht⟩
  ·obtain⟨k1,k2⟩:=Ja hi hn pE;exact .inl ⟨mB h1 k1,k2⟩
 have xH:∀{c:Bool},SC ops i o (rs.take i)=some c→Region.wanted o (yielded ops a.tmps)=c:=by
  intro c hg;unfold SC at hg;split at hg
  ·rename_i ua;injection hg with hg
   subst hg;simp[Region.wanted,ua]
  ·rename_i j want ua;split at hg
   ·rename_i Si;split at hg
    ·rename_i t b _ ht hr;injection hg with hg
     subst hg;have P1:=uH i j Si;rw[acm,if_pos P1] at hr;obtain⟨v,hv,hx⟩:=he.k t _ (jD (by omega) (hw j Si) ht hr);obtain⟨rfl,_⟩:=hx;exact oX ua ht hv
    ·rename_i t _ ht hr;injection hg with hg
     subst hg;have P1:=uH i j Si;rw[acm,if_pos P1] at hr;obtain⟨v,hv,vs,e1,e2⟩:=he.k t _ (jD (by omega) (hw j Si) ht hr);cases e2
     exact tp ua ht (by rw[hv,e1];rfl)
    ·cases hg
   ·cases hg
 rcases Qk with⟨hg,hr⟩|⟨hg,r0,r,akD,hr,UL⟩
 ·
  have Ed:=xH hg;unfold wpOp;rw[ho];simp only[Ed,abs,if_false];have pD:uV rs i=.dead:=rH (.inr ⟨_,hr⟩);refine⟨bs,S,?_,fun j hj qL=>hu j hj ?_,(sj undef).2,(sj undef).1,fun t x hx=>?_⟩
  ·rw[xS hi pE,pD];refine hs.mask (by simp) fun k x hx=>?_;by_cases e:H0.length+i=k
   ·subst e;rw[aaQ (by rw[je];omega)] at hx;exact .inl (aal hx).symm
   ·rw[aaK e] at hx;exact .inr hx
  ·by_cases e:j=i
   ·subst e;exact pE
   ·rw[bN d e] at qL;exact qL
  ·rcases xL t x hx with⟨hx,fG⟩|⟨ht,r,PK,hrx⟩
   ·obtain⟨v,q1,q2⟩:=he.k t x hx;exact⟨v,(tZ undef t fG).trans q1,q2⟩
   ·rw[hr] at PK;obtain rfl:=aal (aal PK);subst hrx;refine⟨undef,?_,[],rfl,.nil⟩;rw[WX,ht];show(a.tmps.setIfInBounds t undef)[t]?=_;exact acc (by rw[he.s];exact xJ t ht)
 ·have Ed:=xH hg;have GC:∀j,selB ms i j=true→j<i∧d j=true:=by
   intro j hj;unfold selB at hj;rw[aaI,decide_eq_true_eq] at hj;refine⟨hj.1,?_⟩;have him:i<ms.length:=by rw[Sw];exact hi
   have xG:=hj.2;rw[aai,aae him] at xG;exact BQ i _ (aae him) j xG d hc hw
  have Ee:∀j,j<i→(rs.take i)[j]?=rs[j]?:=fun j hj=>by rw[acm,if_pos hj]
  have afc:∀j,j<i→uV (rs.take i) j=uV rs j:=fun j hj=>by unfold uV;rw[Ee j hj]
  have hsm:HS cx bs w S (lQ H0 n (selB ms i) (rs.take i)):=by
   refine hs.mask (by rw[je,je]) fun k x hx=>?_;by_cases hk:k<H0.length
   ·rw[uf hk] at hx ⊢;exact .inr hx
   ·have hZ:k<H0.length+n:=by have:=(aag.1 hx).1;rw[je] at this;exact this
    obtain⟨j,rfl⟩:∃j,k=H0.length+j:=⟨k-H0.length,by omega⟩;rw[mA (by omega)] at hx;rw[mA (by omega)];split at hx
    ·rename_i hsj;obtain⟨q1,q2⟩:=GC j hsj;rw[q2,afc j q1] at*;exact .inr hx
    ·exact .inl (aal hx).symm
  have hem:ER m bs w S (mC ops (Ux ops n ms i) dP (selB ms i) (rs.take i)) a:=by
   refine⟨he.d,he.s,fun t x hx=>?_⟩;rcases jN hx with⟨j,q,hj,fV,ht,hq,rfl⟩|⟨h1,hn⟩
   ·obtain⟨q1,q2⟩:=GC j fV;rw[Ee j q1] at hq;exact he.k t _ (jD (by omega) q2 ht hq)
   ·exact he.k t x (mB h1 (WR BQ Sw pE hc hn))
  have vk:=B6 C.isP hsm hem akD;refine vZ ho Ed (vk _ _ fun v w' S' u hb hS hn hx hf=>?_);have fV:=hs.grow hb hS hn;have heg:∀bn,jB bs bn→XR bn w' S' r0.1 v→ER m bn w' S' (mC ops (Lj ops n (ky d i)) dP (ky d i) rs) (a.put o.dst v):=by
   intro bn ha ji;refine⟨(sj v).2,(sj v).1,fun t x hx=>?_⟩;rcases xL t x hx with⟨hx,fG⟩|⟨ht,r',j4,rfl⟩
   ·obtain⟨z,q1,q2⟩:=he.k t x hx;exact⟨z,(tZ v t fG).trans q1,q2.keep hS ((aA.of_below hb).sub fun b q=>(hs.s b q).1) ha⟩
   ·rw[hr] at j4;obtain rfl:=aal (aal j4);refine⟨v,?_,?_⟩
    ·rw[WX,ht];show(a.tmps.setIfInBounds t v)[t]?=_;exact acc (by rw[he.s];exact xJ t ht)
    ·rcases UL with rfl|⟨b,e1,e2⟩
     ·exact ji
     ·rw[e1] at ji;rw[e2];exact⟨ji.1,rfl⟩
  have hun:bs[H0.length+i]?=some undef:=hu i hi pE;cases PG:r0.2 with
  | none=>
   have aj6:r.2=none:=by
    rcases UL with rfl|⟨b,_,e2⟩
    ·exact PG
    ·rw[e2]
   have pD:uV rs i=.dead:=rH (.inr ⟨r.1,by rw[hr,←aj6]⟩);obtain⟨UD,_⟩:=hx bs (jB.refl _) (by rw[PG];intro h;cases h);refine⟨bs,S',?_,fun j hj qL=>hu j hj ?_,heg bs (jB.refl _) UD⟩
   ·rw[xS hi pE,pD];refine fV.mask (by simp) fun k x hx=>?_;by_cases e:H0.length+i=k
    ·subst e;rw[aaQ (by rw[je];omega)] at hx;exact .inl (aal hx).symm
    ·rw[aaK e] at hx;exact .inr hx
   ·by_cases e:j=i
    ·subst e;exact pE
    ·rw[bN d e] at qL;exact qL
  | some x=>
   have hrx:r=r0:=by
    rcases UL with h|⟨b,e1,_⟩
    ·exact h
    ·rw[e1] at PG;cases PG
   have pD:uV rs i=x:=by
    unfold uV;rw[hr,hrx];obtain⟨r1,r2⟩:=r0;have PG:r2=some x:=PG;subst PG;rfl
   have GI:H0.length+i<bs.length:=by omega
   have xM:jB bs (bs.set (H0.length+i) u):=fun q z hq hz=>by
    rw[aaK (fun e=>by subst e;rw[hun] at hq;injection hq with hq;subst hq;cases hz)];exact hq
   obtain⟨UD,Cw⟩:=hx (bs.set (H0.length+i) u) xM fun _=>by rw[aaQ GI]
   have nC:=hf x PG;have afA:(lQ H0 n d rs)[H0.length+i]?=some .dead:=by rw[mA hi,pE];rfl
   have j5:=fV.fill (x:=x) (v:=u) afA hun rfl (Cw x PG) fun b gD=>⟨.inl (aaM hs.size (nC b gD).1),(nC b gD).2,fun k z q hz hq e=>by
    have:=(hs.o k z q hz hq).lt e;have:=(nC b gD).1;omega⟩
   refine⟨bs.set (H0.length+i) u,S',?_,fun j hj qL=>?_,heg _ xM UD⟩
   ·rw[xS hi pE,pD];exact j5
   ·by_cases e:j=i
    ·subst e;rw[gP] at qL;cases qL
    ·rw[bN d e] at qL;rw[aaK (by omega)];exact hu j hj qL
theorem HS.pads {bs:List Value} {w:World} {S:Nat→Prop} {H:List ai} (h:HS cx bs w S H):∀n,HS cx (bs++List.replicate n undef) w S (H++List.replicate n .dead)
 | 0=>by simpa using h
 | n+1=>by
  have:=(HS.pads h n).pad;rw[abP,abP,←ade,←ade] at this;exact this
theorem LP {rs:Rs}:lQ H0 n (fun _=>false) rs=H0++List.replicate n .dead:=by
 unfold lQ;congr 1
 apply acy;intro i;by_cases hi:i<n
 ·rw[acz,acT hi,acW,if_pos hi];rfl
 ·rw[abN (by simp;omega),abN (by simp;omega)]
theorem vA {dK:eu}:∀(l:List Oper) (i:Nat) {st:eu} {a:Act} {w:World},ops.toList.drop i=l→(F5 C m ops l st).hit dK→fJ m cx st a w→(∀a' w',fJ m cx dK a' w'→Q .normal a' w')→Il P ops Q l.length i a w
 | [],i,st,a,w,_,h,cA,hQ=>by
  have h:st=dK:=h;subst h;exact hQ a w cA
 | o::l,i,st,a,w,hl,h,cA,hQ=>by
  obtain⟨st1,h1,h2⟩:=T.hit_bind h;have ho:ops[i]?=some o:=by
   have:=congrArg (fun l:List Oper=>l[0]?) hl;simp only[acl,ac7,acV,Array.getElem?_toList] at this;exact this
  have yW:ops.toList.drop (i+1)=l:=by
   rw[←adW,hl];rfl
  exact Qv ho h1 cA (fun st q1 q2=>NE q1 q2 fun a' w' q=>vA l (i+1) yW h2 q hQ) fun a' w' q=>vA l (i+1) yW h2 q hQ
theorem QO {id:Nat} {st dK:eu} {a:Act} {w:World} {n:Nat} (h:(Vk C m ops n st).hit dK) (cA:fJ m cx st a w) (hQ:∀a' w',fJ m cx dK a' w'→Q .normal a' w'):(Code.region id ops true).wp P Q a w:=by
 unfold Vk at h;split at h
 ·rename_i hc;simp only[aaI] at hc;obtain⟨⟨⟨hm,hb⟩,kJ⟩,mz⟩:=hc;obtain⟨rs,h1,h2⟩:=T.hit_bind h;have jM:=fO hb;have GI:n≤ops.size:=by omega
  have Fv:(ops.toList.take n).length=n:=by rw[acb,abM];omega
  have gS:∀(k:Nat) (o:Oper),(ops.toList.take n)[k]?=some o→ops[k]?=some o:=fun k o hk=>by
   rw[acm] at hk;split at hk
   ·simpa using hk
   ·cases hk
  obtain⟨q1,q2⟩:=Ep _ [] rs h1 (fun k o hk=>by rw[abZ,ab7];exact gS k o hk) fun i hi=>absurd hi (Nat.not_lt_zero _);rw[abZ,ab7,Fv] at q1;have BQ:Fl ops (xi (ops.toList.take n) []):=BA _ [] (fun i s hs=>by cases hs) fun k o hk=>by rw[abZ,ab7];exact gS k o hk
  have Sw:∀(l:List Oper) (ew:List Nat),(xi l ew).length=ew.length+l.length:=by
   intro l;induction l with
   | nil=>intro ew;rfl
   | cons o l ih=>intro ew;show(xi l _).length=_;rw[ih,aaD,aaO,abZ,aaO];omega
  have uH:∀(i j:Nat),waits ops i j=true→j<i:=by
   intro i j hw;unfold waits at hw;cases ho:ops[i]? with
   | none=>rw[ho] at hw;cases hw
   | some o=>
    rw[ho] at hw;simp only[acJ,abw,Array.any_eq_true',aaI,beq_iff_eq] at hw;obtain⟨e,he,hbi,rfl⟩:=hw;exact oP hb ho e he hbi
  refine nV n (ops.size-n) (DI m cx ops n st.env st.heap rs) hm hb kJ ?_ (fun Q' d a w i hi hI pE vm hc hw=>DI.step q1 GI (fun i hi=>q2 i (by omega)) BQ (by rw[Sw,abZ,ab7,Fv]) mz uH hi hI pE vm hc hw) fun d a w hI eR=>?_
  ·obtain⟨bs,S,hs,he⟩:=cA;have hd:Below w.heap.size w w.drew:=(Below.refl _ _).drew;refine⟨bs++List.replicate n undef,S,by rw[LP];exact(hs.grow hd (fun _ h=>h) fun _ h=>.inl h).pads n,fun j hj _=>?_,he.d,he.s,fun t x hx=>?_⟩
   ·rw[←hs.len,aam (by omega),abK,acW,if_pos hj]
   ·rcases jN hx with⟨j,r,_,h,_⟩|⟨h1,_⟩
    ·cases h
    ·obtain⟨v,k1,k2⟩:=he.k t x h1;exact⟨v,k1,k2.keep (fun _ h=>h) (fun _ _=>rfl) fun o u hu _=>by rw[aaz (aag.1 hu).1];exact hu⟩
  ·obtain⟨bs,S,hs,_,he⟩:=hI;have nA:fJ m cx ⟨mC ops (tB ops n) st.env (fun _=>true) rs,lQ st.heap n (fun _=>true) rs⟩ a w:=by
    refine⟨bs,S,?_,he.d,he.s,fun t x hx=>he.k t x ?_⟩
    ·have:lQ st.heap n (fun _=>true) rs=lQ st.heap n d rs:=by
      unfold lQ;congr 1
      apply List.map_congr_left;intro j hj;rw[eR j (abX.1 hj)]
     show HS cx bs w S (lQ st.heap n (fun _=>true) rs);rw[this];exact hs
    ·rcases jN hx with⟨j,r,hj,_,ht,hr,rfl⟩|⟨k1,k2⟩
     ·exact jD hj (eR j (by omega)) ht hr
     ·exact mB k1 (Jb k2)
   have:=vA (C:=C) (Q:=Q) (cx:=cx) (ops.toList.drop n) n rfl h2 nA hQ
   rwa [acv,abM] at this
 ·exact h.elim
end
end Go.Proofs.YtdbpbfglhbiadaaGreatDoor
