/- MFn MPure MDrw -/
import Derived.Test.YtichkplomldgiaaGreatDoorJ21
set_option maxHeartbeats 4000000
set_option maxRecDepth 100000
namespace Go.Proofs.YtichkplomldgiaaGreatDoor
open Go Go.RowKit
inductive LE (l lo lr:List (Nat×SS)) where
 | back (x:aG l)
 | out (y:aG lo)
 | ret (r:XV) (z:aG lr)
section
variable {P:Program} {m:Nat} {loops:List Code} (R:Rg P m) (L:oX P R.fn m R.pb loops)
def NL (n k d:Nat) (b:Code) (l lo lr:List (Nat×SS)) (x:aG l):T (LE l lo lr):=(run R L n [.code (k+1) b] (bB l x)).bind λq=>match q with
 | .nrm st=>T.op ((jp R.pb l st).map .back)
 | .ext id st=>if id=d then T.op ((jp R.pb lo st).map .out) else .bad
 | .ret r st=>T.op ((jp R.pb lr st).map (.ret r))
def Sx (pb:List Nat) (d:Nat) (l lo lr:List (Nat×SS)) (G:aG l->T (LE l lo lr)) (st:bT):T Lf:=match jp pb l st with
 | some x=>(G x).bind λq=>match q with
  | .back _=>.bad
  | .out y=>.lf (.ext d (bB lo y))
  | .ret r z=>.lf (.ret r (bB lr z))
 | none=>.bad
theorem Nq.nrm {fn:Func} {cx:Cx} {r:XV} {st:bT} {a:Act} {w:World} {l:List (Nat×SS)} {z:aG l} (h:Nq P fn m cx r st a w) (hr:jp cx.pb l st=some z):Nq P fn m cx r (bB l z) a w:=by
 obtain⟨bs,S,S',hs,he,q⟩:=h;obtain⟨us,q1,q2⟩:=iI hr hs he;exact⟨us,S,S',q1,q2,q⟩
theorem PH {n k d:Nat} {b:Code} {l lo lr:List (Nat×SS)} {G:aG l->T (LE l lo lr)} (μ:aG l->Nat) (hk:∀j x,(eZ b)[j]?=some x->loops[k+1+j]?=some x) (iO:∀x r,xe l x->(G x).hit r->∃q,(NL R L n k d b l lo lr x).hit q/\match q with|.back x'=>μ x'<μ x/\(G x').hit r|q=>q=r):sN P R.fn m R.pb (.loop b) (Sx R.pb d l lo lr G):=by
 intro cx st a w lf jl h aY;unfold Sx at h;split at h
 ·rename_i x hx;obtain⟨r,h1,h2⟩:=T.hit_bind h;rw[<-jl] at hx;have aY:=mj hx aY;refine wp_loop_ghost (λj a w=>∃x,j=μ x/\(G x).hit r/\cP m cx (bB l x) a w) (μ x) ⟨x,rfl,h1,aY⟩ ?_;rintro j a1 w1 ⟨x1,rfl,g1,s1⟩;obtain⟨q,q1,q2⟩:=iO x1 r (Fl s1) g1;obtain⟨lf',p1,p2⟩:=T.hit_bind q1;refine wp_mono (qz jl p1 s1 hk) λe a2 w2 he=>?_;cases e with
  | normal=>
   obtain⟨bG,rfl,s2⟩:=he;have p2:=T.hit_op p2;cases e2:jp R.pb l bG with
   | none=>rw[e2] at p2;cases p2
   | some y=>
    rw[e2] at p2;injection p2 with p2
    subst p2;rw[<-jl] at e2;exact⟨μ y,q2.1,y,rfl,q2.2,mj e2 s2⟩
  | exit id=>
   obtain⟨bG,rfl,s2⟩:=he;simp only at p2;split at p2
   ·rename_i e3;subst e3;have p2:=T.hit_op p2;cases e2:jp R.pb lo bG with
    | none=>rw[e2] at p2;cases p2
    | some y=>
     rw[e2] at p2;injection p2 with p2
     subst p2;have q2:LE.out y=r:=q2;subst q2;have h2:Lf.ext id (bB lo y)=lf:=h2;rw[<-jl] at e2;exact⟨_,h2,mj e2 s2⟩
   ·exact p2.elim
  | ret=>
   obtain⟨r',bG,rfl,s2⟩:=he;have p2:=T.hit_op p2;cases e2:jp R.pb lr bG with
   | none=>rw[e2] at p2;cases p2
   | some y=>
    rw[e2] at p2;injection p2 with p2
    subst p2;have q2:LE.ret r' y=r:=q2;subst q2;have h2:Lf.ret r' (bB lr y)=lf:=h2;rw[<-jl] at e2;exact⟨_,_,h2,s2.nrm e2⟩
  | _=>exact he.elim
 ·exact h.elim
end
def noL (P:Program) (fn:Func) (m:Nat) (pb:List Nat) (loops:List Code):oX P fn m pb loops:=⟨λ_=>none,λ_ _ _ h=>by cases h⟩
def oX.add {P:Program} {fn:Func} {m:Nat} {pb:List Nat} {loops:List Code} (L:oX P fn m pb loops) (k:Nat) (g:bT->T Lf) (h:∀c,loops[k]?=some c->sN P fn m pb c g):oX P fn m pb loops:=
 ⟨λi=>if i=k then some g else L.f i,λi g' c hf hc=>by
  by_cases e:i=k
  ·rw[if_pos e] at hf;injection hf with hf;subst hf e;exact h c hc
  ·rw[if_neg e] at hf;exact L.ok i g' c hf hc⟩
def kA:Nat->List XV->Env
 | _,[]=>[]
 | n,x::l=>(n,x)::kA (n+1) l
def CN (P:Program) (H:List aa) (env:Env):ResultVar->Option XV
 | .tmp t=>env.lookup t
 | .cell t ty=>LC P H ty (env.lookup t)
def CO (P:Program) (H:List aa) (env:Env):List ResultVar->Option (List XV)
 | []=>some []
 | x::l=>match CN P H env x,CO P H env l with
  | some y,some r=>some (y::r)
  | _,_=>none
def XV.comp:XV->Option (Bool×List AV)
 | .one a=>some (false,[a])
 | .agg cs=>some (true,cs)
 | .tup _=>none
def uy:List XV->Option (List (Bool×List AV))
 | []=>some []
 | x::l=>match x.comp,uy l with
  | some y,some r=>some (y::r)
  | _,_=>none
def KW (P:Program) (ty:TypeId->Option Ty) (fn:Func) (vw:Bool) (st:bT):Option XV:=match CO P st.heap st.env fn.results.toList with
 | none=>none
 | some l=>match l.map (λx=>if vw then iD ty st.heap x else x) with
  | [x]=>if x.free then some x else none
  | l=>(uy l).bind λcs=>if(XV.tup cs).free then some (.tup cs) else none
section
variable {P:Program} {fn:Func} {cx:Cx} {bs:List Value} {w:World} {S:Nat->Prop} {H:List aa} {m:Nat} {env:Env} {a:Act}
theorem H7 (hs:HS cx bs w S H) {t:TypeId} {x:Option XV} {v:Value} (hx:∀y,x=some y->XR bs w S y v) {y:XV} (h:LC P H t x=some y):∃u,(do loadVar t (<-asAddr v):Sem Value).run P w=.ok u w/\XR bs w S y u:=by
 cases x with
 | none=>unfold LC at h;cases hq:LD P t<;>rw[hq] at h<;>cases h
 | some z=>
  unfold LC at h;split at h
  ·rename_i q b hq hz;injection hz with hz
   subst hz;cases e:mD H b with
   | none=>rw[e] at h;cases h
   | some cs=>
    rw[e] at h;have h:JV q (cs.take q.2)=some y:=h;obtain⟨ad,vs,hv,hc,hf⟩:=oj hs e (hx _ rfl);subst hv;have rX:=hf.take q.2;have Ms:=hc.take q.2;have hl:=rX.length;unfold JV at h;split at h
    ·rename_i hlen;rw[hlen] at hl;unfold LD at hq;split at hq
     ·rename_i Ev;cases hi:P.info? t with
      | none=>rw[hi] at hq;cases hq
      | some i=>
       rw[hi] at hq;injection hq with hq
       subst hq;simp only[if_true] at h;injection h with h
       subst h;refine⟨_,?_,CR.agg rX⟩;have hl:=JR Ms Ev (by rw[hi];exact congrArg some hl);simpa[Instr.loadAt,Instr.sureAddr,asAddr,Sem.run_bind] using hl
     ·rename_i Ev;injection hq with hq
      subst hq;simp only[Bool.false_eq_true,if_false] at h;split at h
      ·rename_i b' hb;injection h with h
       subst h;rw[hb] at rX;cases Im:vs.take 1 with
       | nil=>rw[Im] at rX;cases rX
       | cons u r=>
        rw[Im] at rX Ms;cases rX with
        | cons h1 h2=>
         refine⟨u,?_,h1⟩;have h0:=Ms 0 u rfl;have:ad.add 0=ad:=by unfold Addr.add;simp
         rw[this] at h0;have hl:=JS (P:=P) (t:=t) h0 Ev;simpa[Instr.loadAt,Instr.sureAddr,asAddr,Sem.run_bind] using hl
      ·cases h
     ·cases hq
    ·cases h
  ·cases h
theorem zP (hs:HS cx bs w S H) (he:ER m bs w S env a) {x:ResultVar} {y:XV} (h:CN P H env x=some y):∃v,(match x with|.tmp t=>pure (a.tmps.getD t undef)|.cell t ty=>do loadVar ty (<-asAddr (a.tmps.getD t undef)):Sem Value).run P w=.ok v w/\XR bs w S y v:=by
 cases x with
 | tmp t=>exact⟨_,rfl,ly he h⟩
 | cell t ty=>exact H7 hs (λy hy=>ly he hy) h
theorem xG (hs:HS cx bs w S H) (he:ER m bs w S env a):∀{l:List ResultVar} {r:List XV},CO P H env l=some r->∃vs,(l.mapM λx=>(match x with|.tmp t=>pure (a.tmps.getD t undef)|.cell t ty=>do loadVar ty (<-asAddr (a.tmps.getD t undef)):Sem Value)).run P w=.ok vs w/\F2 (XR bs w S) r vs
 | [],r,h=>by injection h with h;subst h;exact⟨[],rfl,.nil⟩
 | x::l,r,h=>by
  unfold CO at h;split at h
  ·rename_i y r' h1 h2;injection h with h
   subst h;obtain⟨v,q1,q2⟩:=zP hs he h1;obtain⟨vs,q3,q4⟩:=xG hs he h2;refine⟨v::vs,?_,.cons q2 q4⟩;rw[List.mapM_cons];simp only[Sem.run_bind,q1,Result.andThen_ok,q3,Sem.run_pure]
  ·cases h
theorem ux:∀{l:List XV} {cs:List (Bool×List AV)} {vs:List Value},uy l=some cs->F2 (XR bs w S) l vs->F2 (λp v=>CR bs w S p.1 p.2 v) cs vs
 | [],_,_,h,hf=>by cases hf;injection h with h;subst h;exact .nil
 | x::l,_,_,h,hf=>by
  cases hf with
  | cons h1 h2=>
   unfold uy at h;split at h
   ·rename_i y r hy hr;injection h with h
    subst h;refine .cons ?_ (ux hr h2);cases x with
    | one b=>injection hy with hy;subst hy;exact⟨b,rfl,h1⟩
    | agg cs=>injection hy with hy;subst hy;exact h1
    | tup l=>cases hy
   ·cases h
theorem GC {cx:Cx} {st:bT} {a:Act} {w:World} {r:XV} {vw:Bool} {ty:TypeId->Option Ty} (Y9:cx.pb=[]\/vw=false) (h:KW P ty fn vw st=some r) (aY:cP m cx st a w):Nq P fn m cx r st a w:=by
 obtain⟨bs,S,hs,he⟩:=aY;unfold KW at h;cases e:CO P st.heap st.env fn.results.toList with
 | none=>rw[e] at h;cases h
 | some l=>
  rw[e] at h;obtain⟨vs,q1,q2⟩:=xG hs he e;have N9:∀b,wY bs st.heap S b->(cx.S0 b\/cx.w0.heap.size<=b\/cx.M b)/\b<w.heap.size:=λb hb=>by
   rcases hb with hb|⟨i,x,v,h1,h2,h3⟩
   ·exact⟨(hs.s b hb).2,(hs.s b hb).1⟩
   ·exact⟨.inr (hs.nw i x v b h1 h2 h3).1,(hs.o i x v h1 h2).lt h3⟩
  have key:∃S',(∀b,S' b->(cx.S0 b\/cx.w0.heap.size<=b\/cx.M b)/\b<w.heap.size)/\(vw=true\/∀b,S' b->S b)/\F2 (XR bs w S') (l.map (λx=>if vw then iD ty st.heap x else x)) vs:=by
   cases vw with
   | true=>exact⟨_,N9,.inl rfl,q2.mapL λx _ v hv=>sY hs hv⟩
   | false=>exact⟨S,λb hb=>⟨(hs.s b hb).2,(hs.s b hb).1⟩,.inr λ_ h=>h,by simpa using q2⟩
  obtain⟨S',k1,k2,k3⟩:=key;have kC:∀v,(v=if h:vs.toArray.size=1 then vs.toArray[0] else .tuple vs.toArray)->(results fn a.tmps).run P w=.ok v w:=by
   rintro v rfl;unfold results;rw[Array.mapM_eq_mapM_toList];simp only[Sem.run_bind,map_eq_pure_bind,bind_assoc,pure_bind];exact(congrArg (λr=>Result.andThen r _) q1).trans rfl
  have jl:cx.pb=[]\/∀b,S' b->S b:=by
   rcases Y9 with q|q
   ·exact .inl q
   ·rcases k2 with k2|k2
    ·rw[q] at k2;cases k2
    ·exact .inr k2
  simp only at h;split at h
  ·rename_i x hx;rw[hx] at k3;split at h
   ·rename_i hf;injection h with h
    subst h;cases k3 with
    | @cons _ v _ _ h1 h2=>
     cases h2
     exact⟨bs,S,S',hs,he,k1,jl,v,kC v rfl,XR.free hf h1⟩
   ·cases h
  ·rename_i l' hne;cases ec:uy (l.map (λx=>if vw then iD ty st.heap x else x)) with
   | none=>rw[ec] at h;cases h
   | some cs=>
    rw[ec] at h;have h:(if(XV.tup cs).free then some (XV.tup cs) else none)=some r:=h;split at h
    ·rename_i hf;injection h with h
     subst h;refine⟨bs,S,S',hs,he,k1,jl,.tuple vs.toArray,kC _ ?_,XR.free hf ⟨vs,rfl,ux ec k3⟩⟩;have hl:=k3.length;rw[dif_neg];intro h1;rw[List.size_toArray,<-hl] at h1
     match hm:l.map (λx=>if vw then iD ty st.heap x else x),h1 with
     | [x],_=>exact hne x hm
    ·cases h
end
def zw:AV->AV
 | .val (.int k n)=>.sym (.int k n)
 | .val (.bool b)=>.sym (.bool b)
 | .val (.string s)=>.sym (.string s)
 | a=>a
def Gf:XV->XV
 | .one a=>.one (zw a)
 | .agg cs=>.agg (cs.map zw)
 | .tup l=>.tup (l.map λp=>(p.1,p.2.map zw))
section
variable {bs:List Value} {w:World} {S:Nat->Prop}
theorem qD {x:AV} {v:Value} (h:VR bs w S x v):VR bs w S (zw x) v:=by
 unfold zw;split<;>exact h
theorem xv {ag:Bool} {cs:List AV} {v:Value} (h:CR bs w S ag cs v):CR bs w S ag (cs.map zw) v:=by
 unfold CR at h ⊢;cases ag with
 | true=>obtain⟨vs,e,h⟩:=h;exact⟨vs,e,h.mapL λ_ _ _ h=>qD h⟩
 | false=>obtain⟨a,rfl,h⟩:=h;exact⟨_,rfl,qD h⟩
theorem xu {x:XV} {v:Value} (h:XR bs w S x v):XR bs w S (Gf x) v:=by
 cases x with
 | one b=>exact qD h
 | agg cs=>exact xv (ag:=true) h
 | tup l=>obtain⟨vs,e,h⟩:=h;exact⟨vs,e,h.mapL λ_ _ _ h=>xv h⟩
end
def XV.plain:XV->Bool
 | .one a=>a.plain
 | .agg cs=>cs.all AV.plain
 | .tup l=>l.all λp=>p.2.all AV.plain
section
variable {P:Program} {m:Nat} {loops:List Code} (R:Rg P m) (L:oX P R.fn m R.pb loops)
def SZ (n:Nat) (body:Code) (l0:List (Nat×SS)) (x:aG l0):T XV:=(run R L n [.code 0 body] (bB l0 x)).bind λq=>match q with
 | .ret r _=>.lf (Gf r)
 | .nrm _=>if R.fn.results.toList.isEmpty then .lf (.tup []) else .bad
 | _=>.bad
end
def az (l0:List (Nat×SS)) (G:aG l0->T XV) (xs:List XV):T XV:=match jp [] l0 ⟨kA 0 xs,[]⟩ with
 | some x=>if xs.length=l0.length then G x else .bad
 | none=>.bad
section
variable {P:Program} {fn:Func} {w:World} {S:Nat->Prop}
theorem VR.plain {bs aD:List Value} {S S':Nat->Prop} {w w':World} {x:AV} {v:Value} (hp:x.plain=true) (h:VR bs w S x v):VR aD w' S' x v:=by
 cases x with
 | val u=>exact h
 | sym u=>exact h
 | _=>cases hp
theorem CR.plain {bs aD:List Value} {S S':Nat->Prop} {w w':World} {ag:Bool} {cs:List AV} {v:Value} (hp:cs.all AV.plain=true) (h:CR bs w S ag cs v):CR aD w' S' ag cs v:=by
 have hc:=List.all_eq_true.1 hp;have key:∀{cs:List AV} {vs:List Value},(∀x∈cs,x.plain=true)->F2 (VR bs w S) cs vs->F2 (VR aD w' S') cs vs:=by
  intro cs vs hc hf;induction hf with
  | nil=>exact .nil
  | cons h _ ih=>exact .cons (VR.plain (hc _ List.mem_cons_self) h) (ih λx hx=>hc x (List.mem_cons_of_mem _ hx))
 unfold CR at h ⊢;cases ag with
 | true=>obtain⟨vs,e,h⟩:=h;exact⟨vs,e,key hc h⟩
 | false=>obtain⟨x,rfl,h⟩:=h;exact⟨x,rfl,VR.plain (hc x List.mem_cons_self) h⟩
theorem XR.plain {bs aD:List Value} {S S':Nat->Prop} {w w':World} {x:XV} {v:Value} (hp:x.plain=true) (h:XR bs w S x v):XR aD w' S' x v:=by
 cases x with
 | one b=>exact VR.plain hp h
 | agg cs=>exact CR.plain hp h
 | tup l=>
  obtain⟨vs,e,h⟩:=h;refine⟨vs,e,?_⟩;have hc:=List.all_eq_true.1 hp;clear e;induction h with
  | nil=>exact .nil
  | @cons p _ _ _ h _ ih=>exact .cons (CR.plain (hc p List.mem_cons_self) h) (ih (List.all_eq_true.2 λx hx=>hc x (List.mem_cons_of_mem _ hx)) λx hx=>hc x (List.mem_cons_of_mem _ hx))
theorem my {bs:List Value} {tmps:Array Value}:∀{xs:List XV} {vs:List Value} {n:Nat},F2 (XR bs w S) xs vs->(∀(j:Nat) (v:Value),vs[j]?=some v->tmps[n+j]?=some v)->∀t x,(t,x)∈kA n xs->∃v,tmps[t]?=some v/\XR bs w S x v
 | [],_,_,_,_,_,_,h=>by cases h
 | x::xs,_,n,hf,ht,t,y,h=>by
  cases hf with
  | @cons _ v _ vs h1 h2=>
   rcases List.mem_cons.1 h with e|h
   ·injection e with e1 e2
    subst e1 e2;exact⟨v,ht 0 v rfl,h1⟩
   ·refine my (n:=n+1) h2 (λj v hj=>?_) t y h;rw[show n+1+j=n+(j+1) by omega];exact ht (j+1) v (by simpa using hj)
theorem pure_ok {f:FuncId} {body:Code} {loops:List Code} (R:Rg P fn.ntmps) (L:oX P R.fn fn.ntmps R.pb loops) (IE:R.fn=fn) (hRp:R.pb=[]) (hf:P.funcs[f]?=some fn) (hb:fn.body=some body) (hl:loops=eZ body) (al:Bool) (n:Nat) (l0:List (Nat×SS)) (G:aG l0->T XV) (hln:l0.length<=fn.ntmps) (h:∀x r,xe l0 x->(G x).hit r->(SZ R L n body l0 x).hit r/\(al=true\/r.plain=true)):aj P f al (az l0 G):=by
 intro w S xs vs r hW hS hx hr;unfold az at hr;split at hr
 ·rename_i x ju;split at hr
  ·rename_i hlen;have Bs:vs.length<=fn.ntmps:=by rw[<-hx.length,hlen];exact hln
   let cx:Cx:=⟨w,S,λ_=>False,[],[],Yw hW⟩
   have hs:HS cx [] w S []:=⟨rfl,(λ_ _ _ h=>by cases h),(λ_ _ _ _ _ _ _ _ h=>by cases h),(λ_ _ _ _ h=>by cases h),λb q=>⟨hS b q,.inl q⟩,λ_ h=>h,rfl,rfl,rfl,Nat.le_refl _,λ_ _ _=>rfl,λ_ _ h=>by cases h⟩;have he:ER fn.ntmps [] w S (kA 0 xs) { tmps:=vs.toArray++Array.replicate (fn.ntmps-vs.toArray.size) undef,defers:=[] }:=by
    refine⟨rfl,?_,my hx λj v hj=>?_⟩
    ·show(vs.toArray++Array.replicate (fn.ntmps-vs.toArray.size) undef).size=_;rw[Array.size_append,Array.size_replicate,List.size_toArray];omega
    ·rw[Nat.zero_add,Array.getElem?_append,if_pos (by rw[List.size_toArray];exact(List.getElem?_eq_some_iff.1 hj).1)];simpa using hj
   have aY:=mj (cx:=cx) ju ⟨[],S,hs,he⟩;obtain⟨h1,h2⟩:=h x r (Fl aY) hr;obtain⟨q,h3,h4⟩:=T.hit_bind h1;refine calls_of_wp hf hb (wp_mono (qz (cx:=cx) hRp.symm h3 aY λj z hz=>by rw[hl,Nat.zero_add];exact hz) λe a' w' hq=>?_);have below:∀{bs S1 H},HS cx bs w' S1 H->Below w.heap.size w w':=λdl=>⟨dl.os,dl.tape,dl.output,dl.size,λb hb=>dl.old b hb λh=>h⟩;cases e with
   | ret=>
    obtain⟨r',bG,rfl,bs,S1,S',dl,pU,k1,_,v,k2,k3⟩:=hq;have h4:Gf r'=r:=h4;subst h4;have k3:=xu k3;rw[IE] at k2;refine⟨pU.d,v,k2,?_⟩;rcases h2 with h2|h2
    ·refine⟨v,S',rfl,below dl,λb q=>?_,k3⟩;obtain⟨q1,q2⟩:=k1 b q;rcases q1 with q1|q1|q1
     ·exact .inl ⟨h2,q1⟩
     ·exact .inr ⟨q1,q2⟩
     ·exact q1.elim
    ·exact⟨v,λ_=>False,rfl,below dl,λb q=>q.elim,XR.plain h2 k3⟩
   | normal=>
    obtain⟨bG,rfl,bs,S1,dl,pU⟩:=hq;simp only at h4;split at h4
    ·rename_i kC;have h4:XV.tup []=r:=h4;subst h4;rw[IE] at kC;have DY:fn.results=#[]:=by
      have:fn.results.toList=[]:=List.isEmpty_iff.1 kC;rw[<-Array.toArray_toList (xs:=fn.results),this]
     exact⟨pU.d,_,results_none DY _ _ _,_,λ_=>False,rfl,below dl,λb q=>q.elim,[],rfl,.nil⟩
    ·exact h4.elim
   | exit id=>
    obtain⟨bG,rfl,_⟩:=hq;exact h4.elim
   | _=>exact hq.elim
  ·exact hr.elim
 ·exact hr.elim
theorem Ow {bs:List Value}:∀{xs:List XV} {vs:List Value} {n:Nat},F2 (XR bs w S) xs vs->∀t x,(t,x)∈kA n xs->∃v,vs[t-n]?=some v/\n<=t/\XR bs w S x v
 | [],_,_,_,_,_,h=>by cases h
 | x::xs,_,n,hf,t,y,h=>by
  cases hf with
  | @cons _ v _ vs h1 h2=>
   rcases List.mem_cons.1 h with e|h
   ·injection e with e1 e2
    subst e1 e2;exact⟨v,by rw[Nat.sub_self];rfl,Nat.le_refl _,h1⟩
   ·obtain⟨v,q1,q2,q3⟩:=Ow (n:=n+1) h2 t y h;refine⟨v,?_,by omega,q3⟩;rw[show t-n=t-(n+1)+1 by omega];exact q1
theorem uF {l0:List (Nat×SS)} {G:aG l0->T XV} {w:World} {S:Nat->Prop} {xs:List XV} {vs:List Value} {r:XV} (hW:Wd w) (hS:∀b,S b->b<w.heap.size) (hx:F2 (XR [] w S) xs vs) (hr:(az l0 G xs).hit r) (im:∀x:aG l0,(bB l0 x).heap=[]:=by intro x;rfl) : ∃x:aG l0,(∀t y,(t,y)∈(bB l0 x).env->∃v,vs[t]?=some v/\XR [] w S y v)/\vs.length=l0.length/\(G x).hit r:=by
 unfold az at hr;split at hr
 ·rename_i x ju;split at hr
  ·rename_i hlen
   let cx:Cx:=⟨w,S,λ_=>False,[],[],Yw hW⟩
   have hs:HS cx [] w S []:=⟨rfl,(λ_ _ _ h=>by cases h),(λ_ _ _ _ _ _ _ _ h=>by cases h),(λ_ _ _ _ h=>by cases h),λb q=>⟨hS b q,.inl q⟩,λ_ h=>h,rfl,rfl,rfl,Nat.le_refl _,λ_ _ _=>rfl,λ_ _ h=>by cases h⟩;have he:ER vs.length [] w S (kA 0 xs) ⟨vs.toArray,[]⟩:=⟨rfl,by simp,λt y hy=>by
    obtain⟨v,q1,_,q3⟩:=Ow hx t y hy;exact⟨v,by simpa using q1,q3⟩⟩
   obtain⟨us,q1,q2⟩:=iI (cx:=cx) ju hs he;have hus:us=[]:=by
    have:=q1.len;rw[im x] at this;exact List.eq_nil_of_length_eq_zero this
   subst hus;exact⟨x,(λt y hy=>by
    obtain⟨v,q3,q4⟩:=q2.k t y hy;exact⟨v,by simpa using q3,q4⟩),(hx.length.symm.trans hlen),hr⟩
  ·exact hr.elim
 ·exact hr.elim
theorem rc {f:FuncId} {al:Bool} {l0:List (Nat×SS)} {G:aG l0->T XV} (h:∀(w:World) (S:Nat->Prop) (x:aG l0) (vs:List Value) (r:XV),Wd w->(∀b,S b->b<w.heap.size)->(∀t y,(t,y)∈(bB l0 x).env->∃v,vs[t]?=some v/\XR [] w S y v)->vs.length=l0.length->(G x).hit r-> Calls P f vs.toArray w λe w'=>∃v S',e=.returned v/\Below w.heap.size w w'/\(∀b,S' b->(al=true/\S b)\/(w.heap.size<=b/\b<w'.heap.size))/\XR [] w' S' r v) (im:∀x:aG l0,(bB l0 x).heap=[]:=by intro x;rfl):aj P f al (az l0 G):=λw S _ vs r hW hS hx hr=>let ⟨x,h1,h2,h3⟩:=uF hW hS hx hr im;h w S x vs r hW hS h1 h2 h3
theorem gV {f:FuncId} {al:Bool} {l0:List (Nat×SS)} {G:aG l0->T XV} (h:∀(w:World) (S:Nat->Prop) (x:aG l0) (vs:List Value) (r:XV),(∀b,S b->b<w.heap.size)->(∀t y,(t,y)∈(bB l0 x).env->∃v,vs[t]?=some v/\XR [] w S y v)->vs.length=l0.length->(G x).hit r-> Calls P f vs.toArray w λe w'=>∃v S',e=.returned v/\Below w.heap.size w w'/\(∀b,S' b->(al=true/\S b)\/(w.heap.size<=b/\b<w'.heap.size))/\XR [] w' S' r v) (im:∀x:aG l0,(bB l0 x).heap=[]:=by intro x;rfl):aj P f al (az l0 G):=rc (λw S x vs r _=>h w S x vs r) im
end
section
variable {P:Program} {ops:Array Oper} {Q:Exit->Act->World->Prop}
theorem iC {id:Nat} {a:Act} {W:World} (n r:Nat) (I:(Nat->Bool)->Act->World->Prop) (hm:P.follows .mixedOrders=true) (hb:ia (n+r) ops=true) (il:nA ops n (n+r)=true) (h0:I (λ_=>false) a W.drew) (iO:∀(Q':Exit->Act->World->Prop) d a w i,i<n->I d a w->d i=false->(∀j,n<=j->d j=false)->(∀k j,d k=true->waits ops k j=true->d j=true)->(∀j,waits ops i j=true->d j=true)->wpOp P ops Q' i (I (fu d i)) a w) (wz:∀d a w,I d a w->(∀j,j<n->d j=true)->xt P ops Q r n a w):(Code.region id ops true).wp P Q a W:=by
 have hsz:=cQ hb;refine oI (n+r) (λd a' w'=>(∀i j,d i=true->waits ops i j=true->d j=true)/\ ((∃k s,n<k/\k+s=n+r/\(∀j,j<k->d j=true)/\(∀j,k<=j->d j=false)/\xt P ops Q s k a' w')\/((∀j,n<=j->d j=false)/\I d a' w'))) hm hb ⟨λi j h=>by simp at h,.inr ⟨λ_ _=>rfl,h0⟩⟩ ?_ ?_
 ·intro d a' w' i hi hI j8 hw;obtain⟨pW,hI⟩:=hI;have Mt:∀k j,fu d i k=true->waits ops k j=true->fu d i j=true:=by
   intro k j hdk hkj;by_cases e:k=i
   ·subst e;have:=hw j hkj;by_cases e2:j=k
    ·subst e2;exact dB d j
    ·rw[aN d e2];exact this
   ·rw[aN d e] at hdk;have:=pW k j hdk hkj;by_cases e2:j=i
    ·subst e2;exact dB d j
    ·rw[aN d e2];exact this
  rcases hI with⟨k,s,hnk,hks,mz,mg,ht⟩|⟨mg,hI⟩
  ·have hik:i=k:=by
    rcases Nat.lt_trichotomy i k with h|h|h
    ·rw[mz i h] at j8;cases j8
    ·exact h
    ·have h1:=jS 9 i hw (λq hq j=>pW q j hq) (j0 il hi (by omega) h);rw[mg k (Nat.le_refl _)] at h1;cases h1
   subst hik;cases s with
   | zero=>omega
   | succ s=>
    refine wpOp_mono (λa'' w'' h=>⟨Mt,.inl ⟨i+1,s,by omega,by omega,λj hj=>?_,λj hj=>?_,h⟩⟩) ht
    ·by_cases e:j=i
     ·subst e;exact dB d j
     ·rw[aN d e];exact mz j (by omega)
    ·rw[aN d (show j≠i by omega)];exact mg j (by omega)
  ·by_cases yD:n<=i
   ·have FX:i=n:=by
     rcases Nat.lt_or_ge n i with h|h
     ·have h1:=jS 9 i hw (λq hq j=>pW q j hq) (j0 il hi yD h);rw[mg n (Nat.le_refl _)] at h1;cases h1
     ·omega
    subst FX;have jy:∀j,j<i->d j=true:=λj hj=>jS 9 i hw (λk hk j=>pW k j hk) (j0 il hi (Nat.le_refl _) hj);obtain⟨r,rfl⟩:∃q,r=q+1:=⟨r-1,by omega⟩;refine wpOp_mono (λa'' w'' h=>⟨Mt,.inl ⟨i+1,r,by omega,by omega,λj hj=>?_,λj hj=>?_,h⟩⟩) (wz d a' w' hI jy)
    ·by_cases e:j=i
     ·subst e;exact dB d j
     ·rw[aN d e];exact jy j (by omega)
    ·rw[aN d (show j≠i by omega)];exact mg j (by omega)
   ·refine wpOp_mono (λa'' w'' h=>⟨Mt,.inr ⟨λj hj=>?_,h⟩⟩) (iO Q d a' w' i (by omega) hI j8 mg pW hw);rw[aN d (show j≠i by omega)];exact mg j hj
 ·intro d a' w' hI jy;obtain⟨_,hI⟩:=hI;rcases hI with⟨k,s,hnk,hks,mz,mg,ht⟩|⟨mg,hI⟩
  ·cases s with
   | zero=>exact ht
   | succ s=>
    have:=mg k (Nat.le_refl _);rw[jy k (by omega)] at this;cases this
  ·cases r with
   | zero=>exact wz d a' w' hI λj hj=>jy j (by omega)
   | succ r=>
    have:=mg n (Nat.le_refl _);rw[jy n (by omega)] at this;cases this
end
def Uu (o:Oper) (fg:List Nat):Nat:=o.after.toList.foldl (λs e=>if Region.binds .any e then s||| 2^e.on||| fg.getD e.on 0 else s) 0
def nk:List Oper->List Nat->List Nat
 | [],fg=>fg
 | o::l,fg=>nk l (fg++[Uu o fg])
def selB (ms:List Nat) (i j:Nat):Bool:=decide (j<i)&&(ms.getD i 0).testBit j
abbrev Rs:=List (Option (XV×Option aa))
def gF (ops:Array Oper) (kp:Nat->Bool) (bM:Env) (pc:Nat->Bool) (rs:Rs):Env:=
 ((List.range rs.length).filterMap λj=>if pc j then match bJ ops j,rs[j]? with
  | some t,some (some r)=>some (t,r.1)
  | _,_=>none else none)++bM.filter λp=>kp p.1
def Am (ops:Array Oper) (n:Nat) (d:Nat->Bool) (t:Nat):Bool:=(List.range n).all λj=>!(bJ ops j==some t)||!(d j)
def Ic (ops:Array Oper) (n:Nat) (ms:List Nat) (i t:Nat):Bool:=(List.range n).all λj=>!(bJ ops j==some t)||(ms.getD j 0).testBit i
def mb (rs:Rs) (j:Nat):aa:=match rs[j]? with
 | some (some (_,some x))=>x
 | _=>.dead
def gh (H0:List aa) (n:Nat) (pc:Nat->Bool) (rs:Rs):List aa:=H0++(List.range n).map λj=>if pc j then mb rs j else .dead
def PW (ops:Array Oper) (i:Nat):Bool:=ops.toList.any λo=>match o.guard with
 | some (j,_)=>j==i
 | none=>false
def FZ (ops:Array Oper) (i:Nat) (o:Oper) (rs:Rs):Option Bool:=match o.guard with
 | none=>some true
 | some (j,want)=>if waits ops i j then match bJ ops j,rs[j]? with
  | some _,some (some (.one (.val (.bool b)),_))=>some (b==want)
  | some _,some (some (.tup [],_))=>some false
  | _,_=>none else none
def lQ {P:Program} (C:dN P) (ops:Array Oper) (n:Nat) (ms:List Nat) (bM:Env) (H0:List aa):List Oper->Rs->T Rs
 | [],rs=>.lf rs
 | o::l,rs=>match FZ ops rs.length o rs with
  | some false=>lQ C ops n ms bM H0 l (rs++[some (.tup [],none)])
  | some true=>(Kf C.ty C.D (H0.length+rs.length) (gF ops (Ic ops n ms rs.length) bM (selB ms rs.length) rs) (gh H0 n (selB ms rs.length) rs) o).bind λr=>match PW ops rs.length,r with
   | true,(.one (.sym (.bool b)),none)=>.br b (lQ C ops n ms bM H0 l (rs++[some (.one (.val (.bool true)),none)])) (lQ C ops n ms bM H0 l (rs++[some (.one (.val (.bool false)),none)]))
   | _,r=>lQ C ops n ms bM H0 l (rs++[some r])
  | none=>.bad
def JY (o:Oper):Bool:=match o.op with
 | .store ..=>true
 | .call { callee:=.builtin .append, .. }=>true
 | .mapUpdate ..=>true
 | .lookup ..=>true
 | _=>false
def Pq (o:Oper):List Nat:=o.op.operands.toList.filterMap λ
 | .tmp t=>some t
 | _=>none
def uo {P:Program} (C:dN P):List Nat->List Oper->Nat
 | _,[]=>0
 | rd,o::l=>if JY o||C.eff o||(match o.dst with|some t=>rd.contains t|none=>false) then 0 else uo C (Pq o++rd) l+1
def oa {P:Program} (C:dN P):List Oper->Nat
 | []=>0
 | o::l=>if JY o||C.eff o then 0 else oa C l+1
def IX {P:Program} (C:dN P) (m:Nat) (ops:Array Oper) (n:Nat) (st:bT):T bT:=
 if P.follows .mixedOrders&&ia (n+(ops.size-n)) ops&&nA ops n (n+(ops.size-n))&&qj ops n m then
  (lQ C ops n (nk (ops.toList.take n) []) st.env st.heap (ops.toList.take n) []).bind λrs=>
   vA C m ops (ops.toList.drop n) ⟨gF ops (k7 ops n) st.env (λ_=>true) rs,gh st.heap n (λ_=>true) rs⟩
 else .bad
section
variable {P:Program} {ops:Array Oper} {Q:Exit->Act->World->Prop} {C:dN P} {n m:Nat} {cx:Cx} {ms:List Nat} {bM:Env} {H0:List aa} {kp:Nat->Bool}
def uQ (ops:Array Oper) (fg:List Nat):Prop:=∀(i s:Nat),fg[i]?=some s->∀j,s.testBit j=true->∀d:Nat->Bool,(∀k q,d k=true->waits ops k q=true->d q=true)->(∀q,waits ops i q=true->d q=true)->d j=true
theorem BL {i:Nat} {o:Oper} (ho:ops[i]?=some o) {e:Edge} (he:e∈o.after.toList) (hb:Region.binds .any e=true):waits ops i e.on=true:=by
 unfold waits;rw[ho];simp only[Option.map_some,Option.getD_some,Array.any_eq_true',Bool.and_eq_true,beq_iff_eq];exact⟨e,by simpa using he,hb,rfl⟩
theorem Lv {fg:List Nat} (h:uQ ops fg) {i:Nat} {o:Oper} (ho:ops[i]?=some o) {j:Nat} (hj:(Uu o fg).testBit j=true) (d:Nat->Bool) (hc:∀k q,d k=true->waits ops k q=true->d q=true) (hw:∀q,waits ops i q=true->d q=true):d j=true:=by
 unfold Uu at hj;have key:∀(l:List Edge) (s:Nat),(∀e∈l,e∈o.after.toList)->(∀j,s.testBit j=true->d j=true)->∀j,(l.foldl (λs e=>if Region.binds .any e then s||| 2^e.on||| fg.getD e.on 0 else s) s).testBit j=true->d j=true:=by
  intro l;induction l with
  | nil=>intro s _ hs j hj;exact hs j hj
  | cons e l ih=>
   intro s hl hs j hj;refine ih _ (λe he=>hl e (List.mem_cons_of_mem _ he)) (λj hj=>?_) j hj;simp only at hj;split at hj
   ·rename_i hb;have Zm:=hw _ (BL ho (hl e List.mem_cons_self) hb);rw[Nat.testBit_or,Nat.testBit_or,Bool.or_eq_true,Bool.or_eq_true] at hj;rcases hj with(hj|hj)|hj
    ·exact hs j hj
    ·rw[Nat.testBit_two_pow] at hj;have:e.on=j:=by simpa using hj
     rw[<-this];exact Zm
    ·cases hq:fg[e.on]? with
     | none=>rw[List.getD_eq_getElem?_getD,hq] at hj;simp at hj
     | some q=>
      rw[List.getD_eq_getElem?_getD,hq] at hj;exact h e.on q hq j hj d hc λk hk=>hc _ k Zm hk
   ·exact hs j hj
 exact key _ 0 (λ_ h=>h) (λj hj=>by simp at hj) j hj
theorem rp:∀(l:List Oper) (fg:List Nat),uQ ops fg->(∀(k:Nat) (o:Oper),l[k]?=some o->ops[fg.length+k]?=some o)->uQ ops (nk l fg)
 | [],_,h,_=>h
 | o::l,fg,h,hl=>by
  refine rp l _ (λi s hs j hj d hc hw=>?_) λk o' hk=>?_
  ·by_cases hi:i<fg.length
   ·rw[List.getElem?_append_left hi] at hs;exact h i s hs j hj d hc hw
   ·have FX:i<fg.length+1:=by have:=(List.getElem?_eq_some_iff.1 hs).1;simpa using this
    obtain rfl:i=fg.length:=by omega
    rw[List.getElem?_append_right (Nat.le_refl _)] at hs;simp only[Nat.sub_self,List.getElem?_cons_zero,Option.some.injEq] at hs;subst hs;exact Lv h (hl 0 o rfl) hj d hc hw
  ·rw[List.length_append,List.length_cons,List.length_nil,Nat.add_assoc,Nat.add_comm (0+1)];exact hl (k+1) o' (by simpa using hk)
def ic (C:dN P) (ops:Array Oper) (n:Nat) (ms:List Nat) (bM:Env) (H0:List aa) (rs:Rs) (i:Nat):Prop:=
 ∃o,ops[i]?=some o/\((FZ ops i o (rs.take i)=some false/\rs[i]?=some (some (.tup [],none)))\/
  (FZ ops i o (rs.take i)=some true/\∃r0 r,(Kf C.ty C.D (H0.length+i) (gF ops (Ic ops n ms i) bM (selB ms i) (rs.take i)) (gh H0 n (selB ms i) (rs.take i)) o).hit r0/\rs[i]?=some (some r)/\(r=r0\/∃b,r0=(.one (.sym (.bool b)),none)/\r=(.one (.val (.bool b)),none))))
theorem ic.more {rs:Rs} {i:Nat} (h:ic C ops n ms bM H0 rs i) (hi:i<rs.length) (x:Option (XV×Option aa)):ic C ops n ms bM H0 (rs++[x]) i:=by
 unfold ic at h ⊢;rw[List.take_append_of_le_length (by omega),List.getElem?_append_left hi];exact h
theorem ug:∀(l:List Oper) (rs rs':Rs),(lQ C ops n ms bM H0 l rs).hit rs'->(∀(k:Nat) (o:Oper),l[k]?=some o->ops[rs.length+k]?=some o)->(∀i,i<rs.length->ic C ops n ms bM H0 rs i)->rs'.length=rs.length+l.length/\∀i,i<rs'.length->ic C ops n ms bM H0 rs' i
 | [],rs,rs',h,_,hs=>by have h:rs=rs':=h;subst h;exact⟨rfl,hs⟩
 | o::l,rs,rs',h,hl,hs=>by
  have ho:=hl 0 o rfl;rw[Nat.add_zero] at ho;have next:∀(x:Option (XV×Option aa)),(lQ C ops n ms bM H0 l (rs++[x])).hit rs'->ic C ops n ms bM H0 (rs++[x]) rs.length->rs'.length=rs.length+(o::l).length/\∀i,i<rs'.length->ic C ops n ms bM H0 rs' i:=by
   intro x h hx;obtain⟨q1,q2⟩:=ug l (rs++[x]) rs' h (λk o' hk=>by
    rw[List.length_append,List.length_cons,List.length_nil,Nat.add_assoc,Nat.add_comm (0+1)];exact hl (k+1) o' (by simpa using hk)) λi hi=>by
     rw[List.length_append,List.length_cons,List.length_nil] at hi;by_cases e:i=rs.length
     ·rw[e];exact hx
     ·exact(hs i (by omega)).more (by omega) x
   refine⟨?_,q2⟩;rw[q1,List.length_append,List.length_cons,List.length_nil,List.length_cons];omega
  have sQ:∀x,(rs++[x]).take rs.length=rs:=λx=>by rw[List.take_append_of_le_length (Nat.le_refl _),List.take_length]
  have dE:∀x,(rs++[x])[rs.length]?=some x:=λx=>by rw[List.getElem?_append_right (Nat.le_refl _)];simp
  unfold lQ at h;split at h
  ·rename_i hg;exact next _ h ⟨o,ho,.inl ⟨by rw[sQ];exact hg,dE _⟩⟩
  ·rename_i hg;obtain⟨r0,h1,h2⟩:=T.hit_bind h;split at h2
   ·rename_i b lx;cases b with
    | true=>exact next _ (h2.1 rfl) ⟨o,ho,.inr ⟨by rw[sQ];exact hg,_,_,by rw[sQ];exact h1,dE _,.inr ⟨true,rfl,rfl⟩⟩⟩
    | false=>exact next _ (h2.2 rfl) ⟨o,ho,.inr ⟨by rw[sQ];exact hg,_,_,by rw[sQ];exact h1,dE _,.inr ⟨false,rfl,rfl⟩⟩⟩
   ·exact next _ h2 ⟨o,ho,.inr ⟨by rw[sQ];exact hg,_,_,by rw[sQ];exact h1,dE _,.inl rfl⟩⟩
  ·exact h.elim
theorem eQ {pc:Nat->Bool} {rs:Rs} {t:Nat} {x:XV} (h:(t,x)∈gF ops kp bM pc rs):(∃j r,j<rs.length/\pc j=true/\bJ ops j=some t/\rs[j]?=some (some r)/\r.1=x)\/((t,x)∈bM/\kp t=true):=by
 rcases List.mem_append.1 h with h|h
 ·obtain⟨j,hj,h⟩:=List.mem_filterMap.1 h;left
  split at h
  ·rename_i hs;split at h
   ·rename_i t' r ht hr;injection h with h
    injection h with h1 h2
    subst h1 h2;exact⟨j,r,List.mem_range.1 hj,hs,ht,hr,rfl⟩
   ·cases h
  ·cases h
 ·right
  obtain⟨h1,h2⟩:=List.mem_filter.1 h;exact⟨h1,h2⟩
theorem eJ {pc:Nat->Bool} {rs:Rs} {t j:Nat} {r:XV×Option aa} (hj:j<rs.length) (hs:pc j=true) (ht:bJ ops j=some t) (hr:rs[j]?=some (some r)):(t,r.1)∈gF ops kp bM pc rs:=by
 refine List.mem_append_left _ (List.mem_filterMap.2 ⟨j,List.mem_range.2 hj,?_⟩);rw[if_pos hs,ht,hr]
theorem gE {pc:Nat->Bool} {rs:Rs} {t:Nat} {x:XV} (h:(t,x)∈bM) (hn:kp t=true):(t,x)∈gF ops kp bM pc rs:=List.mem_append_right _ (List.mem_filter.2 ⟨h,hn⟩)
theorem kz {d:Nat->Bool} {t:Nat}:Am ops n d t=true↔∀j,j<n->bJ ops j=some t->d j=false:=by
 unfold Am;rw[List.all_eq_true];constructor
 ·intro h j hj ht;have:=h j (List.mem_range.2 hj);rw[ht] at this;simpa using this
 ·intro h j hj;by_cases ht:bJ ops j=some t
  ·rw[h j (List.mem_range.1 hj) ht];simp
  ·simp[ht]
theorem Ib {i t:Nat}:Ic ops n ms i t=true↔∀j,j<n->bJ ops j=some t->(ms.getD j 0).testBit i=true:=by
 unfold Ic;rw[List.all_eq_true];constructor
 ·intro h j hj ht;have:=h j (List.mem_range.2 hj);rw[ht] at this;simpa using this
 ·intro h j hj;by_cases ht:bJ ops j=some t
  ·rw[h j (List.mem_range.1 hj) ht];simp
  ·simp[ht]
theorem yt {d:Nat->Bool} {t:Nat} (h:k7 ops n t=true):Am ops n d t=true:=kz.2 λ_ hj ht=>absurd ht (tH h hj)
theorem JX {i t:Nat} (D7:uQ ops ms) (FV:ms.length=n) {d:Nat->Bool} (j8:d i=false) (hc:∀k q,d k=true->waits ops k q=true->d q=true) (h:Ic ops n ms i t=true):Am ops n d t=true:=kz.2 λj hj ht=>by
 cases j7:d j with
 | false=>rfl
 | true=>
  have h1:=Ib.1 h j hj ht;have Vx:j<ms.length:=by omega
  rw[List.getD_eq_getElem?_getD,List.getElem?_eq_getElem Vx] at h1;have:=D7 j _ (List.getElem?_eq_getElem Vx) i h1 d hc λq hq=>hc j q j7 hq;rw[j8] at this;cases this
theorem yr {d:Nat->Bool} {i t:Nat} (hi:i<n) (h:Am ops n (fu d i) t=true) (j8:d i=false):Am ops n d t=true/\bJ ops i≠some t:=by
 refine⟨kz.2 λj hj ht=>?_,λht=>?_⟩
 ·by_cases e:j=i
  ·rw[e];exact j8
  ·have:=kz.1 h j hj ht
   rwa [aN d e] at this
 ·have:=kz.1 h i hi ht;rw[dB] at this;cases this
theorem eh {pc:Nat->Bool} {rs:Rs}:(gh H0 n pc rs).length=H0.length+n:=by simp[gh]
theorem gD {pc:Nat->Bool} {rs:Rs} {j:Nat} (hj:j<n):(gh H0 n pc rs)[H0.length+j]?=some (if pc j then mb rs j else .dead):=by
 unfold gh;rw[List.getElem?_append_right (by omega),Nat.add_sub_cancel_left,List.getElem?_map,List.getElem?_range hj];rfl
theorem lz {pc:Nat->Bool} {rs:Rs} {i:Nat} (hi:i<H0.length):(gh H0 n pc rs)[i]?=H0[i]?:=by
 unfold gh;rw[List.getElem?_append_left hi]
def DI (m:Nat) (cx:Cx) (ops:Array Oper) (n:Nat) (bM:Env) (H0:List aa) (rs:Rs) (d:Nat->Bool) (a:Act) (w:World):Prop:=
 ∃bs S,HS cx bs w S (gh H0 n d rs)/\(∀j,j<n->d j=false->bs[H0.length+j]?=some undef)/\ER m bs w S (gF ops (Am ops n d) bM d rs) a
theorem ku {rs:Rs} {i:Nat} (h:rs[i]?=some none\/∃x,rs[i]?=some (some (x,none))):mb rs i=.dead:=by
 unfold mb;rcases h with h|⟨x,h⟩<;>rw[h]
theorem nY {d:Nat->Bool} {rs:Rs} {i:Nat} (hi:i<n) (_:d i=false):gh H0 n (fu d i) rs=(gh H0 n d rs).set (H0.length+i) (mb rs i):=by
 apply List.ext_getElem?;intro k;by_cases e:H0.length+i=k
 ·subst e;rw[List.getElem?_set_self (by rw[eh];omega),gD hi,dB];rfl
 ·rw[List.getElem?_set_ne e];by_cases hk:k<H0.length
  ·rw[lz hk,lz hk]
  ·by_cases fb:k<H0.length+n
   ·obtain⟨j,rfl⟩:∃j,k=H0.length+j:=⟨k-H0.length,by omega⟩;rw[gD (by omega),gD (by omega),aN d (by omega)]
   ·rw[List.getElem?_eq_none (by rw[eh];omega),List.getElem?_eq_none (by rw[eh];omega)]
theorem DI.step {rs:Rs} (hlen:rs.length=n) (_:n<=ops.size) (gX:∀i,i<n->ic C ops n ms bM H0 rs i) (D7:uQ ops ms) (FV:ms.length=n) (gC:qj ops n m=true) (lP:∀(i j:Nat),waits ops i j=true->j<i) {Q':Exit->Act->World->Prop} {d:Nat->Bool} {a:Act} {w:World} {i:Nat} (hi:i<n) (h:DI m cx ops n bM H0 rs d a w) (j8:d i=false) (_:∀j,n<=j->d j=false) (hc:∀k q,d k=true->waits ops k q=true->d q=true) (hw:∀q,waits ops i q=true->d q=true) : wpOp P ops Q' i (DI m cx ops n bM H0 rs (fu d i)) a w:=by
 obtain⟨bs,S,hs,hu,he⟩:=h;obtain⟨o,ho,Eo⟩:=gX i hi;have uX:bs.length=H0.length+n:=by rw[hs.len,eh]
 have nO:∀t,bJ ops i=some t->t<m:=λt ht=>(gZ gC hi ht).1;have J3:o.dst=bJ ops i:=by unfold bJ;rw[ho];rfl
 have lw:∀(v:Value) t,bJ ops i≠some t->(a.put o.dst v).tmps[t]?=a.tmps[t]?:=by
  intro v t hx;rw[J3];cases e:bJ ops i with
  | none=>rfl
  | some q=>
   have hne:q≠t:=λe2=>hx (by rw[e,e2]);show(a.tmps.setIfInBounds q v)[t]?=_;rw[Array.getElem?_setIfInBounds_ne hne]
 have kD:∀v:Value,(a.put o.dst v).tmps.size=m/\(a.put o.dst v).defers=[]:=by
  intro v;cases o.dst with
  | none=>exact⟨he.s,he.d⟩
  | some q=>exact⟨by show(a.tmps.setIfInBounds q v).size=m;rw[Array.size_setIfInBounds];exact he.s,he.d⟩
 have nQ:∀t x,(t,x)∈gF ops (Am ops n (fu d i)) bM (fu d i) rs->((t,x)∈gF ops (Am ops n d) bM d rs/\bJ ops i≠some t)\/(bJ ops i=some t/\∃r,rs[i]?=some (some r)/\r.1=x):=by
  intro t x hx;rcases eQ hx with⟨j,r,hj,dl,ht,hr,NW⟩|⟨h1,hn⟩
  ·by_cases e:j=i
   ·subst e;exact .inr ⟨ht,r,hr,NW⟩
   ·rw[aN d e] at dl;subst NW;exact .inl ⟨eJ hj dl ht hr,λe2=>yK gC hi (by omega) (λe3=>e e3.symm) t e2 ht⟩
  ·obtain⟨k1,k2⟩:=yr hi hn j8;exact .inl ⟨gE h1 k1,k2⟩
 have nM:∀{c:Bool},FZ ops i o (rs.take i)=some c->Region.wanted o (yielded ops a.tmps)=c:=by
  intro c hg;unfold FZ at hg;split at hg
  ·rename_i lx;injection hg with hg
   subst hg;simp[Region.wanted,lx]
  ·rename_i j want lx;split at hg
   ·rename_i FO;split at hg
    ·rename_i t b _ ht hr;injection hg with hg
     subst hg;have Eb:=lP i j FO;rw[List.getElem?_take,if_pos Eb] at hr;obtain⟨v,hv,hx⟩:=he.k t _ (eJ (by omega) (hw j FO) ht hr);obtain⟨rfl,_⟩:=hx;exact jf lx ht hv
    ·rename_i t _ ht hr;injection hg with hg
     subst hg;have Eb:=lP i j FO;rw[List.getElem?_take,if_pos Eb] at hr;obtain⟨v,hv,vs,e1,e2⟩:=he.k t _ (eJ (by omega) (hw j FO) ht hr);cases e2
     exact kV lx ht (by rw[hv,e1];rfl)
    ·cases hg
   ·cases hg
 rcases Eo with⟨hg,hr⟩|⟨hg,r0,r,VD,hr,Ir⟩
 ·
  have t7:=nM hg;unfold wpOp;rw[ho];simp only[t7,Bool.false_eq_true,if_false];have jw:mb rs i=.dead:=ku (.inr ⟨_,hr⟩);refine⟨bs,S,?_,λj hj j7=>hu j hj ?_,(kD undef).2,(kD undef).1,λt x hx=>?_⟩
  ·rw[nY hi j8,jw];refine hs.mask (by simp) λk x hx=>?_;by_cases e:H0.length+i=k
   ·subst e;rw[List.getElem?_set_self (by rw[eh];omega)] at hx;exact .inl (Option.some.inj hx).symm
   ·rw[List.getElem?_set_ne e] at hx;exact .inr hx
  ·by_cases e:j=i
   ·subst e;exact j8
   ·rw[aN d e] at j7;exact j7
  ·rcases nQ t x hx with⟨hx,hne⟩|⟨ht,r,DZ,NW⟩
   ·obtain⟨v,q1,q2⟩:=he.k t x hx;exact⟨v,(lw undef t hne).trans q1,q2⟩
   ·rw[hr] at DZ;obtain rfl:=Option.some.inj (Option.some.inj DZ);subst NW;refine⟨undef,?_,[],rfl,.nil⟩;rw[J3,ht];show(a.tmps.setIfInBounds t undef)[t]?=_;exact Array.getElem?_setIfInBounds_self_of_lt (by rw[he.s];exact nO t ht)
 ·have t7:=nM hg;have wl:∀j,selB ms i j=true->j<i/\d j=true:=by
   intro j hj;unfold selB at hj;rw[Bool.and_eq_true,decide_eq_true_eq] at hj;refine⟨hj.1,?_⟩;have Qx:i<ms.length:=by rw[FV];exact hi
   have nK:=hj.2;rw[List.getD_eq_getElem?_getD,List.getElem?_eq_getElem Qx] at nK;exact D7 i _ (List.getElem?_eq_getElem Qx) j nK d hc hw
  have t9:∀j,j<i->(rs.take i)[j]?=rs[j]?:=λj hj=>by rw[List.getElem?_take,if_pos hj]
  have Ql:∀j,j<i->mb (rs.take i) j=mb rs j:=λj hj=>by unfold mb;rw[t9 j hj]
  have hsm:HS cx bs w S (gh H0 n (selB ms i) (rs.take i)):=by
   refine hs.mask (by rw[eh,eh]) λk x hx=>?_;by_cases hk:k<H0.length
   ·rw[lz hk] at hx ⊢;exact .inr hx
   ·have fb:k<H0.length+n:=by have:=(List.getElem?_eq_some_iff.1 hx).1;rw[eh] at this;exact this
    obtain⟨j,rfl⟩:∃j,k=H0.length+j:=⟨k-H0.length,by omega⟩;rw[gD (by omega)] at hx;rw[gD (by omega)];split at hx
    ·rename_i hsj;obtain⟨q1,q2⟩:=wl j hsj;rw[q2,Ql j q1] at*;exact .inr hx
    ·exact .inl (Option.some.inj hx).symm
  have VH:ER m bs w S (gF ops (Ic ops n ms i) bM (selB ms i) (rs.take i)) a:=by
   refine⟨he.d,he.s,λt x hx=>?_⟩;rcases eQ hx with⟨j,q,hj,dl,ht,hq,rfl⟩|⟨h1,hn⟩
   ·obtain⟨q1,q2⟩:=wl j dl;rw[t9 j q1] at hq;exact he.k t _ (eJ (by omega) q2 ht hq)
   ·exact he.k t x (gE h1 (JX D7 FV j8 hc hn))
  have mf:=sc C.isP hsm VH VD;refine mK ho t7 (mf _ _ λv w' S' u hb hS hn hx hf=>?_);have dl:=hs.grow hb hS hn;have Zv:∀aD,eI bs aD->XR aD w' S' r0.1 v->ER m aD w' S' (gF ops (Am ops n (fu d i)) bM (fu d i) rs) (a.put o.dst v):=by
   intro aD ha ju;refine⟨(kD v).2,(kD v).1,λt x hx=>?_⟩;rcases nQ t x hx with⟨hx,hne⟩|⟨ht,r',fa,rfl⟩
   ·obtain⟨z,q1,q2⟩:=he.k t x hx;exact⟨z,(lw v t hne).trans q1,q2.keep hS ((af.of_below hb).sub λb q=>(hs.s b q).1) ha⟩
   ·rw[hr] at fa;obtain rfl:=Option.some.inj (Option.some.inj fa);refine⟨v,?_,?_⟩
    ·rw[J3,ht];show(a.tmps.setIfInBounds t v)[t]?=_;exact Array.getElem?_setIfInBounds_self_of_lt (by rw[he.s];exact nO t ht)
    ·rcases Ir with rfl|⟨b,e1,e2⟩
     ·exact ju
     ·rw[e1] at ju;rw[e2];exact⟨ju.1,rfl⟩
  have SD:bs[H0.length+i]?=some undef:=hu i hi j8;cases DX:r0.2 with
  | none=>
   have U7:r.2=none:=by
    rcases Ir with rfl|⟨b,_,e2⟩
    ·exact DX
    ·rw[e2]
   have jw:mb rs i=.dead:=ku (.inr ⟨r.1,by rw[hr,<-U7]⟩);obtain⟨Il,_⟩:=hx bs (eI.refl _) (by rw[DX];intro h;cases h);refine⟨bs,S',?_,λj hj j7=>hu j hj ?_,Zv bs (eI.refl _) Il⟩
   ·rw[nY hi j8,jw];refine dl.mask (by simp) λk x hx=>?_;by_cases e:H0.length+i=k
    ·subst e;rw[List.getElem?_set_self (by rw[eh];omega)] at hx;exact .inl (Option.some.inj hx).symm
    ·rw[List.getElem?_set_ne e] at hx;exact .inr hx
   ·by_cases e:j=i
    ·subst e;exact j8
    ·rw[aN d e] at j7;exact j7
  | some x=>
   have NW:r=r0:=by
    rcases Ir with h|⟨b,e1,_⟩
    ·exact h
    ·rw[e1] at DX;cases DX
   have jw:mb rs i=x:=by
    unfold mb;rw[hr,NW];obtain⟨r1,r2⟩:=r0;have DX:r2=some x:=DX;subst DX;rfl
   have wu:H0.length+i<bs.length:=by omega
   have nR:eI bs (bs.set (H0.length+i) u):=λq z hq hz=>by
    rw[List.getElem?_set_ne (λe=>by subst e;rw[SD] at hq;injection hq with hq;subst hq;cases hz)];exact hq
   obtain⟨Il,wj⟩:=hx (bs.set (H0.length+i) u) nR λ_=>by rw[List.getElem?_set_self wu]
   have im:=hf x DX;have QD:(gh H0 n d rs)[H0.length+i]?=some .dead:=by rw[gD hi,j8];rfl
   have fc:=dl.fill (x:=x) (v:=u) QD SD rfl (wj x DX) λb dF=>⟨.inl (Nat.le_trans hs.size (im b dF).1),(im b dF).2,λk z q hz hq e=>by
    have:=(hs.o k z q hz hq).lt e;have:=(im b dF).1;omega⟩
   refine⟨bs.set (H0.length+i) u,S',?_,λj hj j7=>?_,Zv _ nR Il⟩
   ·rw[nY hi j8,jw];exact fc
   ·by_cases e:j=i
    ·subst e;rw[dB] at j7;cases j7
    ·rw[aN d e] at j7;rw[List.getElem?_set_ne (by omega)];exact hu j hj j7
theorem HS.pads {bs:List Value} {w:World} {S:Nat->Prop} {H:List aa} (h:HS cx bs w S H):∀n,HS cx (bs++List.replicate n undef) w S (H++List.replicate n .dead)
 | 0=>by simpa using h
 | n+1=>by
  have:=(HS.pads h n).pad;rw[List.append_assoc,List.append_assoc,<-List.replicate_succ',<-List.replicate_succ'] at this;exact this
theorem AR {rs:Rs}:gh H0 n (λ_=>false) rs=H0++List.replicate n .dead:=by
 unfold gh;congr 1
 apply List.ext_getElem?;intro i;by_cases hi:i<n
 ·rw[List.getElem?_map,List.getElem?_range hi,List.getElem?_replicate,if_pos hi];rfl
 ·rw[List.getElem?_eq_none (by simp;omega),List.getElem?_eq_none (by simp;omega)]
theorem mi {bG:bT}:∀(l:List Oper) (i:Nat) {st:bT} {a:Act} {w:World},ops.toList.drop i=l->(vA C m ops l st).hit bG->cP m cx st a w->(∀a' w',cP m cx bG a' w'->Q .normal a' w')->xt P ops Q l.length i a w
 | [],i,st,a,w,_,h,aY,hQ=>by
  have h:st=bG:=h;subst h;exact hQ a w aY
 | o::l,i,st,a,w,hl,h,aY,hQ=>by
  obtain⟨st1,h1,h2⟩:=T.hit_bind h;have ho:ops[i]?=some o:=by
   have:=congrArg (λl:List Oper=>l[0]?) hl;simp only[List.getElem?_drop,Nat.add_zero,List.getElem?_cons_zero,Array.getElem?_toList] at this;exact this
  have oU:ops.toList.drop (i+1)=l:=by
   rw[<-List.drop_drop,hl];rfl
  exact Ez ho h1 aY (λst q1 q2=>Cu q1 q2 λa' w' q=>mi l (i+1) oU h2 q hQ) λa' w' q=>mi l (i+1) oU h2 q hQ
theorem ET {id:Nat} {st bG:bT} {a:Act} {w:World} {n:Nat} (h:(IX C m ops n st).hit bG) (aY:cP m cx st a w) (hQ:∀a' w',cP m cx bG a' w'->Q .normal a' w'):(Code.region id ops true).wp P Q a w:=by
 unfold IX at h;split at h
 ·rename_i hc;simp only[Bool.and_eq_true] at hc;obtain⟨⟨⟨hm,hb⟩,il⟩,gC⟩:=hc;obtain⟨rs,h1,h2⟩:=T.hit_bind h;have hsz:=cQ hb;have wu:n<=ops.size:=by omega
  have Az:(ops.toList.take n).length=n:=by rw[List.length_take,Array.length_toList];omega
  have dE:∀(k:Nat) (o:Oper),(ops.toList.take n)[k]?=some o->ops[k]?=some o:=λk o hk=>by
   rw[List.getElem?_take] at hk;split at hk
   ·simpa using hk
   ·cases hk
  obtain⟨q1,q2⟩:=ug _ [] rs h1 (λk o hk=>by rw[List.length_nil,Nat.zero_add];exact dE k o hk) λi hi=>absurd hi (Nat.not_lt_zero _);rw[List.length_nil,Nat.zero_add,Az] at q1;have D7:uQ ops (nk (ops.toList.take n) []):=rp _ [] (λi s hs=>by cases hs) λk o hk=>by rw[List.length_nil,Nat.zero_add];exact dE k o hk
  have FV:∀(l:List Oper) (fg:List Nat),(nk l fg).length=fg.length+l.length:=by
   intro l;induction l with
   | nil=>intro fg;rfl
   | cons o l ih=>intro fg;show(nk l _).length=_;rw[ih,List.length_append,List.length_cons,List.length_nil,List.length_cons];omega
  have lP:∀(i j:Nat),waits ops i j=true->j<i:=by
   intro i j hw;unfold waits at hw;cases ho:ops[i]? with
   | none=>rw[ho] at hw;cases hw
   | some o=>
    rw[ho] at hw;simp only[Option.map_some,Option.getD_some,Array.any_eq_true',Bool.and_eq_true,beq_iff_eq] at hw;obtain⟨e,he,SQ,rfl⟩:=hw;exact i6 hb ho e he SQ
  refine iC n (ops.size-n) (DI m cx ops n st.env st.heap rs) hm hb il ?_ (λQ' d a w i hi hI j8 mg hc hw=>DI.step q1 wu (λi hi=>q2 i (by omega)) D7 (by rw[FV,List.length_nil,Nat.zero_add,Az]) gC lP hi hI j8 mg hc hw) λd a w hI jy=>?_
  ·obtain⟨bs,S,hs,he⟩:=aY;have hd:Below w.heap.size w w.drew:=(Below.refl _ _).drew;refine⟨bs++List.replicate n undef,S,by rw[AR];exact(hs.grow hd (λ_ h=>h) λ_ h=>.inl h).pads n,λj hj _=>?_,he.d,he.s,λt x hx=>?_⟩
   ·rw[<-hs.len,List.getElem?_append_right (by omega),Nat.add_sub_cancel_left,List.getElem?_replicate,if_pos hj]
   ·rcases eQ hx with⟨j,r,_,h,_⟩|⟨h1,_⟩
    ·cases h
    ·obtain⟨v,k1,k2⟩:=he.k t x h1;exact⟨v,k1,k2.keep (λ_ h=>h) (λ_ _=>rfl) λo u hu _=>by rw[List.getElem?_append_left (List.getElem?_eq_some_iff.1 hu).1];exact hu⟩
  ·obtain⟨bs,S,hs,_,he⟩:=hI;have ik:cP m cx ⟨gF ops (k7 ops n) st.env (λ_=>true) rs,gh st.heap n (λ_=>true) rs⟩ a w:=by
    refine⟨bs,S,?_,he.d,he.s,λt x hx=>he.k t x ?_⟩
    ·have:gh st.heap n (λ_=>true) rs=gh st.heap n d rs:=by
      unfold gh;congr 1
      apply List.map_congr_left;intro j hj;rw[jy j (List.mem_range.1 hj)]
     show HS cx bs w S (gh st.heap n (λ_=>true) rs);rw[this];exact hs
    ·rcases eQ hx with⟨j,r,hj,_,ht,hr,rfl⟩|⟨k1,k2⟩
     ·exact eJ hj (jy j (by omega)) ht hr
     ·exact gE k1 (yt k2)
   have:=mi (C:=C) (Q:=Q) (cx:=cx) (ops.toList.drop n) n rfl h2 ik hQ
   rwa [List.length_drop,Array.length_toList] at this
 ·exact h.elim
end
end Go.Proofs.YtichkplomldgiaaGreatDoor
