/- Wk2 Wk3 -/
import Derived.Test.YtjlhbfbdcfajfaaGreatDoorR02
namespace Go.Proofs.YtjlhbfbdcfajfaaGreatDoor
open Go Go.RowKit
structure Puts (g:Nat) (w w':World):Prop where
 g:w.grownBy w' (some g)
 s:w'.heap.size=w.heap.size
theorem Puts.setRow (w:World) (g:Nat) (cs:Array Value):Puts g w (w.setRow g cs):=by
 have hs:(w.setRow g cs).heap.size=w.heap.size:=by simp[World.setRow]
 exact⟨⟨rfl,rfl,rfl,by rw[hs];exact Nat.le_refl _,fun k _ dA=>setRow_other _ _ _ _ fun e=>dA (by rw[e])⟩,hs⟩
theorem Puts.below {g B:Nat} {w0 w w':World} (h:Puts g w w') (hb:Below B w0 w) (hB:B≤g):Below B w0 w':=
 ⟨h.g.os.trans hb.os,h.g.tape.trans hb.tape,h.g.output.trans hb.output,by rw[h.s];exact hb.size,fun k hk=>by
  by_cases NO:k<w.heap.size
  ·exact(h.g.block k NO (by intro e;injection e with e;omega)).trans (hb.block k hk)
  ·rw[←hb.block k hk,Array.getElem?_eq_none (by rw[h.s];omega),Array.getElem?_eq_none (by omega)]⟩
section
variable {P:Program} {ops:Array Oper} {Q:Exit→Act→World→Prop} {m r n:Nat} {l:List (Nat×Value)} {a:Act} {w:World} {o:Oper}
def outV:Result Next→Value
 | .ok (.value v) _=>v
 | _=>undef
theorem wpOp_now {K:Act→World→Prop} (ho:ops[n]?=some o) (hg:o.guard=none) (h:o.wp P a w K Q):wpOp P ops Q n K a w:=sY ho hg h
theorem tPu (hf:Fr m l a) (t:Nat) (h:∀a',Fr m ((t,outV ((execOp (evL l) o).run P w))::l.filter fun p=>!(p.1==t)) a'→gd P ops Q r (n+1) a' w) (ho:ops[n]?=some o:=by rfl) (hd:o.dst=some t:=by rfl) (ed:opsIn l o.op=true:=by kernel_rfl) (hr:(execOp (evL l) o).run P w=.ok (.value (outV ((execOp (evL l) o).run P w))) w:=by kernel_rfl) (hg:o.guard=none:=by rfl) (ht:t<m:=by decide):gd P ops Q (r+1) n a w:=by
 refine wpOp_now ho hg ?_;unfold Oper.wp;rw[runG hf.k ed hr,Oper.upon_value,hd];exact h _ (hf.put t _ ht)
theorem run_stG {t ty:TypeId} {v:Value} {g k:Nat} {cs:Array Value} (hb:aK w g ty cs) (lk:(P.info? t).map (·.size)=some v.cells.size) (hfit:k+v.cells.size≤cs.size) (h1:∀u∈v.cells.toList,u.oneCell'=true) : (Instr.storeAt t (.pointer (some ⟨g,k,none⟩)) v).run P w=.ok () (w.setRow g (cs.toList.take k++v.cells.toList++cs.toList.drop (k+v.cells.size)).toArray):=by
 have db:=run_storeCells_at P g k ty v.cells.toList 0 cs w hb (by simpa using hfit) h1;cases hq:P.info? t with
 | none=>rw[hq] at lk;cases lk
 | some i=>
  rw[hq] at lk;have hsz':i.size=v.cells.size:=by simpa using lk
  simp[Instr.storeAt,storeVar,Instr.sureAddr,sizeOf,typeInfo,hq,hsz'];simpa using db
theorem tSt (hf:Fr m l a) {t ty:TypeId} {x y:Operand} {g:Nat} {cs:Array Value} (hb:aK w g ty cs) (k:Nat) (cs':Array Value) (h:∀w',Puts g w w'→aK w' g ty cs'→gd P ops Q r (n+1) a w') (ho:ops[n]?=some o:=by rfl) (FS:o.op=.store t x y:=by rfl) (hg:o.guard=none:=by rfl) (hd:o.dst=none:=by rfl) (hx:evL l x=.pointer (some ⟨g,k,none⟩):=by kernel_rfl) (hxi:inL l x=true:=by kernel_rfl) (hyi:inL l y=true:=by kernel_rfl) (lk:(P.info? t).map (·.size)=some (evL l y).cells.size:=by kernel_rfl) (hfit:decide (k+(evL l y).cells.size≤cs.size)=true:=by kernel_rfl) (h1:(evL l y).cells.all (·.oneCell')=true:=by kernel_rfl) (rY:(cs.toList.take k++(evL l y).cells.toList++cs.toList.drop (k+(evL l y).cells.size)).toArray=cs':=by kernel_rfl):gd P ops Q (r+1) n a w:=by
 refine wpOp_now ho hg ?_;have hr:=run_stG (P:=P) hb lk (of_decide_eq_true hfit) (fun u hu=>Array.all_eq_true'.1 h1 u (by simpa using hu));unfold Oper.wp execOp;simp only[FS,evL_eq hf.k hxi,evL_eq hf.k hyi,hx,Sem.run_bind,hr,Result.andThen_ok,Sem.run_pure,Oper.upon_skip,hd];rw[rY];exact h _ (Puts.setRow w g cs') (setRow_heap _ _ _ _ _ _ hb)
theorem tAp {α:Type} [bG α] {S:Nat→Prop} {base bytes d:Nat} {tt e:TypeId} {v:Value} {xs ys:List α} {s x:Operand} (hf:Fr m l a) (ht:cW P tt e (bG.sz α) bytes) (dB:Own w S base e v xs) (nT:base≤w.heap.size) {g nn cc:Nat} {ty:TypeId} {cs:List Value} (hk:aK w g ty cs.toArray) (CP:Flat w S cs ys) (h1:∀u∈cs,u.oneCell'=true) (hn:nn=ys.length) (hl:(xs.length+ys.length)*(bytes+1)≤140737488355328) (h:∀A n' c w',Own w' S base e (.slice A n' c) (xs++ys)→w.grownBy w' v.ownBlock→((Value.slice A n' c).ownBlock=v.ownBlock∨(Value.slice A n' c).ownBlock=some w.heap.size)→∀a',Fr m ((d,.slice A n' c)::l.filter fun p=>!(p.1==d)) a'→gd P ops Q r (n+1) a' w') (ho:ops[n]?=some o:=by rfl) (FS:o.op=.call { callee:=.builtin .append,args:=#[s,x],argTypes:=#[tt,tt] }:=by rfl) (hd:o.dst=some d:=by rfl) (hg:o.guard=none:=by rfl) (Ff:evL l s=v:=by kernel_rfl) (hxv:evL l x=.slice (some ⟨g,0,none⟩) nn cc:=by kernel_rfl) (hsi:inL l s=true:=by kernel_rfl) (hxi:inL l x=true:=by kernel_rfl) (hdm:d<m:=by decide):gd P ops Q (r+1) n a w:=by
 refine wpOp_now ho hg ?_;refine cw (α:=α) s x tt FS bytes ht ((evL_eq hf.k hsi).trans Ff) dB ⟨g,0,none⟩ nn cc cs ys ((evL_eq hf.k hxi).trans hxv) hn CP ?_ h1 hl nT fun v' w' q1 q2 q3=>?_
 ·intro j u hj;have Cs:(⟨g,0,none⟩:Addr).add j=⟨g,j,none⟩:=by unfold Addr.add;split<;>simp_all
  rw[Cs,hk.cell j];simpa using hj
 ·rw[hd];obtain⟨A,n',c,rfl,_⟩:=q1.slice;exact h A n' c w' q1 q2 q3 _ (hf.put d _ hdm)
theorem tCall {f:FuncId} {args:Array Value} {R:Ending→World→Prop} (hf:Fr m l a) (hc:Calls P f args w R) (h:∀e w',R e w'→∃v,e=.returned v∧gd P ops Q r (n+1) (a.put o.dst v) w') (ho:ops[n]?=some o:=by rfl) (ed:opsIn l o.op=true:=by kernel_rfl) (hr:(execOp (evL l) o).run P w=.ok (.enter f args) w:=by kernel_rfl) (hg:o.guard=none:=by rfl):gd P ops Q (r+1) n a w:=by
 refine wpOp_now ho hg ?_;unfold Oper.wp;rw[runG hf.k ed hr,Oper.upon_enter];refine hc.mono fun e w' he=>?_;obtain⟨v,rfl,hv⟩:=h e w' he;exact hv
end
section
variable {P:Program} {Q:Exit→Act→World→Prop} {m:Nat} {l:List (Nat×Value)} {a:Act} {w:World}
theorem kIf {p:Prop} [Decidable p] {c:Operand} {x y:Code} (hf:Fr m l a) (ht:p→x.wp P Q a w) (hn:¬p→y.wp P Q a w) (hc:evL l c=.bool (decide p):=by kernel_rfl) (hi:inL l c=true:=by kernel_rfl):(Code.cond c x y).wp P Q a w:=by
 by_cases h:p
 ·exact wp_cond_true ((evL_eq hf.k hi).trans (hc.trans (by rw[decide_eq_true h]))) (ht h)
 ·exact wp_cond_false ((evL_eq hf.k hi).trans (hc.trans (by rw[decide_eq_false h]))) (hn h)
theorem kIfB {b:Bool} {c:Operand} {x y:Code} (hf:Fr m l a) (ht:b=true→x.wp P Q a w) (hn:b=false→y.wp P Q a w) (hc:evL l c=.bool b:=by kernel_rfl) (hi:inL l c=true:=by kernel_rfl):(Code.cond c x y).wp P Q a w:=by
 cases b with
 | true=>exact wp_cond_true ((evL_eq hf.k hi).trans hc) (ht rfl)
 | false=>exact wp_cond_false ((evL_eq hf.k hi).trans hc) (hn rfl)
theorem kEnter {f:FuncId} {fn:Func} {c:Code} {args:Array Value} {R:Ending→World→Prop} (hf:P.funcs[f]?=some fn) (l:List (Nat×Value)) (h:∀a,Fr fn.ntmps l a→c.wp P (bodyPost P fn R) a w) (hb:fn.body=some c:=by rfl) (hl:l.map (fun p=>args[p.1]?)=l.map (fun p=>some p.2):=by kernel_rfl) (hs:decide (args.size≤fn.ntmps)=true:=by kernel_rfl):Calls P f args w R:=by
 have hs':=of_decide_eq_true hs;refine calls_of_wp hf hb (h _ ⟨rfl,?_,fun p hp=>?_⟩)
 ·show(args++Array.replicate (fn.ntmps-args.size) undef).size=_;rw[Array.size_append,Array.size_replicate];omega
 ·have:=List.map_inj_left.1 hl p hp;show(args++Array.replicate (fn.ntmps-args.size) undef)[p.1]?=_;rw[Array.getElem?_append,this];rw[if_pos (Array.getElem?_eq_some_iff.1 this).1]
theorem kRet {fn:Func} {R:Ending→World→Prop} {t:Nat} {v:Value} {e:Exit} (hf:Fr m l a) (hR:R (.returned v) w) (he:e=.ret∨e=.normal:=by first|exact .inl rfl|exact .inr rfl) (hr:fn.results=#[.tmp t]:=by rfl) (hv:l.lookup t=some v:=by kernel_rfl):bodyPost P fn R e a w:=by
 have h1:a.tmps.getD t undef=v:=by rw[Array.getD_eq_getD_getElem?,hf.k _ (lookup_mem hv)];rfl
 have h2:=results_tmp (P:=P) (w:=w) hr a.tmps;rw[h1] at h2;rcases he with rfl|rfl
 ·exact⟨hf.d,v,h2,hR⟩
 ·exact⟨hf.d,v,h2,hR⟩
theorem kRet2 {fn:Func} {R:Ending→World→Prop} {t u:Nat} {v x:Value} {e:Exit} (hf:Fr m l a) (hR:R (.returned (.tuple #[v,x])) w) (he:e=.ret∨e=.normal:=by first|exact .inl rfl|exact .inr rfl) (hr:fn.results=#[.tmp t,.tmp u]:=by rfl) (hv:l.lookup t=some v:=by kernel_rfl) (hu:l.lookup u=some x:=by kernel_rfl):bodyPost P fn R e a w:=by
 have h1:a.tmps.getD t undef=v:=by rw[Array.getD_eq_getD_getElem?,hf.k _ (lookup_mem hv)];rfl
 have h3:a.tmps.getD u undef=x:=by rw[Array.getD_eq_getD_getElem?,hf.k _ (lookup_mem hu)];rfl
 have h2:=results_tmp2 (P:=P) (w:=w) hr a.tmps;rw[h1,h3] at h2;rcases he with rfl|rfl
 ·exact⟨hf.d,_,h2,hR⟩
 ·exact⟨hf.d,_,h2,hR⟩
theorem kRetS {fn:Func} {R:Ending→World→Prop} {t g:Nat} {ty ty':TypeId} {cs:Array Value} {e:Exit} {d:TypeDesc} (hf:Fr m l a) (hb:aK w g ty' cs) (hR:R (.returned (.agg cs)) w) (hu:P.underlying ty=some d) (he:e=.ret∨e=.normal:=by first|exact .inl rfl|exact .inr rfl) (hr:fn.results=#[.cell t ty]:=by rfl) (hv:l.lookup t=some (.pointer (some ⟨g,0,none⟩)):=by kernel_rfl) (hd:(match d with|.struct _|.array _ _=>true|_=>false)=true:=by rfl) (hi:(P.info? ty).map (·.size)=some cs.size:=by kernel_rfl):bodyPost P fn R e a w:=by
 have h1:a.tmps.getD t undef=.pointer (some ⟨g,0,none⟩):=by rw[Array.getD_eq_getD_getElem?,hf.k _ (lookup_mem hv)];rfl
 have h2:=results_cell_row (P:=P) hr a.tmps w g ty' cs (0,0) d h1 hb hu hd hi;rcases he with rfl|rfl
 ·exact⟨hf.d,_,h2,hR⟩
 ·exact⟨hf.d,_,h2,hR⟩
end
inductive LdE where
 | c (p:Addr) (v:Value)
 | s (g:Nat) (cs:Array Value)
 | m (p:Addr) (cs:List Value)
 | t (i:Nat) (v v':Value)
 | r (i:Nat) (s:Sem Value) (v:Value)
def LdE.at:LdE→Value
 | .c p _=>.pointer (some p)
 | .s g _=>.pointer (some ⟨g,0,none⟩)
 | .m p _=>.pointer (some p)
 | .t _ v _=>v
 | .r _ _ v=>v
def LdE.v:LdE→Value
 | .c _ v=>v
 | .s _ cs=>.agg cs
 | .m _ cs=>.agg cs.toArray
 | .t _ _ v=>v
 | .r _ _ v=>v
def LdE.ok (P:Program) (w:World):LdE→Prop
 | .c p v=>w.cell? p=some v
 | .s g cs=>∃ty,aK w g ty cs
 | .m p cs=>eT w p cs
 | .t _ v v'=>v=v'
 | .r _ q v=>q.run P w=.ok v w
structure LdP (P:Program) (w:World) where
 e:LdE
 h:e.ok P w
def cl {P:Program} {w:World} {p:Addr} {v:Value} (h:w.cell? p=some v):LdP P w:=⟨.c p v,h⟩
def Wrl {P:Program} {w:World} {g:Nat} {ty:TypeId} {cs:Array Value} (h:aK w g ty cs):LdP P w:=⟨.s g cs,ty,h⟩
def tl {P:Program} {w:World} {v v':Value} (i:Nat) (h:v=v'):LdP P w:=⟨.t i v v',h⟩
def Wml {P:Program} {w:World} {p:Addr} {cs:List Value} (h:eT w p cs):LdP P w:=⟨.m p cs,h⟩
def tb {P:Program} {w:World} {b b':Bool} (i:Nat) (h:b=b'):LdP P w:=⟨.t i (.bool b) (.bool b'),by rw[h];rfl⟩
def rn {P:Program} {w:World} {s:Sem Value} {v:Value} (i:Nat) (h:s.run P w=.ok v w):LdP P w:=⟨.r i s v,h⟩
def aggB (P:Program) (t:TypeId):Option Bool:=(P.underlying t).map fun d=>match d with|.struct _|.array _ _=>true|_=>false
def LdE.fit (P:Program) (t:TypeId):LdE→Bool
 | .c _ _=>aggB P t==some false
 | .s _ cs=>aggB P t==some true&&(P.info? t).map (·.size)==some cs.size
 | .m _ cs=>aggB P t==some true&&(P.info? t).map (·.size)==some cs.length
 | .t ..|.r ..=>false
theorem loadM {P:Program} {w:World} {t:TypeId} {p:Addr} {cs:List Value} (hc:eT w p cs) (h1:aggB P t=some true) (h2:(P.info? t).map (·.size)=some cs.length):(Instr.loadAt t (.pointer (some p))).run P w=.ok (.agg cs.toArray) w:=by
 unfold aggB at h1;cases hu:P.underlying t with
 | none=>rw[hu] at h1;cases h1
 | some d=>
  rw[hu] at h1;cases hi:P.info? t with
  | none=>rw[hi] at h2;cases h2
  | some i=>
   rw[hi] at h2;have hs:i.size=cs.length:=by simpa using h2
   have hagg:(isAgg t).run P w=.ok true w:=by
    unfold isAgg;rw[Sem.run_bind,run_underlying hu w];cases d<;>simp_all
   have hl:=run_loadCells_list (P:=P) w p cs hc;simp[Instr.loadAt,Instr.sureAddr,loadVar,Sem.run_bind,hagg,sizeOf,typeInfo,hi,hs,hl]
theorem LdE.run {P:Program} {w:World} {t:TypeId} {e:LdE} (h:e.ok P w) (hf:e.fit P t=true):(Instr.loadAt t e.at).run P w=.ok e.v w:=by
 cases e with
 | c p v=>
  have hf':aggB P t=some false:=by simpa[LdE.fit] using hf
  exact loadG h hf'
 | s g cs=>
  obtain⟨ty,hb⟩:=h;simp only[LdE.fit,Bool.and_eq_true,beq_iff_eq] at hf;obtain⟨h1,h2⟩:=hf;unfold aggB at h1;cases hu:P.underlying t with
  | none=>rw[hu] at h1;cases h1
  | some d=>
   rw[hu] at h1;have:=run_loadVar_row (P:=P) w g ty t cs (0,0) d hb hu (by injection h1 with h1;cases d<;>first|rfl|exact h1) h2;simp only[Instr.loadAt,LdE.at,Instr.sureAddr,Sem.run_bind,Sem.run_pure,Result.andThen_ok,this];rfl
 | m p cs=>
  simp only[LdE.fit,Bool.and_eq_true,beq_iff_eq] at hf;exact loadM h hf.1 hf.2
 | t i v v'=>cases hf
 | r i s v=>cases hf
def isLoad:Op→Option (TypeId×Operand)
 | .load t x=>some (t,x)
 | _=>none
def gdL (ops:Array Oper) (l:List (Nat×Value)) (o:Oper):Option Bool:=match o.guard with
 | none=>some true
 | some (j,want)=>match (gY ops j).bind (fun t=>l.lookup t) with
  | some (.bool b)=>some (b==want)
  | _=>none
def putK (l:List (Nat×Value)) (d:Option Tmp) (v:Value):List (Nat×Value):=match d with
 | some t=>(t,v)::l.filter fun p=>!(p.1==t)
 | none=>l
def told (k:Nat):List LdE→Option (Value×Value×List LdE)
 | .t i v v'::es=>if i=k then some (v,v',es) else none
 | _=>none
def toldR (k:Nat):List LdE→Option (Sem Value×Value×List LdE)
 | .r i s v::es=>if i=k then some (s,v,es) else none
 | _=>none
def semV (s:Sem Value):Sem Next:=do pure (.value (←s))
def goP (P:Program) (ops:Array Oper) (w:World) (m:Nat):List Oper→Nat→List LdE→List (Nat×Value)→Option (List (Nat×Value)×List (Value×Value)×List (Result Next×Result Next)×List (Sem Next×Sem Next))
 | [],_,_,l=>some (l,[],[],[])
 | o::os,k,es,l=>match (match o.dst with|some t=>decide (t<m)|none=>true),gdL ops l o with
  | true,some false=>goP P ops w m os (k+1) es (putK l o.dst undef)
  | true,some true=>match isLoad o.op with
   | some (t,x)=>match es with
    | e::es=>if e.fit P t&&inL l x then(goP P ops w m os (k+1) es (putK l o.dst e.v)).map fun q=>(q.1,(evL l x,e.at)::q.2.1,q.2.2) else none
    | []=>none
   | none=>match toldR k es with
    | some (s,v,es')=>if opsIn l o.op then(goP P ops w m os (k+1) es' (putK l o.dst v)).map fun q=>(q.1,q.2.1,q.2.2.1,(execOp (evL l) o,semV s)::q.2.2.2) else none
    | none=>if pureK o.op&&opsIn l o.op then match told k es with
     | some (v,v',es')=>(goP P ops w m os (k+1) es' (putK l o.dst v')).map fun q=>(q.1,q.2.1,((execOp (evL l) o).run P w,.ok (.value v) w)::q.2.2.1,q.2.2.2)
     | none=>(goP P ops w m os (k+1) es (putK l o.dst (outV ((execOp (evL l) o).run P w)))).map fun q=>(q.1,q.2.1,((execOp (evL l) o).run P w,.ok (.value (outV ((execOp (evL l) o).run P w))) w)::q.2.2.1,q.2.2.2)
     else none
  | _,_=>none
section
variable {P:Program} {ops:Array Oper} {Q:Exit→Act→World→Prop} {m:Nat} {l:List (Nat×Value)} {a:Act} {w:World}
theorem Fr.putK (h:Fr m l a) (d:Option Tmp) (v:Value) (hd:(match d with|some t=>decide (t<m)|none=>true)=true):Fr m (putK l d v) (a.put d v):=by
 cases d with
 | none=>exact h
 | some t=>exact h.put t v (of_decide_eq_true hd)
theorem wanted_gdL (hf:Fr m l a) {o:Oper} {b:Bool} (h:gdL ops l o=some b):Region.wanted o (yielded ops a.tmps)=b:=by
 unfold gdL at h;unfold Region.wanted;cases hg:o.guard with
 | none=>rw[hg] at h;injection h with h
 | some p=>
  obtain⟨j,want⟩:=p;rw[hg] at h;simp only at h;cases hd:gY ops j with
  | none=>rw[hd] at h;cases h
  | some t=>
   rw[hd] at h;simp only[Option.bind_some] at h;cases hl:l.lookup t with
   | none=>rw[hl] at h;cases h
   | some v=>
    rw[hl] at h;have hv:=hf.k _ (lookup_mem hl);cases v with
    | bool c=>
     injection h with h
     have hy:yielded ops a.tmps j=some c:=by
      unfold yielded;unfold gY at hd;cases ho:ops[j]? with
      | none=>rw[ho] at hd;cases hd
      | some q=>
       rw[ho] at hd;have hd':q.dst=some t:=hd;simp[hd',hv]
     simp only[hy];rw[←h];cases c<;>cases want<;>rfl
    | _=>cases h
theorem told_ok {w:World} {k:Nat} {es es':List LdE} {v v':Value} (h:told k es=some (v,v',es')) (Cp:∀e∈es,e.ok P w):v=v'∧∀e∈es',e.ok P w:=by
 unfold told at h;split at h
 ·rename_i i x x' es2;split at h
  ·injection h with h
   injection h with h1 h2
   injection h2 with h2 h3
   subst h1 h2 h3;exact⟨Cp _ List.mem_cons_self,fun e he=>Cp e (List.mem_cons_of_mem _ he)⟩
  ·cases h
 ·cases h
theorem toldR_ok {w:World} {k:Nat} {es es':List LdE} {s:Sem Value} {v:Value} (h:toldR k es=some (s,v,es')) (Cp:∀e∈es,e.ok P w):s.run P w=.ok v w∧∀e∈es',e.ok P w:=by
 unfold toldR at h;split at h
 ·rename_i i x x' es2;split at h
  ·injection h with h
   injection h with h1 h2
   injection h2 with h2 h3
   subst h1 h2 h3;exact⟨Cp _ List.mem_cons_self,fun e he=>Cp e (List.mem_cons_of_mem _ he)⟩
  ·cases h
 ·cases h
theorem goP_sound:∀(os:List Oper) (k:Nat) (es:List LdE) (l:List (Nat×Value)) (a:Act) (i:Nat) (lf:List (Nat×Value)) (ad:List (Value×Value)) (rs:List (Result Next×Result Next)) (ss:List (Sem Next×Sem Next)),(∀k o,os[k]?=some o→ops[i+k]?=some o)→Fr m l a→(∀e∈es,e.ok P w)→goP P ops w m os k es l=some (lf,ad,rs,ss)→(∀x∈ad,x.1=x.2)→(∀x∈rs,x.1=x.2)→(∀x∈ss,x.1=x.2)→ (∀a',Fr m lf a'→wpOps P ops Q (List.range' (i+os.length) (ops.size-(i+os.length))) a' w)→ops.size=i+os.length+(ops.size-(i+os.length))→wpOps P ops Q (List.range' i (ops.size-i)) a w
 | [],_,es,l,a,i,lf,ad,rs,ss,_,hf,_,h,_,_,_,tD,_=>by
  injection h with h
  injection h with h1 h2
  subst h1;exact tD a hf
 | o::os,k,es,l,a,i,lf,ad,rs,ss,ho,hf,Cp,h,had,mJ,hss,tD,lk=>by
  have h0:=ho 0 o rfl;rw[Nat.add_zero] at h0;have hsz':ops.size-i=(ops.size-(i+1))+1:=by simp only[List.length_cons] at lk;omega
  rw[hsz',List.range'_succ,wpOps_cons];have wL:∀(es:List LdE) (l:List (Nat×Value)) (a:Act) (ad:List (Value×Value)) (rs:List (Result Next×Result Next)) (ss:List (Sem Next×Sem Next)),Fr m l a→(∀e∈es,e.ok P w)→goP P ops w m os (k+1) es l=some (lf,ad,rs,ss)→(∀x∈ad,x.1=x.2)→(∀x∈rs,x.1=x.2)→(∀x∈ss,x.1=x.2)→wpOps P ops Q (List.range' (i+1) (ops.size-(i+1))) a w:=
   fun es l a ad rs ss q1 q2 q3 q4 q5 q6=>goP_sound os (k+1) es l a (i+1) lf ad rs ss (fun k o hk=>by rw[show i+1+k=i+(k+1) by omega];exact ho (k+1) o (by simpa using hk)) q1 q2 q3 q4 q5 q6
    (by simp only[List.length_cons] at tD;rw[show i+1+os.length=i+(os.length+1) by omega];exact tD) (by simp only[List.length_cons] at lk;omega)
  unfold wpOp;simp only[h0];unfold goP at h;split at h
  ·rename_i hdm Co;rw[wanted_gdL hf Co];simp only[Bool.false_eq_true,if_false];exact wL es _ _ ad rs ss (hf.putK o.dst undef hdm) Cp h had mJ hss
  ·rename_i hdm Co;rw[wanted_gdL hf Co];simp only[if_true];left
   cases jG:isLoad o.op with
   | some tx=>
    obtain⟨t,x⟩:=tx;rw[jG] at h;cases es with
    | nil=>cases h
    | cons e es'=>
     simp only at h;split at h
     ·rename_i FY;rw[Bool.and_eq_true] at FY;cases hg:goP P ops w m os (k+1) es' (Go.Proofs.YtjlhbfbdcfajfaaGreatDoor.putK l o.dst e.v) with
      | none=>rw[hg] at h;cases h
      | some q=>
       obtain⟨lf',ad',rs',ss'⟩:=q;rw[hg] at h;injection h with h
       injection h with h1 h2
       injection h2 with h2 h3
       injection h3 with h3 h4
       subst h1 h2 h3 h4;have FS:o.op=.load t x:=by
        unfold isLoad at jG;split at jG
        ·rename_i t' x' he;injection jG with jG
         injection jG with e1 e2
         rw[he,e1,e2]
        ·cases jG
       have hx:a.eval x=e.at:=(evL_eq hf.k FY.2).trans (had _ List.mem_cons_self);have hr:=LdE.run (P:=P) (Cp e List.mem_cons_self) FY.1;unfold Oper.wp execOp;simp only[FS,hx,Sem.run_bind,hr,Result.andThen_ok,Sem.run_pure,Oper.upon_value];exact wL es' _ _ ad' rs' ss' (hf.putK o.dst e.v hdm) (fun y hy=>Cp y (List.mem_cons_of_mem _ hy)) hg (fun y hy=>had y (List.mem_cons_of_mem _ hy)) mJ hss
     ·cases h
   | none=>
    rw[jG] at h;simp only at h;cases W9:toldR k es with
    | some z=>
     obtain⟨sv,v,es'⟩:=z;rw[W9] at h;simp only at h;obtain⟨Ff,hes'⟩:=toldR_ok W9 Cp;split at h
     ·rename_i FY;cases hg:goP P ops w m os (k+1) es' (Go.Proofs.YtjlhbfbdcfajfaaGreatDoor.putK l o.dst v) with
      | none=>rw[hg] at h;cases h
      | some q=>
       obtain⟨lf',ad',rs',ss'⟩:=q;rw[hg] at h;injection h with h
       injection h with h1 h2
       injection h2 with h2 h3
       injection h3 with h3 h4
       subst h1 h2 h3 h4;have he:execOp (evL l) o=semV sv:=hss _ List.mem_cons_self;unfold Oper.wp;rw[exec_evL hf.k FY,he];unfold semV;simp only[Sem.run_bind,Ff,Result.andThen_ok,Sem.run_pure,Oper.upon_value];exact wL es' _ _ ad' rs' ss' (hf.putK o.dst _ hdm) hes' hg had mJ (fun y hy=>hss y (List.mem_cons_of_mem _ hy))
     ·cases h
    | none=>
     rw[W9] at h;simp only at h;split at h
     ·rename_i FY;rw[Bool.and_eq_true] at FY;cases htd:told k es with
      | some z=>
       obtain⟨v,v',es'⟩:=z;rw[htd] at h;simp only at h;obtain⟨hvv,hes'⟩:=told_ok htd Cp;cases hg:goP P ops w m os (k+1) es' (Go.Proofs.YtjlhbfbdcfajfaaGreatDoor.putK l o.dst v') with
       | none=>rw[hg] at h;cases h
       | some q=>
        obtain⟨lf',ad',rs',ss'⟩:=q;rw[hg] at h;injection h with h
        injection h with h1 h2
        injection h2 with h2 h3
        injection h3 with h3 h4
        subst h1 h2 h3 h4;have hr:(execOp (evL l) o).run P w=.ok (.value v) w:=mJ _ List.mem_cons_self;unfold Oper.wp;rw[exec_evL hf.k FY.2,hr,Oper.upon_value,hvv];exact wL es' _ _ ad' rs' ss' (hf.putK o.dst _ hdm) hes' hg had (fun y hy=>mJ y (List.mem_cons_of_mem _ hy)) hss
      | none=>
       rw[htd] at h;simp only at h;cases hg:goP P ops w m os (k+1) es (Go.Proofs.YtjlhbfbdcfajfaaGreatDoor.putK l o.dst (outV ((execOp (evL l) o).run P w))) with
       | none=>rw[hg] at h;cases h
       | some q=>
        obtain⟨lf',ad',rs',ss'⟩:=q;rw[hg] at h;injection h with h
        injection h with h1 h2
        injection h2 with h2 h3
        injection h3 with h3 h4
        subst h1 h2 h3 h4;have hr:(execOp (evL l) o).run P w=.ok (.value (outV ((execOp (evL l) o).run P w))) w:=mJ _ List.mem_cons_self;unfold Oper.wp;rw[exec_evL hf.k FY.2,hr,Oper.upon_value];exact wL es _ _ ad' rs' ss' (hf.putK o.dst _ hdm) Cp hg had (fun y hy=>mJ y (List.mem_cons_of_mem _ hy)) hss
     ·cases h
  ·cases h
theorem WkP {id:Nat} (hf:Fr m l a) (ls:List (LdP P w)) (l':List (Nat×Value)) (h:∀a',Fr m l' a'→Q .normal a' w) (hk:(goP P ops w m ops.toList 0 (ls.map (·.e)) l).map (fun x=>(x.2.1.map (·.1),x.2.2.1.map (·.1),x.2.2.2.map (·.1),l'.map fun p=>x.1.lookup p.1))=(goP P ops w m ops.toList 0 (ls.map (·.e)) l).map (fun x=>(x.2.1.map (·.2),x.2.2.1.map (·.2),x.2.2.2.map (·.2),l'.map fun p=>some p.2)):=by kernel_rfl) (hs:(goP P ops w m ops.toList 0 (ls.map (·.e)) l).isSome=true:=by kernel_rfl):(Code.region id ops false).wp P Q a w:=by
 obtain⟨q,hq⟩:=Option.isSome_iff_exists.1 hs;obtain⟨lf,ad,rs,ss⟩:=q;rw[hq] at hk;injection hk with hk
 injection hk with h1 h2
 injection h2 with h2 h3
 injection h3 with h3 h4
 refine wp_region ?_;have:=goP_sound (P:=P) (ops:=ops) (Q:=Q) (m:=m) (w:=w) ops.toList 0 (ls.map (·.e)) l a 0 lf ad rs ss (fun k o hk=>by simpa using hk) hf (fun e he=>by
  obtain⟨y,_,rfl⟩:=List.mem_map.1 he;exact y.h) hq (fun x hx=>List.map_inj_left.1 h1 x hx) (fun x hx=>List.map_inj_left.1 h2 x hx) (fun x hx=>List.map_inj_left.1 h3 x hx) (fun a' hf'=>by
   simp only[Array.length_toList,Nat.zero_add,Nat.sub_self,List.range'_zero];exact h a' ⟨hf'.d,hf'.s,fun p hp=>hf'.k _ (lookup_mem (List.map_inj_left.1 h4 p hp))⟩) (by simp)
 rw[List.range_eq_range'];simpa using this
theorem Wrp {id:Nat} {y:Code} (hf:Fr m l a) (ls:List (LdP P w)) (l':List (Nat×Value)) (h:∀a',Fr m l' a'→y.wp P Q a' w) (hk:(goP P ops w m ops.toList 0 (ls.map (·.e)) l).map (fun x=>(x.2.1.map (·.1),x.2.2.1.map (·.1),x.2.2.2.map (·.1),l'.map fun p=>x.1.lookup p.1))=(goP P ops w m ops.toList 0 (ls.map (·.e)) l).map (fun x=>(x.2.1.map (·.2),x.2.2.1.map (·.2),x.2.2.2.map (·.2),l'.map fun p=>some p.2)):=by kernel_rfl) (hs:(goP P ops w m ops.toList 0 (ls.map (·.e)) l).isSome=true:=by kernel_rfl):(Code.seq (Code.region id ops false) y).wp P Q a w:=wp_seq (WkP hf ls l' h hk hs)
theorem rg {id:Nat} {dr:Bool} {y:Code} (hf:Fr m l a) (gs:List Gv) (r:Nat) (FN:List Nat) (hp:∀w,((List.range gs.length).filter (fun i=>!FN.contains i)).map (prG P ops gs l w)=((List.range gs.length).filter (fun i=>!FN.contains i)).map fun i=>.ok (.value (valG gs i)) w) (hj:AllJ (JobG P ops gs l a w) FN) (tD:∀a' col w',Below w.heap.size w w'→Fr m (knE ops gs l) a'→(∀j,j<gs.length→Has ops (phi gs) a' col w' j)→gd P ops (Exit.then (y.wp P Q) Q) r gs.length a' w') (tB:(List.range gs.length).all (fun i=>FN.contains i||puG ops gs l i)=true:=by kernel_rfl) (iW:kH (gs.length+r) ops=true:=by kernel_rfl) (rk:Ev ops gs.length m=true:=by kernel_rfl) (hdr:(!dr||(decide (0<r)&&Ul ops gs.length (gs.length+r)&&P.follows .mixedOrders))=true:=by kernel_rfl):(Code.seq (Code.region id ops dr) y).wp P Q a w:=wp_seq (wp_reg hf gs r FN hp hj tD tB iW rk hdr)
section
variable {gs:List Gv} {W:World} {col:Nat→Nat}
theorem gotB {k:Nat} {ty:TypeId} {cs:Array Value} (hH:∀j,j<gs.length→Has ops (phi gs) a col w j) (j t:Nat) (hg:gs[j]?=some (gB W k ty cs):=by rfl) (ht:gY ops j=some t:=by rfl) (hj:decide (j<gs.length)=true:=by kernel_rfl):∃g,a.tmps[t]?=some (.pointer (some ⟨g,0,none⟩))∧W.heap.size≤g∧col g=k∧aK w g ty cs:=by
 obtain⟨v,hv,hΦ⟩:=hH j (of_decide_eq_true hj);unfold phi at hΦ;rw[hg] at hΦ;obtain⟨g,rfl,h1,h2,h3⟩:ΦB W k ty cs v col w:=hΦ;exact⟨g,hv t ht,h1,h2,h3⟩
theorem gotS {α:Type} [bG α] {k:Nat} {x:α} (hH:∀j,j<gs.length→Has ops (phi gs) a col w j) (j t:Nat) (hg:gs[j]?=some (gS W k x):=by rfl) (ht:gY ops j=some t:=by rfl) (hj:decide (j<gs.length)=true:=by kernel_rfl):∃cs,a.tmps[t]?=some (.agg (List.toArray cs))∧bG.rep w (RD W k col w) cs x:=by
 obtain⟨v,hv,hΦ⟩:=hH j (of_decide_eq_true hj);unfold phi at hΦ;rw[hg] at hΦ;obtain⟨cs,rfl,h1⟩:SV w (RD W k col w) v x:=hΦ;exact⟨cs,hv t ht,h1⟩
theorem gotL {α:Type} [bG α] {k:Nat} {xs:List α} (hH:∀j,j<gs.length→Has ops (phi gs) a col w j) (j t:Nat) (hg:gs[j]?=some (gL W k xs):=by rfl) (ht:gY ops j=some t:=by rfl) (hj:decide (j<gs.length)=true:=by kernel_rfl):∃A n c,a.tmps[t]?=some (.slice A n c)∧RS w (RD W k col w) A n c xs:=by
 obtain⟨v,hv,hΦ⟩:=hH j (of_decide_eq_true hj);unfold phi at hΦ;rw[hg] at hΦ;obtain⟨A,n,c,rfl,h1⟩:ΦL W k xs v col w:=hΦ;exact⟨A,n,c,hv t ht,h1⟩
theorem gotR {α:Type} [bG α] {k q n:Nat} {ty:TypeId} {xs:List α} (hH:∀j,j<gs.length→Has ops (phi gs) a col w j) (j t:Nat) (hg:gs[j]?=some (gR W k q ty xs n):=by rfl) (ht:gY ops j=some t:=by rfl) (hj:decide (j<gs.length)=true:=by kernel_rfl) : ∃g cs,a.tmps[t]?=some (.slice (some ⟨g,0,none⟩) n n)∧W.heap.size≤g∧col g=q∧aK w g ty (List.toArray cs)∧Flat w (fun b=>RD W k col w b∧col b≠q) cs xs∧n=xs.length∧∀u∈cs,u.oneCell'=true:=by
 obtain⟨v,hv,hΦ⟩:=hH j (of_decide_eq_true hj);unfold phi at hΦ;rw[hg] at hΦ;obtain⟨g,cs,rfl,h⟩:ΦR W k q ty xs n v col w:=hΦ;exact⟨g,cs,hv t ht,h⟩
end
end
end Go.Proofs.YtjlhbfbdcfajfaaGreatDoor
