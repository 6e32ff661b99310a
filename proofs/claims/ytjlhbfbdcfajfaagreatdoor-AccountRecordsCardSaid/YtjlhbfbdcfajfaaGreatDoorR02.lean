/- Gr Wk -/
import Derived.Test.YtjlhbfbdcfajfaaGreatDoorR01
import Derived.Great.BuildSlice
namespace Go.Proofs.YtjlhbfbdcfajfaaGreatDoor
open Go Go.RowKit
def evL (l:List (Nat×Value)):Operand→Value
 | .tmp t=>(l.lookup t).getD undef
 | .const v=>v
 | .global g=>.pointer (some ⟨g,0,none⟩)
 | .func f=>.func (.func f) #[] #[]
def plainOp:Op→Bool
 | .move _|.assign _|.pick ..|.alloc _|.box ..|.build ..|.buildSlice ..|.load ..|.store ..|.nilCheck _|.binOp ..|.unOp ..|.convert ..|.makeFunc ..|.slice ..|.fieldAddr ..|.indexAddr ..|.lookup ..|.extract ..|.field ..|.index ..|.makeSlice ..|.sliceToArrayPointer ..|.call _=>true
 | _=>false
theorem execOp_congr {ρ ρ':Operand→Value} {o:Oper} (hp:plainOp o.op=true) (h:∀x∈o.op.operands,ρ x=ρ' x):execOp ρ o=execOp ρ' o:=by
 unfold execOp;cases ho:o.op with
 | build t ps=>
  rw[ho] at h;have:(ps.map fun(i,x)=>(i,ρ x))=ps.map fun(i,x)=>(i,ρ' x):=by
   apply Array.map_congr_left;rintro⟨i,x⟩ hp;show(i,ρ x)=(i,ρ' x);rw[h x (by simp only[Op.operands,List.mem_toArray,List.mem_map];exact⟨(i,x),by simpa using hp,rfl⟩)]
  simp only[this]
 | buildSlice t n ps=>
  rw[ho] at h;have:(ps.map fun(i,x)=>(i,ρ x))=ps.map fun(i,x)=>(i,ρ' x):=by
   apply Array.map_congr_left;rintro⟨i,x⟩ hp;show(i,ρ x)=(i,ρ' x);rw[h x (by simp only[Op.operands,List.mem_toArray,List.mem_map];exact⟨(i,x),by simpa using hp,rfl⟩)]
  simp only[this]
 | makeFunc fn fs cs=>
  rw[ho] at h;have h1:fs.map ρ=fs.map ρ':=Array.map_congr_left fun x hx=>h x (by simp[Op.operands,hx]);have h2:cs.map ρ=cs.map ρ':=Array.map_congr_left fun x hx=>h x (by simp[Op.operands,hx]);simp only[h1,h2]
 | slice t x l hi m=>
  rw[ho] at h;have h0:=h x (by simp[Op.operands]);have h1:l.map ρ=l.map ρ':=by cases l with|none=>rfl|some y=>simp[h y (by simp[Op.operands])]
  have h2:hi.map ρ=hi.map ρ':=by cases hi with|none=>rfl|some y=>simp[h y (by simp[Op.operands])]
  have h3:m.map ρ=m.map ρ':=by cases m with|none=>rfl|some y=>simp[h y (by simp[Op.operands])]
  simp only[h0,h1,h2,h3]
 | call c=>
  rw[ho] at h;have h1:c.args.map ρ=c.args.map ρ':=Array.map_congr_left fun x hx=>h x (by simp[Op.operands,Call.operands,hx]);have h2:resolve ρ c o.type=resolve ρ' c o.type:=by
   unfold resolve;simp only[h1];cases hc:c.callee with
   | builtin b=>rfl
   | invoke r n=>simp only[h r (by simp[Op.operands,Call.operands,hc])]
   | value f=>simp only[h f (by simp[Op.operands,Call.operands,hc])]
  simp only[h2]
 | alloc _=>rfl
 | move x=>rw[ho] at h;simp only[h x (by simp[Op.operands])]
 | assign x=>rw[ho] at h;simp only[h x (by simp[Op.operands])]
 | box t x=>rw[ho] at h;simp only[h x (by simp[Op.operands])]
 | load t x=>rw[ho] at h;simp only[h x (by simp[Op.operands])]
 | nilCheck x=>rw[ho] at h;simp only[h x (by simp[Op.operands])]
 | unOp k t x=>rw[ho] at h;simp only[h x (by simp[Op.operands])]
 | convert s t x=>rw[ho] at h;simp only[h x (by simp[Op.operands])]
 | fieldAddr s x i=>rw[ho] at h;simp only[h x (by simp[Op.operands])]
 | pick c x y=>rw[ho] at h;simp only[h c (by simp[Op.operands]),h x (by simp[Op.operands]),h y (by simp[Op.operands])]
 | store t x y=>rw[ho] at h;simp only[h x (by simp[Op.operands]),h y (by simp[Op.operands])]
 | binOp k t x y u=>rw[ho] at h;simp only[h x (by simp[Op.operands]),h y (by simp[Op.operands])]
 | indexAddr t x y=>rw[ho] at h;simp only[h x (by simp[Op.operands]),h y (by simp[Op.operands])]
 | lookup t x y c=>rw[ho] at h;simp only[h x (by simp[Op.operands]),h y (by simp[Op.operands])]
 | extract x i=>rw[ho] at h;simp only[h x (by simp[Op.operands])]
 | field s x i=>rw[ho] at h;simp only[h x (by simp[Op.operands])]
 | sliceToArrayPointer s x=>rw[ho] at h;simp only[h x (by simp[Op.operands])]
 | index t x y=>rw[ho] at h;simp only[h x (by simp[Op.operands]),h y (by simp[Op.operands])]
 | makeSlice t x y=>rw[ho] at h;simp only[h x (by simp[Op.operands]),h y (by simp[Op.operands])]
 | _=>(rw[ho] at hp)<;>cases hp
section
variable {P:Program} {ops:Array Oper} {Q:Exit→Act→World→Prop}
def WKn (a:Act) (l:List (Nat×Value)):Prop:=∀p∈l,a.tmps[p.1]?=some p.2
theorem WKn.nil {a:Act}:WKn a []:=fun _ h=>by cases h
theorem WKn.c {a:Act} {l:List (Nat×Value)} {t:Nat} {v:Value} (k:WKn a l) (h:a.tmps[t]?=some v):WKn a ((t,v)::l):=fun p hp=>by
 rcases List.mem_cons.1 hp with rfl|hp
 ·exact h
 ·exact k p hp
theorem lookup_mem {l:List (Nat×Value)} {t:Nat} {v:Value} (h:l.lookup t=some v):(t,v)∈l:=by
 induction l with
 | nil=>cases h
 | cons p l ih=>
  obtain⟨u,x⟩:=p;rw[List.lookup_cons] at h;by_cases e:(t==u)=true
  ·rw[e] at h;have e2:=eq_of_beq e;injection h with h
   subst e2 h;exact List.mem_cons_self
  ·have e':(t==u)=false:=by simpa using e
   rw[e'] at h;exact List.mem_cons_of_mem _ (ih h)
def inL (l:List (Nat×Value)):Operand→Bool
 | .tmp t=>(l.lookup t).isSome
 | _=>true
def opsIn (l:List (Nat×Value)) (o:Op):Bool:=plainOp o&&o.operands.all (inL l)
theorem evL_eq {a:Act} {l:List (Nat×Value)} (hk:WKn a l) {x:Operand} (hx:inL l x=true):a.eval x=evL l x:=by
 cases x with
 | tmp t=>
  cases e:l.lookup t with
  | none=>
   have hx':(l.lookup t).isSome=true:=hx;rw[e] at hx';cases hx'
  | some v=>
   have:=hk _ (lookup_mem e);show a.tmps.getD t undef=(l.lookup t).getD undef;rw[e,Array.getD_eq_getD_getElem?,this]
 | _=>rfl
theorem exec_evL {a:Act} {l:List (Nat×Value)} (hk:WKn a l) {o:Oper} (h:opsIn l o.op=true):execOp a.eval o=execOp (evL l) o:=by
 unfold opsIn at h;rw[Bool.and_eq_true] at h;refine execOp_congr h.1 fun x hx=>evL_eq hk ?_;have:=Array.all_eq_true'.1 h.2 x hx;exact this
def knG (ops:Array Oper) (gs:List Gv) (out:List (Nat×Value)) (i:Nat):List (Nat×Value):=
 ((List.range gs.length).filterMap fun j=>match gY ops j,gs[j]? with
  | some t,some (.v u)=>if waits ops i j then some (t,u) else none
  | _,_=>none)++out.filter fun p=>Iy ops gs.length p.1
theorem WKn.of {gs:List Gv} {out:List (Nat×Value)} {a0 a:Act} {col:Nat→Nat} {w:World} {i:Nat} (ho:PD ops gs.length a0 a) (h0:WKn a0 out) (hd:∀j,waits ops i j=true→Has ops (phi gs) a col w j):WKn a (knG ops gs out i):=by
 intro p hp;rcases List.mem_append.1 hp with hp|hp
 ·obtain⟨j,_,hj⟩:=List.mem_filterMap.1 hp;split at hj
  ·rename_i t u ht hu;split at hj
   ·rename_i hw;injection hj with hj
    subst hj;obtain⟨v,hv,hΦ⟩:=hd j hw;have Sf:v=u:=by
     unfold phi at hΦ;rw[hu] at hΦ;exact hΦ
    rw[←Sf];exact hv t ht
   ·cases hj
  ·cases hj
 ·obtain⟨h1,h2⟩:=List.mem_filter.1 hp;rw[ho.2 _ h2];exact h0 p h1
def gdG (ops:Array Oper) (gs:List Gv) (i:Nat):Bool:=match (ops[i]?).bind (·.guard) with
 | none=>true
 | some (j,want)=>match gs[j]? with
  | some (.v (.bool b))=>b==want
  | _=>false
def gdK (ops:Array Oper) (gs:List Gv) (i:Nat):Bool:=match (ops[i]?).bind (·.guard) with
 | none=>true
 | some (j,_)=>waits ops i j&&(gY ops j).isSome&&match gs[j]? with
  | some (.v (.bool _))=>true
  | _=>false
theorem wanted_gd {gs:List Gv} {i:Nat} {o:Oper} {a:Act} {col:Nat→Nat} {w:World} (ho:ops[i]?=some o) (hk:gdK ops gs i=true) (hd:∀j,waits ops i j=true→Has ops (phi gs) a col w j):Region.wanted o (yielded ops a.tmps)=gdG ops gs i:=by
 unfold gdK at hk;unfold gdG;rw[ho] at hk ⊢;cases hg:o.guard with
 | none=>
  simp only[Option.bind_some,hg];simp[Region.wanted,hg]
 | some p=>
  obtain⟨j,want⟩:=p;simp only[Option.bind_some,hg,Bool.and_eq_true] at hk ⊢;obtain⟨⟨hw,ht⟩,hb⟩:=hk;obtain⟨t,ht⟩:=Option.isSome_iff_exists.1 ht;split at hb
  ·rename_i b hgs;exact gw (ops:=ops) (Φ:=phi gs) (zH hd) ho hg (by unfold phi;rw[hgs];rfl) ht hw
  ·cases hb
def pureK:Op→Bool
 | .move _|.assign _|.pick ..|.build ..|.nilCheck _|.binOp ..|.unOp ..|.convert ..|.slice ..|.fieldAddr ..|.indexAddr ..|.extract ..|.field ..|.index ..=>true
 | .call { callee:=.builtin .len, .. }|.call { callee:=.builtin .cap, .. }|.call { callee:=.builtin .min, .. }|.call { callee:=.builtin .max, .. }=>true
 | _=>false
def isV:Option Gv→Bool
 | some (.v _)=>true
 | _=>false
def valG (gs:List Gv) (i:Nat):Value:=match gs[i]? with
 | some (.v u)=>u
 | _=>undef
def puG (ops:Array Oper) (gs:List Gv) (out:List (Nat×Value)) (i:Nat):Bool:=gdK ops gs i&&isV gs[i]?&&match ops[i]? with
 | some o=>!gdG ops gs i||(pureK o.op&&opsIn (knG ops gs out i) o.op)
 | none=>false
def prG (P:Program) (ops:Array Oper) (gs:List Gv) (out:List (Nat×Value)) (w:World) (i:Nat):Result Next:=match ops[i]? with
 | some o=>if gdG ops gs i then(execOp (evL (knG ops gs out i)) o).run P w else .ok (.value undef) w
 | none=>.ok .skip w
theorem phi_val {gs:List Gv} {i:Nat} (h:isV gs[i]?=true) (col:Nat→Nat) (w:World):phi gs i (valG gs i) col w:=by
 unfold phi valG;cases e:gs[i]? with
 | none=>rw[e] at h;cases h
 | some g=>
  cases g with
  | v u=>rfl
  | p Φ m=>rw[e] at h;cases h
def AllJ (f:Nat→Prop):List Nat→Prop
 | []=>True
 | i::l=>f i∧AllJ f l
theorem AllJ.get {f:Nat→Prop}:∀{l:List Nat},AllJ f l→∀i∈l,f i
 | _::_,h,i,hi=>by
  rcases List.mem_cons.1 hi with rfl|hi
  ·exact h.1
  ·exact h.2.get i hi
def JobG (P:Program) (ops:Array Oper) (gs:List Gv) (out:List (Nat×Value)) (a0:Act) (W:World) (i:Nat):Prop:=
 ∀(Q:Exit→Act→World→Prop) (a:Act) (col:Nat→Nat) (w:World),PD ops gs.length a0 a→Below W.heap.size W w→WKn a (knG ops gs out i)→Hid (∀b,W.heap.size≤b→b<w.heap.size→col b≠i)→
  Hid (∀j,waits ops i j=true→Has ops (phi gs) a col w j)→wpOp P ops Q i (qI ops (phi gs) i a col w) a w
theorem stepG {a:Act} {W:World} {gs:List Gv} {out:List (Nat×Value)} {FN:List Nat} (h0:WKn a out) (hp:∀w,((List.range gs.length).filter (fun i=>!FN.contains i)).map (prG P ops gs out w)=((List.range gs.length).filter (fun i=>!FN.contains i)).map fun i=>.ok (.value (valG gs i)) w) (hj:AllJ (JobG P ops gs out a W) FN) (tB:(List.range gs.length).all (fun i=>FN.contains i||puG ops gs out i)=true) (Q':Exit→Act→World→Prop) (i:Nat) (hi:i<gs.length) (a':Act) (col:Nat→Nat) (w':World) (ho:PD ops gs.length a a') (hb:Below W.heap.size W w') (eN:∀b,W.heap.size≤b→b<w'.heap.size→col b≠i) (ac:∀j,waits ops i j=true→Has ops (phi gs) a' col w' j) : wpOp P ops Q' i (qI ops (phi gs) i a' col w') a' w':=by
 have hk:=WKn.of ho h0 ac;cases hc:FN.contains i with
 | false=>
  have hpu:=List.all_eq_true.1 tB i (List.mem_range.2 hi);rw[hc,Bool.false_or] at hpu;have h1:=List.map_inj_left.1 (hp w') i (List.mem_filter.2 ⟨List.mem_range.2 hi,by rw[hc];rfl⟩);unfold puG at hpu;simp only[Bool.and_eq_true] at hpu;obtain⟨⟨hgk,hv⟩,hq⟩:=hpu;cases ho':ops[i]? with
  | none=>rw[ho'] at hq;cases hq
  | some o=>
   rw[ho'] at hq;have hw:=wanted_gd ho' hgk ac;unfold prG at h1;simp only[ho'] at h1;cases Co:gdG ops gs i with
   | true=>
    rw[Co] at h1 hw hq;simp only[Bool.not_true,Bool.false_or,Bool.and_eq_true] at hq;refine CS (valG gs i) ho' hw ?_ (Below.refl _ _) (phi_val hv _ _);rw[exec_evL hk hq.2];exact h1
   | false=>
    rw[Co] at h1 hw;simp only[Bool.false_eq_true,if_false] at h1;have hu:valG gs i=undef:=by injection h1 with h1;injection h1 with h1;exact h1.symm
    unfold wpOp;rw[ho'];simp only[hw,Bool.false_eq_true,if_false];exact⟨undef,by unfold gY;rw[ho'];rfl,Below.refl _ _,hu▸phi_val hv _ _⟩
 | true=>
  have hmem:i∈FN:=by simpa using hc
  exact hj.get i hmem Q' a' col w' ho hb hk (zH eN) (zH ac)
theorem phi_mono {gs:List Gv} {i:Nat} {v:Value} {c1 c2:Nat→Nat} {w1 w2:World} (h:phi gs i v c1 w1) (hb:Below w1.heap.size w1 w2) (hc:∀b,b<w1.heap.size→c2 b=c1 b):phi gs i v c2 w2:=by
 unfold phi at h ⊢;cases hg:gs[i]? with
 | none=>rw[hg] at h;exact h.elim
 | some g=>rw[hg] at h;exact Gv.mono h hb hc
section
variable {gs:List Gv} {out:List (Nat×Value)} {a0 a:Act} {W w:World} {i:Nat} {col:Nat→Nat} {o:Oper} {l:List (Nat×Value)}
theorem runG {r:Result Next} (hk:WKn a l) (ed:opsIn l o.op=true) (hr:(execOp (evL l) o).run P w=r):(execOp a.eval o).run P w=r:=by
 rw[exec_evL hk ed];exact hr
theorem cell_lt {w:World} {p:Addr} {v:Value} (h:w.cell? p=some v):p.block<w.heap.size:=by
 rcases Nat.lt_or_ge p.block w.heap.size with h1|h1
 ·exact h1
 ·unfold World.cell? at h;rw[Array.getElem?_eq_none h1] at h;cases h
theorem loadG {t:TypeId} {p:Addr} {v:Value} (hc:w.cell? p=some v) (ht:((P.underlying t).map fun d=>match d with|.struct _|.array _ _=>true|_=>false)=some false):(Instr.loadAt t (.pointer (some p))).run P w=.ok v w:=by
 cases hu:P.underlying t with
 | none=>rw[hu] at ht;cases ht
 | some d=>
  rw[hu] at ht;have hagg:(isAgg t).run P w=.ok false w:=by
   unfold isAgg;rw[Sem.run_bind,run_underlying hu w];cases d<;>simp_all
  simp[Instr.loadAt,Instr.sureAddr,loadVar,Sem.run_bind,hagg,hc]
theorem ldG {t:TypeId} {x:Operand} {p:Addr} {v:Value} (hc:W.cell? p=some v) (FS:(ops[i]?).map (·.op)=some (.load t x):=by rfl) (hx:evL (knG ops gs out i) x=.pointer (some p):=by kernel_rfl) (ed:inL (knG ops gs out i) x=true:=by kernel_rfl) (ht:((P.underlying t).map fun d=>match d with|.struct _|.array _ _=>true|_=>false)=some false:=by kernel_rfl) (hv:gs[i]?=some (.v v):=by rfl) (hg:gdK ops gs i=true:=by kernel_rfl) (hg2:gdG ops gs i=true:=by kernel_rfl):JobG P ops gs out a0 W i:=by
 intro Q a col w _ hb hk _ hd;cases ho:ops[i]? with
 | none=>rw[ho] at FS;cases FS
 | some o=>
  rw[ho] at FS;injection FS with FS
  have hc':w.cell? p=some v:=(hb.cell (cell_lt hc)).trans hc;refine CS v ho ((wanted_gd ho hg hd.out).trans hg2) ?_ (Below.refl _ _) (by unfold phi;rw[hv];rfl);unfold execOp;simp only[FS,evL_eq hk ed,hx,Sem.run_bind,loadG hc' ht,Result.andThen_ok,Sem.run_pure]
theorem teG {b b':Bool} (h:b=b') (ho:ops[i]?=some o:=by rfl) (hv:gs[i]?=some (gV (.bool b')):=by rfl) (ed:opsIn (knG ops gs out i) o.op=true:=by kernel_rfl) (hr:∀w,(execOp (evL (knG ops gs out i)) o).run P w=.ok (.value (.bool b)) w:=by intro w;kernel_rfl) (hg:gdK ops gs i=true:=by kernel_rfl) (hg2:gdG ops gs i=true:=by kernel_rfl):JobG P ops gs out a0 W i:=by
 intro Q a col w _ hb hk _ hd;exact CS (.bool b') ho ((wanted_gd ho hg hd.out).trans hg2) (runG hk ed ((hr w).trans (by rw[h]))) (Below.refl _ _) (by unfold phi;rw[hv];rfl)
theorem veG {v v':Value} (h:v=v') (ho:ops[i]?=some o:=by rfl) (hv:gs[i]?=some (gV v'):=by rfl) (ed:opsIn (knG ops gs out i) o.op=true:=by kernel_rfl) (hr:∀w,(execOp (evL (knG ops gs out i)) o).run P w=.ok (.value v) w:=by intro w;kernel_rfl) (hg:gdK ops gs i=true:=by kernel_rfl) (hg2:gdG ops gs i=true:=by kernel_rfl):JobG P ops gs out a0 W i:=by
 intro Q a col w _ hb hk _ hd;exact CS v' ho ((wanted_gd ho hg hd.out).trans hg2) (runG hk ed ((hr w).trans (by rw[h]))) (Below.refl _ _) (by unfold phi;rw[hv];rfl)
theorem bxG {k:Nat} {t:TypeId} {cs:Array Value} (YF:k=i:=by rfl) (ho:ops[i]?=some o:=by rfl) (hv:gs[i]?=some (gB W k t cs):=by rfl) (ed:opsIn (knG ops gs out i) o.op=true:=by kernel_rfl) (hr:∀w,(execOp (evL (knG ops gs out i)) o).run P w=.ok (.value (.pointer (some ⟨w.heap.size,0,none⟩))) (w.alloc (.cells cs t)):=by intro w;kernel_rfl) (hg:gdK ops gs i=true:=by kernel_rfl) (hg2:gdG ops gs i=true:=by kernel_rfl):JobG P ops gs out a0 W i:=by
 intro Q a col w _ hb hk _ hd;subst YF;refine CS _ ho ((wanted_gd ho hg hd.out).trans hg2) (runG hk ed (hr w)) (aT _ _) ?_;unfold phi;rw[hv];exact ΦB.made hb.size
theorem cvG {f:FuncId} {args:Array Value} {u:Value} (hc:∀w,Below W.heap.size W w→Calls P f args w (gy w u)) (ho:ops[i]?=some o:=by rfl) (hv:gs[i]?=some (.v u):=by rfl) (ed:opsIn (knG ops gs out i) o.op=true:=by kernel_rfl) (hr:∀w,(execOp (evL (knG ops gs out i)) o).run P w=.ok (.enter f args) w:=by intro w;kernel_rfl) (hg:gdK ops gs i=true:=by kernel_rfl) (hg2:gdG ops gs i=true:=by kernel_rfl):JobG P ops gs out a0 W i:=by
 intro Q a col w _ hb hk _ hd;exact En f args ho ((wanted_gd ho hg hd.out).trans hg2) (runG hk ed (hr w)) (hc w hb) fun e w2 h=>by
  obtain⟨v,h1,h2,h3⟩:=ΦV.of_ret (i:=i) (col:=col) h;exact⟨v,h1,h2,by unfold phi;rw[hv];exact h3⟩
theorem csG {α:Type} [bG α] {k:Nat} {x:α} {f:FuncId} {args:Array Value} (hc:∀w,Below W.heap.size W w→Calls P f args w (gh w x)) (ho:ops[i]?=some o:=by rfl) (hv:gs[i]?=some (gS W k x):=by rfl) (YF:i≠k:=by decide) (ed:opsIn (knG ops gs out i) o.op=true:=by kernel_rfl) (hr:∀w,(execOp (evL (knG ops gs out i)) o).run P w=.ok (.enter f args) w:=by intro w;kernel_rfl) (hg:gdK ops gs i=true:=by kernel_rfl) (hg2:gdG ops gs i=true:=by kernel_rfl):JobG P ops gs out a0 W i:=by
 intro Q a col w _ hb hk _ hd;exact En f args ho ((wanted_gd ho hg hd.out).trans hg2) (runG hk ed (hr w)) (hc w hb) fun e w2 h=>by
  obtain⟨v,h1,h2,h3⟩:=ΦS.of_ret (i:=i) (col:=col) h hb.size YF;exact⟨v,h1,h2,by unfold phi;rw[hv];exact h3⟩
theorem gsK {v:Value} (hk:WKn a l) (hd:Hid (∀j,waits ops i j=true→Has ops (phi gs) a col w j)) (hs:phi gs i v col w) (ho:ops[i]?=some o:=by rfl) (ed:opsIn l o.op=true:=by kernel_rfl) (hr:(execOp (evL l) o).run P w=.ok (.value v) w:=by kernel_rfl) (hg:gdK ops gs i=true:=by kernel_rfl) (hg2:gdG ops gs i=true:=by kernel_rfl):wpOp P ops Q i (qI ops (phi gs) i a col w) a w:=
 CS v ho ((wanted_gd ho hg hd.out).trans hg2) (runG hk ed hr) (Below.refl _ _) (phi_mono hs (Below.refl _ _) fun _ hb=>fE hb)
theorem run_row {t e:TypeId} {sz bytes n:Nat} {ps:Array (Nat×Value)} {vs:List Value} (ht:cW P t e sz bytes) (hps:ps.toList=(vs.zipIdx 0).map fun x=>(x.2,x.1)) (h1:∀v∈vs,v.cells.size=sz) (hn:n=vs.length) (hp:0<n) (KV:n*sz≤16777216) : (Instr.buildSlice t n ps).run P w=.ok (.slice (some ⟨w.heap.size,0,none⟩) n n) (w.alloc (.cells (vs.flatMap fun v=>v.cells.toList).toArray e)):=by
 obtain⟨i,z,hi,hz,lk,_,GR⟩:=ht.info;have xo:=ht.pos;have dA:n*sz≠0:=by
  have:=Nat.mul_pos hp xo;omega
 refine run_buildSlice w t e n ps _ i z ht.under hi hz (by rw[lk];omega) (by rw[lk];exact dA) ?_;rw[hps,lk];exact Great.fill_whole xo vs _ h1 (by simp[hn])
theorem deps_flat {α:Type} [bG α] {k:Nat} (h1:∀{w S cs} {x:α},bG.rep w S cs x→∀u∈cs,u.oneCell'=true) (hd:Hid (∀j,waits ops i j=true→Has ops (phi gs) a col w j)):∀(js:List Nat) (xs:List α),js.map (fun j=>gs[j]?)=xs.map (fun x=>some (gS W k x))→js.all (fun j=>waits ops i j&&(gY ops j).isSome)=true→ ∃vs:List Value,vs.length=xs.length∧vs=js.map (fun j=>a.eval (.tmp ((gY ops j).getD 0)))∧(∀v∈vs,v.cells.size=bG.sz α)∧Flat w (RD W k col w) (vs.flatMap fun v=>v.cells.toList) xs∧∀u∈(vs.flatMap fun v=>v.cells.toList),u.oneCell'=true
 | [],[],_,_=>⟨[],rfl,rfl,(fun _ h=>by cases h),Flat.nil,(fun _ h=>by cases h)⟩
 | [],_::_,h,_=>by cases h
 | _::_,[],h,_=>by cases h
 | j::js,x::xs,h,hw=>by
  rw[List.map_cons,List.map_cons] at h;injection h with hj h
  rw[List.all_cons,Bool.and_eq_true,Bool.and_eq_true] at hw;obtain⟨vs,q1,q2,q3,q4,q5⟩:=deps_flat h1 hd js xs h hw.2;obtain⟨t,ht⟩:=Option.isSome_iff_exists.1 hw.1.2;obtain⟨v,hv,hΦ⟩:=hd.out j hw.1.1;unfold phi at hΦ;rw[hj] at hΦ;obtain⟨cs,rfl,hr⟩:SV w (RD W k col w) v x:=hΦ;have hl:=bG.len hr;refine⟨.agg cs.toArray::vs,by simp[q1],?_,fun v hv=>?_,?_,fun u hu=>?_⟩
  ·rw[List.map_cons,←q2,ht];congr 1
   show _=a.tmps.getD t undef;rw[Array.getD_eq_getD_getElem?,hv t ht];rfl
  ·rcases List.mem_cons.1 hv with rfl|hv
   ·show cs.toArray.size=_;simpa using hl
   ·exact q3 v hv
  ·rw[List.flatMap_cons];exact Flat.cons (ds:=cs) hr q4
  ·rw[List.flatMap_cons] at hu;rcases List.mem_append.1 hu with hu|hu
   ·exact h1 hr u (by simpa[Value.cells] using hu)
   ·exact q5 u hu
theorem rowG {α:Type} [bG α] {k n bytes:Nat} {t e:TypeId} {xs:List α} {ps:Array (Nat×Operand)} (js:List Nat) (ht:cW P t e (bG.sz α) bytes) (h1:∀{w S cs} {x:α},bG.rep w S cs x→∀u∈cs,u.oneCell'=true) (ho:ops[i]?=some o:=by rfl) (FS:o.op=.buildSlice t n ps:=by rfl) (hv:gs[i]?=some (gR W k i e xs n):=by rfl) (hgs:js.map (fun j=>gs[j]?)=xs.map (fun x=>some (gS W k x)):=by rfl) (hw:js.all (fun j=>waits ops i j&&(gY ops j).isSome)=true:=by kernel_rfl) (hps:ps.toList=(js.zipIdx 0).map (fun x=>(x.2,Operand.tmp ((gY ops x.1).getD 0))):=by kernel_rfl) (hn:n=xs.length:=by rfl) (hp:0<n:=by decide) (KV:n*bG.sz α≤16777216:=by decide) (hg:gdK ops gs i=true:=by kernel_rfl) (hg2:gdG ops gs i=true:=by kernel_rfl):JobG P ops gs out a0 W i:=by
 intro Q a col w _ hb hk eN hd;obtain⟨vs,q1,q2,q3,q4,q5⟩:=deps_flat (W:=W) (k:=k) h1 hd js xs hgs hw;refine CS (.slice (some ⟨w.heap.size,0,none⟩) n n) ho ((wanted_gd ho hg hd.out).trans hg2) ?_ (aT _ _) ?_ (w':=w.alloc (.cells (vs.flatMap fun v=>v.cells.toList).toArray e))
 ·have hr:=run_row (P:=P) (w:=w) (n:=n) (ps:=ps.map fun(i,x)=>(i,a.eval x)) (vs:=vs) ht (by
   rw[Array.toList_map,hps,q2,List.zipIdx_map,List.map_map,List.map_map];rfl) q3 (by rw[hn,q1]) hp KV
  unfold execOp;simp only[FS,Sem.run_bind,hr,Result.andThen_ok,Sem.run_pure]
 ·unfold phi;rw[hv];exact ΦR.built q4 (fun b hb=>eN.out b hb.1 hb.2.1) hn q5 hb.size
theorem rvG {α:Type} [bG α] {k n:Nat} {e:TypeId} {xs:List α} {cs:List Value} (hf:∀w S,Flat w S cs xs) (h1:∀u∈cs,u.oneCell'=true:=by simp[Value.oneCell']) (ho:ops[i]?=some o:=by rfl) (hv:gs[i]?=some (gR W k i e xs n):=by rfl) (ed:opsIn (knG ops gs out i) o.op=true:=by kernel_rfl) (hr:∀w,(execOp (evL (knG ops gs out i)) o).run P w=.ok (.value (.slice (some ⟨w.heap.size,0,none⟩) n n)) (w.alloc (.cells cs.toArray e)):=by intro w;kernel_rfl) (hn:n=xs.length:=by rfl) (hg:gdK ops gs i=true:=by kernel_rfl) (hg2:gdG ops gs i=true:=by kernel_rfl):JobG P ops gs out a0 W i:=by
 intro Q a col w _ hb hk eN hd;refine CS (.slice (some ⟨w.heap.size,0,none⟩) n n) ho ((wanted_gd ho hg hd.out).trans hg2) (runG hk ed (hr w)) (aT _ _) ?_;unfold phi;rw[hv];exact ΦR.built (hf _ _) (fun b hb=>eN.out b hb.1 hb.2.1) hn h1 hb.size
end
end
structure Fr (m:Nat) (l:List (Nat×Value)) (a:Act):Prop where
 d:a.defers=[]
 s:a.tmps.size=m
 k:WKn a l
section
variable {m:Nat} {l:List (Nat×Value)} {a:Act}
theorem Fr.sub (h:Fr m l a) (l':List (Nat×Value)) (hl:l'.map (fun p=>l.lookup p.1)=l'.map (fun p=>some p.2):=by kernel_rfl):Fr m l' a:=
 ⟨h.d,h.s,fun p hp=>h.k _ (lookup_mem (List.map_inj_left.1 hl p hp))⟩
theorem Fr.ev (h:Fr m l a) {x:Operand} {v:Value} (hx:inL l x=true:=by kernel_rfl) (hv:evL l x=v:=by kernel_rfl):a.eval x=v:=(evL_eq h.k hx).trans hv
theorem Fr.put (h:Fr m l a) (t:Nat) (v:Value) (ht:t<m):Fr m ((t,v)::l.filter fun p=>!(p.1==t)) (a.put (some t) v):=by
 refine⟨h.d,by show(a.tmps.setIfInBounds t v).size=m;rw[Array.size_setIfInBounds];exact h.s,WKn.c (fun p hp=>?_) ?_⟩
 ·obtain⟨h1,h2⟩:=List.mem_filter.1 hp;show(a.tmps.setIfInBounds t v)[p.1]?=_;rw[Array.getElem?_setIfInBounds_ne (by intro e;simp[e] at h2)];exact h.k p h1
 ·show(a.tmps.setIfInBounds t v)[t]?=_;exact Array.getElem?_setIfInBounds_self_of_lt (by rw[h.s];exact ht)
theorem Fr.c (h:Fr m l a) {t:Nat} {v:Value} (hv:a.tmps[t]?=some v):Fr m ((t,v)::l) a:=⟨h.d,h.s,h.k.c hv⟩
end
section
variable {P:Program} {ops:Array Oper} {Q:Exit→Act→World→Prop}
def knE (ops:Array Oper) (gs:List Gv) (out:List (Nat×Value)):List (Nat×Value):=
 ((List.range gs.length).filterMap fun j=>match gY ops j,gs[j]? with
  | some t,some (.v u)=>some (t,u)
  | _,_=>none)++out.filter fun p=>Iy ops gs.length p.1
theorem WKn.all {gs:List Gv} {out:List (Nat×Value)} {a0 a:Act} {col:Nat→Nat} {w:World} (ho:PD ops gs.length a0 a) (h0:WKn a0 out) (hd:∀j,j<gs.length→Has ops (phi gs) a col w j):WKn a (knE ops gs out):=by
 intro p hp;rcases List.mem_append.1 hp with hp|hp
 ·obtain⟨j,hjr,hj⟩:=List.mem_filterMap.1 hp;split at hj
  ·rename_i t u ht hu;injection hj with hj
   subst hj;obtain⟨v,hv,hΦ⟩:=hd j (List.mem_range.1 hjr);have Sf:v=u:=by
    unfold phi at hΦ;rw[hu] at hΦ;exact hΦ
   rw[←Sf];exact hv t ht
  ·cases hj
 ·obtain⟨h1,h2⟩:=List.mem_filter.1 hp;rw[ho.2 _ h2];exact h0 p h1
theorem putL_facts {n:Nat} {vs:List Value} {a:Act} (rk:Ev ops n a.tmps.size=true) (hn:n≤ops.size) (hl:vs.length=n) : PD ops n a (iD (ops.toList.take n) vs a)∧(iD (ops.toList.take n) vs a).tmps.size=a.tmps.size∧∀j t,j<n→gY ops j=some t→(iD (ops.toList.take n) vs a).tmps[t]?=vs[j]?:=by
 have hv:vs=(List.range n).map fun j=>vs.getD j undef:=by
  apply List.ext_getElem?;intro i;rw[List.getElem?_map];by_cases hi:i<n
  ·rw[List.getElem?_range hi,List.getElem?_eq_getElem (by omega)];simp[List.getD_eq_getElem?_getD,List.getElem?_eq_getElem (show i<vs.length by omega)]
  ·rw[List.getElem?_eq_none (by omega),List.getElem?_eq_none (by simp;omega)];rfl
 have he:iD (ops.toList.take n) vs a=nw ops (fun _=>true) (fun j=>vs.getD j undef) n a:=by
  conv=>lhs;rw[hv]
  exact It hn
 rw[he];refine⟨⟨(qS n).1,fun t ht=>Dv ht (Nat.le_refl _)⟩,(qS n).2,fun j t hj ht=>?_⟩;rw[Dw rk rfl ht (Nat.le_refl _) hj,List.getD_eq_getElem?_getD,List.getElem?_eq_getElem (by omega)];rfl
theorem wpOps_tail:∀(r n:Nat) (a:Act) (w:World),gd P ops Q r n a w→wpOps P ops Q (List.range' n r) a w
 | 0,_,_,_,h=>h
 | r+1,n,a,w,h=>by
  rw[List.range'_succ,wpOps_cons];exact wpOp_mono (fun a w h=>wpOps_tail r (n+1) a w h) h
theorem phi_has {gs:List Gv} {a a':Act} {c1 c2:Nat→Nat} {w1 w2:World} {j:Nat} (h:Has ops (phi gs) a c1 w1 j) (hb:Below w1.heap.size w1 w2) (hc:∀b,b<w1.heap.size→c2 b=c1 b) (ht:∀t,gY ops j=some t→a'.tmps[t]?=a.tmps[t]?):Has ops (phi gs) a' c2 w2 j:=by
 obtain⟨v,h1,h2⟩:=h;exact⟨v,fun t e=>(ht t e).trans (h1 t e),phi_mono h2 hb hc⟩
theorem wp_reg {id:Nat} {dr:Bool} {a:Act} {W:World} {m:Nat} {l:List (Nat×Value)} (hf:Fr m l a) (gs:List Gv) (r:Nat) (FN:List Nat) (hp:∀w,((List.range gs.length).filter (fun i=>!FN.contains i)).map (prG P ops gs l w)=((List.range gs.length).filter (fun i=>!FN.contains i)).map fun i=>.ok (.value (valG gs i)) w) (hj:AllJ (JobG P ops gs l a W) FN) (tD:∀a' col w',Below W.heap.size W w'→Fr m (knE ops gs l) a'→(∀j,j<gs.length→Has ops (phi gs) a' col w' j)→gd P ops Q r gs.length a' w') (tB:(List.range gs.length).all (fun i=>FN.contains i||puG ops gs l i)=true:=by kernel_rfl) (iW:kH (gs.length+r) ops=true:=by kernel_rfl) (rk:Ev ops gs.length m=true:=by kernel_rfl) (hdr:(!dr||(decide (0<r)&&Ul ops gs.length (gs.length+r)&&P.follows .mixedOrders))=true:=by kernel_rfl):(Code.region id ops dr).wp P Q a W:=by
 have lk:=fF iW;have hdist':Ev ops gs.length a.tmps.size=true:=by rw[hf.s];exact rk
 cases dr with
 | true=>
  simp only[Bool.not_true,Bool.false_or,Bool.and_eq_true,decide_eq_true_eq] at hdr;obtain⟨⟨hr,sx⟩,hm⟩:=hdr;obtain⟨r,rfl⟩:∃q,r=q+1:=⟨r-1,by omega⟩;refine cf gs.length r (phi gs) hm iW sx hdist' (fun i v c1 w1 c2 w2 h hb hc=>phi_mono h hb hc) (stepG hf.k hp hj tB) (fun vs col w' hl hb hΦ=>?_);obtain⟨h1,h2,h3⟩:=putL_facts hdist' (by omega) hl;have hH:∀j,j<gs.length→Has ops (phi gs) (iD (ops.toList.take gs.length) vs a) col w' j:=fun j hj=>by
   have hj':j<vs.length:=by omega
   exact⟨vs[j],fun t ht=>(h3 j t hj ht).trans (List.getElem?_eq_getElem hj'),hΦ j _ (List.getElem?_eq_getElem hj')⟩
  exact tD _ col w' hb ⟨h1.1.trans hf.d,h2.trans hf.s,WKn.all h1 hf.k hH⟩ hH
 | false=>
  refine wp_region ?_;have key:∀k i,i+k=gs.length→∀a' col w',PD ops gs.length a a'→a'.tmps.size=a.tmps.size→Below W.heap.size W w'→(∀b,W.heap.size≤b→b<w'.heap.size→col b<i)→(∀j,j<i→Has ops (phi gs) a' col w' j)→wpOps P ops Q (List.range' i (k+r)) a' w':=by
   intro k;induction k with
   | zero=>
    intro i hi a' col w' ho hs hb hc hH;have hi':i=gs.length:=by omega
    subst hi';rw[Nat.zero_add];exact wpOps_tail _ _ _ _ (tD a' col w' hb ⟨ho.1.trans hf.d,hs.trans hf.s,WKn.all ho hf.k hH⟩ hH)
   | succ k ih=>
    intro i hi a' col w' ho hs hb hc hH;have ed:i<gs.length:=by omega
    rw[show k+1+r=(k+r)+1 by omega,List.range'_succ,wpOps_cons];refine wpOp_mono (fun a2 w2 h2=>?_) (stepG hf.k hp hj tB Q i ed a' col w' ho hb (fun b h1 h2=>Nat.ne_of_lt (hc b h1 h2)) fun j hw=>hH j ?_)
    ·obtain⟨v,rfl,bY,hv⟩:=h2;refine ih (i+1) (by omega) _ (tJ col w' i) w2 ⟨?_,fun t ht=>?_⟩ ?_ (hb.trans (bY.mono hb.size)) (fun b h1 h2=>?_) (fun j hj=>?_)
     ·rw[←ho.1];cases gY ops i<;>rfl
     ·rw[←ho.2 t ht];cases e:gY ops i with
      | none=>rfl
      | some d=>
       have dA:d≠t:=fun h=>Kw ht ed (by rw[e,h]);show(a'.tmps.setIfInBounds d v)[t]?=_;exact Array.getElem?_setIfInBounds_ne dA
     ·rw[←hs];cases e:gY ops i with
      | none=>rfl
      | some d=>show(a'.tmps.setIfInBounds d v).size=_;rw[Array.size_setIfInBounds]
     ·unfold tJ;split
      ·exact Nat.lt_succ_of_lt (hc b h1 ‹_›)
      ·exact Nat.lt_succ_self _
     ·by_cases e:j=i
      ·subst e;refine⟨v,fun t ht=>?_,hv⟩;rw[ht];have:=(xy hdist' ed ht).1;show(a'.tmps.setIfInBounds t v)[t]?=_;exact Array.getElem?_setIfInBounds_self_of_lt (by rw[hs];exact this)
      ·refine phi_has (hH j (by omega)) bY (fun b hb=>fE hb) fun t ht=>?_;cases e2:gY ops i with
       | none=>rfl
       | some d=>
        have dA:d≠t:=fun h=>Pu hdist' (by omega) ed e t ht (by rw[e2,h]);show(a'.tmps.setIfInBounds d v)[t]?=_;exact Array.getElem?_setIfInBounds_ne dA
    ·cases ho':ops[i]? with
     | none=>unfold waits at hw;rw[ho'] at hw;cases hw
     | some o=>
      unfold waits at hw;rw[ho'] at hw;simp only[Option.map_some,Option.getD_some,Array.any_eq_true',Bool.and_eq_true,beq_iff_eq] at hw;obtain⟨e,he,hbi,rfl⟩:=hw;exact vg iW ho' e he hbi
  have:=key gs.length 0 (by omega) a (fun _=>0) W ⟨rfl,fun _ _=>rfl⟩ rfl (Below.refl _ _) (fun b h1 h2=>absurd h1 (by omega)) (fun j hj=>absurd hj (by omega));rw[←lk] at this;rw[List.range_eq_range'];exact this
end
end Go.Proofs.YtjlhbfbdcfajfaaGreatDoor
