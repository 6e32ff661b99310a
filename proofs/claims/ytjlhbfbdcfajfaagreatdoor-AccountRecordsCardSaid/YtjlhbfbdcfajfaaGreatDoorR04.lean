/- Wk4 Wk5 Rec1 Rec3 Rec2 Rec4 -/
import Derived.Test.YtjlhbfbdcfajfaaGreatDoorR03
import Derived.Test.YtjlhbfbdcfajfaaGreatDoorProg
import Derived.Test.YtjlhbfbdcfajfaaGreatDoorB08
namespace Go.Proofs.YtjlhbfbdcfajfaaGreatDoor
open Go Go.RowKit
def flat:Code→List Code→List Code
 | .skip,r=>r
 | .seq a b,r=>flat a (flat b r)
 | c,r=>c::r
def wpL (P:Program):List Code→(Exit→Act→World→Prop)→Act→World→Prop
 | [],Q=>fun a w=>Q .normal a w
 | x::xs,Q=>fun a w=>x.wp P (Exit.then (wpL P xs Q) Q) a w
section
variable {P:Program} {Q:Exit→Act→World→Prop}
theorem wp_flat:∀(c:Code) (r:List Code) (a:Act) (w:World),wpL P (flat c r) Q a w→c.wp P (Exit.then (wpL P r Q) Q) a w
 | .skip,_,_,_,h=>wp_skip h
 | .seq x y,r,a,w,h=>wp_seq (wp_mono (wp_flat x (flat y r) a w h) fun e a w q=>by
  cases e with
  | normal=>exact wp_flat y r a w q
  | _=>exact q)
 | .region ..,_,_,_,h=>h
 | .cond ..,_,_,_,h=>h
 | .block ..,_,_,_,h=>h
 | .loop _,_,_,_,h=>h
 | .rangeFunc ..,_,_,_,h=>h
 | .exit _,_,_,_,h=>h
 | .scope _,_,_,_,h=>h
 | .label _,_,_,_,h=>h
 | .goto _,_,_,_,h=>h
 | .ret,_,_,_,h=>h
 | .refuse _,_,_,_,h=>h
theorem wp_flat0 {c:Code} {a:Act} {w:World} (h:wpL P (flat c []) Q a w):c.wp P Q a w:=
 wp_mono (wp_flat c [] a w h) fun e a w q=>by cases e<;>exact q
variable {m:Nat} {l:List (Nat×Value)} {a:Act} {w:World} {xs:List Code}
theorem lIn {f:FuncId} {fn:Func} {c:Code} {args:Array Value} {R:Ending→World→Prop} (hf:P.funcs[f]?=some fn) (l:List (Nat×Value)) (h:∀a,Fr fn.ntmps l a→wpL P (flat c []) (bodyPost P fn R) a w) (hb:fn.body=some c:=by rfl) (hl:l.map (fun p=>args[p.1]?)=l.map (fun p=>some p.2):=by kernel_rfl) (hs:decide (args.size≤fn.ntmps)=true:=by kernel_rfl):Calls P f args w R:=
 kEnter hf l (fun a ha=>wp_flat0 (h a ha)) hb hl hs
theorem WlP {id:Nat} {ops:Array Oper} (hf:Fr m l a) (ls:List (LdP P w)) (l':List (Nat×Value)) (h:∀a',Fr m l' a'→wpL P xs Q a' w) (hk:(goP P ops w m ops.toList 0 (ls.map (·.e)) l).map (fun x=>(x.2.1.map (·.1),x.2.2.1.map (·.1),x.2.2.2.map (·.1),l'.map fun p=>x.1.lookup p.1))=(goP P ops w m ops.toList 0 (ls.map (·.e)) l).map (fun x=>(x.2.1.map (·.2),x.2.2.1.map (·.2),x.2.2.2.map (·.2),l'.map fun p=>some p.2)):=by kernel_rfl) (hs:(goP P ops w m ops.toList 0 (ls.map (·.e)) l).isSome=true:=by kernel_rfl):wpL P (.region id ops false::xs) Q a w:=WkP hf ls l' h hk hs
theorem WlR {id:Nat} {ops:Array Oper} {dr:Bool} (hf:Fr m l a) (gs:List Gv) (r:Nat) (FN:List Nat) (hj:AllJ (JobG P ops gs l a w) FN) (tD:∀a' col w',Below w.heap.size w w'→Fr m (knE ops gs l) a'→(∀j,j<gs.length→Has ops (phi gs) a' col w' j)→gd P ops (Exit.then (wpL P xs Q) Q) r gs.length a' w') (hp:∀w,((List.range gs.length).filter (fun i=>!FN.contains i)).map (prG P ops gs l w)=((List.range gs.length).filter (fun i=>!FN.contains i)).map fun i=>.ok (.value (valG gs i)) w:=by intro w;kernel_rfl) (tB:(List.range gs.length).all (fun i=>FN.contains i||puG ops gs l i)=true:=by kernel_rfl) (iW:kH (gs.length+r) ops=true:=by kernel_rfl) (rk:Ev ops gs.length m=true:=by kernel_rfl) (hdr:(!dr||(decide (0<r)&&Ul ops gs.length (gs.length+r)&&P.follows .mixedOrders))=true:=by kernel_rfl):wpL P (.region id ops dr::xs) Q a w:=wp_reg hf gs r FN hp hj tD tB iW rk hdr
theorem lIf {p:Prop} [Decidable p] {c:Operand} {x y:Code} (hf:Fr m l a) (ht:p→wpL P (flat x xs) Q a w) (hn:¬p→wpL P (flat y xs) Q a w) (hc:evL l c=.bool (decide p):=by kernel_rfl) (hi:inL l c=true:=by kernel_rfl):wpL P (.cond c x y::xs) Q a w:=
 kIf hf (fun h=>wp_flat x xs a w (ht h)) (fun h=>wp_flat y xs a w (hn h)) hc hi
theorem lIfB {b:Bool} {c:Operand} {x y:Code} (hf:Fr m l a) (ht:b=true→wpL P (flat x xs) Q a w) (hn:b=false→wpL P (flat y xs) Q a w) (hc:evL l c=.bool b:=by kernel_rfl) (hi:inL l c=true:=by kernel_rfl):wpL P (.cond c x y::xs) Q a w:=
 kIfB hf (fun h=>wp_flat x xs a w (ht h)) (fun h=>wp_flat y xs a w (hn h)) hc hi
theorem WlT {c:Operand} {x y:Code} (hf:Fr m l a) (h:wpL P (flat x xs) Q a w) (hc:evL l c=.bool true:=by kernel_rfl) (hi:inL l c=true:=by kernel_rfl):wpL P (.cond c x y::xs) Q a w:=
 wp_cond_true ((evL_eq hf.k hi).trans hc) (wp_flat x xs a w h)
theorem WlF {c:Operand} {x y:Code} (hf:Fr m l a) (h:wpL P (flat y xs) Q a w) (hc:evL l c=.bool false:=by kernel_rfl) (hi:inL l c=true:=by kernel_rfl):wpL P (.cond c x y::xs) Q a w:=
 wp_cond_false ((evL_eq hf.k hi).trans hc) (wp_flat y xs a w h)
theorem lBlk {id:Nat} {b:Code} (h:wpL P (flat b []) (Exit.inBlock id (Exit.then (wpL P xs Q) Q)) a w):wpL P (.block id b::xs) Q a w:=wp_block (wp_flat0 h)
theorem lExit {id:Nat} (h:Q (.exit id) a w):wpL P (.exit id::xs) Q a w:=wp_exit h
theorem lRet (h:Q .ret a w):wpL P (.ret::xs) Q a w:=wp_ret h
theorem lLoop {id:Nat} {b:Code} (I:Act→World→Prop) (μ:Act→World→Nat) (h0:I a w) (hr:∀a w,I a w→wpL P (flat b []) (Exit.then (fun a' w'=>I a' w'∧μ a' w'<μ a w) (Exit.inBlock id (Exit.then (wpL P xs Q) Q))) a w):wpL P (.block id (.loop b)::xs) Q a w:=
 wp_block (wp_loop I μ h0 fun a w hI=>wp_flat0 (hr a w hI))
end
section
variable {P:Program} {m:Nat} {l:List (Nat×Value)} {a:Act} {w:World} {fn:Func} {R:Ending→World→Prop}
theorem rt1 {t:Nat} {v:Value} (hf:Fr m l a) (hR:R (.returned v) w) (hr:fn.results=#[.tmp t]:=by rfl) (hv:l.lookup t=some v:=by kernel_rfl):bodyPost P fn R .ret a w:=kRet hf hR (.inl rfl) hr hv
theorem rt2 {t u:Nat} {v x:Value} (hf:Fr m l a) (hR:R (.returned (.tuple #[v,x])) w) (hr:fn.results=#[.tmp t,.tmp u]:=by rfl) (hv:l.lookup t=some v:=by kernel_rfl) (hu:l.lookup u=some x:=by kernel_rfl):bodyPost P fn R .ret a w:=kRet2 hf hR (.inl rfl) hr hv hu
theorem rtS {t g:Nat} {ty ty':TypeId} {cs:Array Value} {d:TypeDesc} (hf:Fr m l a) (hb:aK w g ty' cs) (hR:R (.returned (.agg cs)) w) (hu:P.underlying ty=some d) (hr:fn.results=#[.cell t ty]:=by rfl) (hv:l.lookup t=some (.pointer (some ⟨g,0,none⟩)):=by kernel_rfl) (hd:(match d with|.struct _|.array _ _=>true|_=>false)=true:=by rfl) (hi:(P.info? ty).map (·.size)=some cs.size:=by kernel_rfl):bodyPost P fn R .ret a w:=kRetS hf hb hR hu (.inl rfl) hr hv hd hi
theorem rt0 (hf:Fr m l a) (hR:R (.returned (.tuple #[])) w) (hr:fn.results=#[]:=by rfl):bodyPost P fn R .ret a w:=⟨hf.d,_,results_none hr _ _ _,hR⟩
theorem rtN (hf:Fr m l a) (hR:R (.returned (.tuple #[])) w) (hr:fn.results=#[]:=by rfl):bodyPost P fn R .normal a w:=⟨hf.d,_,results_none hr _ _ _,hR⟩
end
def slotI (t:Nat) (a:Act):Int:=match a.tmps[t]? with
 | some (.int _ x)=>x
 | _=>0
theorem Fr.slotI {m:Nat} {l:List (Nat×Value)} {a:Act} (h:Fr m l a) {t:Nat} {x:Int} (hl:l.lookup t=some (.int .i64 x):=by kernel_rfl):slotI t a=x:=by
 unfold Go.Proofs.YtjlhbfbdcfajfaaGreatDoor.slotI;rw[h.k _ (lookup_mem hl)]
section
variable {P:Program} {w:World}
theorem addr_add (b o k:Nat):(⟨b,o,none⟩:Addr).add k=⟨b,o+k,none⟩:=by unfold Addr.add;split<;>simp_all
theorem ixF {t e:TypeId} {sz bytes b o n c k:Nat} (ht:cW P t e sz bytes) (hk:k<n):(Instr.indexAt t (.slice (some ⟨b,o,none⟩) n c) (.int .i64 (k:Int))).run P w=.ok (.pointer (some ⟨b,o+k*sz,none⟩)) w:=by
 obtain⟨i,z,hi,_,lk,_,_⟩:=ht.info;simp[Instr.indexAt,asIntOf,Sem.run_bind,run_underlying ht.under,sizeOf,typeInfo,hi,lk,addr_add];omega
theorem wrap1 {k:Nat} (h:k<9223372036854775807):Value.int .i64 (IntKind.i64.wrap ((k:Int)+1))=.int .i64 ((k+1:Nat):Int):=by
 congr 1
 rw[IntKind.wrap_i64];omega
variable {ops:Array Oper} {gs:List Gv} {out:List (Nat×Value)} {a0:Act} {W:World} {i:Nat} {o:Oper}
theorem rnG {s:Sem Value} {v:Value} (hs:∀w,s.run P w=.ok v w) (ho:ops[i]?=some o:=by rfl) (hv:gs[i]?=some (gV v):=by rfl) (ed:opsIn (knG ops gs out i) o.op=true:=by kernel_rfl) (hr:execOp (evL (knG ops gs out i)) o=semV s:=by kernel_rfl) (hg:gdK ops gs i=true:=by kernel_rfl) (hg2:gdG ops gs i=true:=by kernel_rfl):JobG P ops gs out a0 W i:=by
 intro Q a col w _ hb hk _ hd;refine CS v ho ((wanted_gd ho hg hd.out).trans hg2) (runG hk ed ?_) (Below.refl _ _) (by unfold phi;rw[hv];rfl);rw[hr];unfold semV;simp only[Sem.run_bind,hs,Result.andThen_ok,Sem.run_pure]
theorem lmG {t:TypeId} {x:Operand} {p:Addr} {cs:List Value} (hc:eT W p cs) (hp:p.block<W.heap.size) (FS:(ops[i]?).map (·.op)=some (.load t x):=by rfl) (hx:evL (knG ops gs out i) x=.pointer (some p):=by kernel_rfl) (ed:inL (knG ops gs out i) x=true:=by kernel_rfl) (h1:aggB P t=some true:=by kernel_rfl) (h2:(P.info? t).map (·.size)=some cs.length:=by kernel_rfl) (hv:gs[i]?=some (gV (.agg cs.toArray)):=by rfl) (hg:gdK ops gs i=true:=by kernel_rfl) (hg2:gdG ops gs i=true:=by kernel_rfl):JobG P ops gs out a0 W i:=by
 intro Q a col w _ hb hk _ hd;cases ho:ops[i]? with
 | none=>rw[ho] at FS;cases FS
 | some o=>
  rw[ho] at FS;injection FS with FS
  have hc':eT w p cs:=hc.keep (aD.of_below hb) hp;refine CS (.agg cs.toArray) ho ((wanted_gd ho hg hd.out).trans hg2) ?_ (Below.refl _ _) (by unfold phi;rw[hv];rfl);unfold execOp;simp only[FS,evL_eq hk ed,hx,Sem.run_bind,loadM hc' h1 h2,Result.andThen_ok,Sem.run_pure]
theorem ixG {t e:TypeId} {sz bytes b o1 n k:Nat} (c:Nat) (ht:cW P t e sz bytes) (hk:k<n) (ho:ops[i]?=some o:=by rfl) (hv:gs[i]?=some (gV (.pointer (some ⟨b,o1+k*sz,none⟩))):=by rfl) (ed:opsIn (knG ops gs out i) o.op=true:=by kernel_rfl) (hr:execOp (evL (knG ops gs out i)) o=semV (Instr.indexAt t (.slice (some ⟨b,o1,none⟩) n c) (.int .i64 (k:Int))):=by kernel_rfl) (hg:gdK ops gs i=true:=by kernel_rfl) (hg2:gdG ops gs i=true:=by kernel_rfl):JobG P ops gs out a0 W i:=
 rnG (fun _=>ixF ht hk) ho hv ed hr hg hg2
def Wix {t e:TypeId} {sz bytes n k:Nat} (i b o1 c:Nat) (ht:cW P t e sz bytes) (hk:k<n):LdP P w:=rn i (ixF (b:=b) (o:=o1) (c:=c) ht hk)
end
theorem RS.intA {w:World} {S:Nat→Prop} {A:Option Addr} {n c:Nat} {xs:List Int} (h:RS w S A n c xs) {k:Nat} (hk:k<n):∃b o x,A=some ⟨b,o,none⟩∧S b∧xs[k]?=some x∧w.cell? ⟨b,o+k*1,none⟩=some (.int .i64 x):=by
 rw[Nat.mul_one];exact h.int_at hk
theorem RS.strA {w:World} {S:Nat→Prop} {A:Option Addr} {n c:Nat} {xs:List ByteArray} (h:RS w S A n c xs) {k:Nat} (hk:k<n):∃b o x,A=some ⟨b,o,none⟩∧S b∧xs[k]?=some x∧w.cell? ⟨b,o+k*1,none⟩=some (.string x):=by
 rw[Nat.mul_one];exact h.str_at hk
theorem RS.rowA {α:Type} [bG α] {w:World} {S:Nat→Prop} {A:Option Addr} {n c:Nat} {xs:List (List α)} (h:RS w S A n c xs) {k:Nat} (hk:k<n):∃b o x A' n' c',A=some ⟨b,o,none⟩∧S b∧xs[k]?=some x∧w.cell? ⟨b,o+k*1,none⟩=some (.slice A' n' c')∧RS w S A' n' c' x:=by
 rw[Nat.mul_one];exact h.row_at hk
theorem RS.stA {α:Type} [bG α] {w:World} {S:Nat→Prop} {A:Option Addr} {n c:Nat} {xs:List α} (h:RS w S A n c xs) {k:Nat} (hk:k<n):∃b o x cs,A=some ⟨b,o,none⟩∧S b∧xs[k]?=some x∧bG.rep w S cs x∧eT w ⟨b,o+k*bG.sz α,none⟩ cs:=by
 obtain⟨b,o,x,cs,e,hb,hx,hr,hc⟩:=h.at_ hk;refine⟨b,o,x,cs,e,hb,hx,hr,fun j u hj=>?_⟩;rw[addr_add,Nat.add_assoc];exact hc j u hj
theorem aK.cat {w:World} {g:Nat} {ty:TypeId} {cs:List Value} (h:aK w g ty cs.toArray):eT w ⟨g,0,none⟩ cs:=by
 intro j u hj;rw[addr_add,Nat.zero_add,h.cell j];simpa using hj
theorem ltT {k n:Nat} (h:k<n):decide ((k:Int)<(n:Int))=true:=decide_eq_true (by omega)
theorem ltF {k n:Nat} (h:¬k<n):decide ((k:Int)<(n:Int))=false:=decide_eq_false (by omega)
theorem neT {x y:Int} (h:x≠y):(x !=y)=true:=bne_iff_ne.2 h
theorem neF {x y:Int} (h:x=y):(x !=y)=false:=by rw[h];exact bne_self_eq_false y
theorem eqT {x y:Int} (h:x=y):(x==y)=true:=by rw[h];exact beq_self_eq_true y
theorem eqF {x y:Int} (h:x≠y):(x==y)=false:=beq_eq_false_iff_ne.2 h
theorem Tryz.intsTy:cW Tryz.prog 84 3 1 8:=cW.mk' (z:=.int .i64 0) Tryz.underlying84 (by kernel_rfl) rfl (by omega)
structure VoteV where
 cont:Int
 ranks:List (List Int)
structure RecV where
 prec:Int
 votes:List VoteV
 doubt:Bool
instance:bG VoteV where
 sz:=2
 rep w S cs x:=∃A n c,cs=[.int .i64 x.cont,.slice A n c]∧RS w S A n c x.ranks
 len h:=by obtain⟨A,n,c,rfl,_⟩:=h;rfl
 keep h hS hk:=by obtain⟨A,n,c,rfl,h⟩:=h;exact⟨A,n,c,rfl,h.keep hS hk⟩
instance:bG RecV where
 sz:=3
 rep w S cs x:=∃A n c,cs=[.int .i64 x.prec,.slice A n c,.bool x.doubt]∧RS w S A n c x.votes
 len h:=by obtain⟨A,n,c,rfl,_⟩:=h;rfl
 keep h hS hk:=by obtain⟨A,n,c,rfl,h⟩:=h;exact⟨A,n,c,rfl,h.keep hS hk⟩
def voidV:RecV:=⟨-1,[],false⟩
def isVoidV (r:RecV):Bool:=(r.prec== -1)&&(((r.votes.length:Int)==0)&&!r.doubt)
set_option maxRecDepth 20000 in
theorem void_ok (w:World):Calls Tryz.prog 37 #[] w (gh w voidV):=by
 refine kEnter Tryz.func37 [] fun a hf=>?_;refine rg hf [gB w 0 42 #[.int .i64 0,.slice none 0 0,.bool false]] 0 [0] (fun w=>by kernel_rfl) ⟨bxG,trivial⟩ fun a col w1 hb hf hH=>?_;obtain⟨g,hv,hg,_,hk⟩:=gotB hH 0 0;refine rg (hf.c hv) [gV (.agg #[.int .i64 (-1),.slice none 0 0,.bool false])] 1 [] (fun w=>by kernel_rfl) trivial fun a col w2 bY hf hH=>?_;refine tSt hf (hk.keep bY) 0 #[.int .i64 (-1),.slice none 0 0,.bool false] fun w3 hp iF=>?_;exact wp_ret (kRetS hf iF ⟨_,rfl,⟨_,rfl,none,0,0,rfl,RS.nil _ _⟩,hp.below (ae hb bY) hg⟩ Tryz.underlying42)
set_option maxRecDepth 20000 in
theorem isVoid_ok {S:Nat→Prop} {v:Value} {r:RecV} {w:World} (h:SV w S v r) (_hS:∀b,S b→b<w.heap.size):Calls Tryz.prog 39 #[v] w (gy w (.bool (isVoidV r))):=by
 obtain⟨_,rfl,A,n,c,rfl,hr⟩:=h;refine kEnter Tryz.func39 [(0,.agg #[.int .i64 r.prec,.slice A n c,.bool r.doubt])] fun a hf=>?_;refine rg hf [gB w 0 42 #[.int .i64 r.prec,.slice A n c,.bool r.doubt],gV (.bool false)] 0 [0] (fun w=>by kernel_rfl) ⟨bxG,trivial⟩ fun a col w1 hb hf hH=>?_;obtain⟨g,hv,hg,_,hk⟩:=gotB hH 0 1;replace hf:=hf.c hv;have hz:isVoidV r=((r.prec== -1)&&(((n:Int)==0)&&!r.doubt)):=by rw[←hr.len];rfl
 rw[hz];obtain⟨b1,h1⟩:∃b,(r.prec== -1)=b:=⟨_,rfl⟩;obtain⟨b2,h2⟩:∃b,((n:Int)==0)=b:=⟨_,rfl⟩;rw[h1,h2];cases b1
 ·exact Wrp hf [cl (hk.at 0),tb 2 h1] [(2,.bool false)] fun a hf=>wp_ret (kRet hf ⟨rfl,hb⟩)
 ·cases b2
  ·exact Wrp hf [cl (hk.at 0),tb 2 h1,cl (hk.at 1),tb 7 h2] [(2,.bool false)] fun a hf=>wp_ret (kRet hf ⟨rfl,hb⟩)
  ·exact Wrp hf [cl (hk.at 0),tb 2 h1,cl (hk.at 1),tb 7 h2,cl (hk.at 2)] [(2,.bool (!r.doubt))] fun a hf=>wp_ret (kRet hf ⟨rfl,hb⟩)
theorem Tryz.rowsW:cW Tryz.prog 91 84 1 24:=cW.mk' (z:=.slice none 0 0) Tryz.underlying91 (by kernel_rfl) rfl (by omega)
theorem Tryz.votesW:cW Tryz.prog 40 93 2 32:=cW.mk' (z:=.agg #[.int .i64 0,.slice none 0 0]) Tryz.underlying40 (by kernel_rfl) rfl (by omega)
theorem Tryz.recsW:cW Tryz.prog 35 42 3 40:=cW.mk' (z:=.agg #[.int .i64 0,.slice none 0 0,.bool false]) Tryz.underlying35 (by kernel_rfl) rfl (by omega)
instance:DecidableEq VoteV:=fun a b=>decidable_of_iff (a.cont=b.cont∧a.ranks=b.ranks) (by cases a;cases b;simp)
instance:DecidableEq RecV:=fun a b=>decidable_of_iff (a.prec=b.prec∧a.votes=b.votes∧a.doubt=b.doubt) (by cases a;cases b;simp)
theorem eq_of_take {α:Type} {xs ys:List α} {k:Nat} (h:xs.take k=ys.take k) (hx:xs.length≤k) (hy:ys.length≤k):xs=ys:=by
 rwa [List.take_of_length_le hx,List.take_of_length_le hy] at h
theorem ne_of_at {α:Type} {xs ys:List α} {k:Nat} {x y:α} (hx:xs[k]?=some x) (hy:ys[k]?=some y) (h:x≠y):xs≠ys:=by
 rintro rfl;rw[hx] at hy;injection hy with hy
 exact h hy
section
variable {S S2:Nat→Prop} {A A2:Option Addr} {n n2 c c2:Nat} {w:World}
set_option maxRecDepth 20000 in
theorem eqRows_ok {xs ys:List (List Int)} (h1:RS w S A n c xs) (h2:RS w S2 A2 n2 c2 ys) (hS:∀b,S b→b<w.heap.size) (eF:∀b,S2 b→b<w.heap.size) : Calls Tryz.prog 61 #[.slice A n c,.slice A2 n2 c2,.func (.func 62) #[] #[]] w (gy w (.bool (decide (xs=ys)))):=by
 have l1:=h1.len;have l2:=h2.len;have hm:=h1.max;refine lIn Tryz.func61 [(0,.slice A n c),(1,.slice A2 n2 c2),(2,.func (.func 62) #[] #[])] fun a hf=>WlP hf [] [(0,.slice A n c),(1,.slice A2 n2 c2),(2,.func (.func 62) #[] #[])] fun a hf=>?_;by_cases hn:n=n2
 ·subst hn;refine WlP hf [tb 4 (neF (x:=n) rfl)] [(0,.slice A n c),(1,.slice A2 n c2),(2,.func (.func 62) #[] #[]),(14,.bool false)] fun a hf=>WlF hf (WlP hf [] [(1,.slice A2 n c2),(2,.func (.func 62) #[] #[]),(15,.slice A n c),(16,.int .i64 n),(17,.int .i64 0)] fun a hf=>?_);refine lLoop (fun a w'=>∃k:Nat,k≤n∧Fr 32 [(1,.slice A2 n c2),(2,.func (.func 62) #[] #[]),(15,.slice A n c),(16,.int .i64 n),(17,.int .i64 k)] a∧xs.take k=ys.take k∧Below w.heap.size w w') (fun a _=>n-(slotI 17 a).toNat) ⟨0,Nat.zero_le _,hf,rfl,Below.refl _ _⟩ ?_;rintro a0 w1 ⟨k,hk,QR,he,hb⟩;by_cases bn:k<n
  ·obtain⟨b1,o1,x,A3,n3,c3,rfl,_,hx,e1,rx⟩:=(h1.below hb hS).rowA bn;obtain⟨b2,o2,y,A4,n4,c4,rfl,_,hy,e2,ry⟩:=(h2.below hb eF).rowA bn;refine WlP QR [tb 0 (ltT bn)] ((18,.bool true)::[(1,.slice (some ⟨b2,o2,none⟩) n c2),(2,.func (.func 62) #[] #[]),(15,.slice (some ⟨b1,o1,none⟩) n c),(16,.int .i64 n),(17,.int .i64 k)]) fun a hf=>WlT hf (lBlk ?_);refine WlP hf [Wix 1 b1 o1 c Tryz.rowsW bn,cl e1] ((7,.int .i64 k)::(8,.slice A3 n3 c3)::[(1,.slice (some ⟨b2,o2,none⟩) n c2),(2,.func (.func 62) #[] #[]),(15,.slice (some ⟨b1,o1,none⟩) n c),(16,.int .i64 n),(17,.int .i64 k)]) fun a hf=>?_;refine WlP hf [Wix 2 b2 o2 c2 Tryz.rowsW bn,cl e2] ((8,.slice A3 n3 c3)::(9,.slice A4 n4 c4)::[(1,.slice (some ⟨b2,o2,none⟩) n c2),(2,.func (.func 62) #[] #[]),(15,.slice (some ⟨b1,o1,none⟩) n c),(16,.int .i64 n),(17,.int .i64 k)]) fun a hf=>?_;refine WlR hf [gV (.func (.func 62) #[] #[]),gV (.slice A3 n3 c3),gV (.slice A4 n4 c4),gV (.bool (decide (x=y)))] 1 [3] ⟨cvG fun w' xU=>(Hh (rx.below xU fun b h=>Nat.lt_of_lt_of_le (hS b h) hb.size) (ry.below xU fun b h=>Nat.lt_of_lt_of_le (eF b h) hb.size)).mono fun _ _ h=>zt.toV h,trivial⟩ fun a col w2 bY hf _=>tPu hf 30 fun a hf=>lIfB (b:=!decide (x=y)) hf (fun uP=>?_) fun uP=>?_
   ·exact WlP hf [] [(6,.bool false)] fun a hf=>lRet (rt1 hf ⟨by rw[decide_eq_false (ne_of_at hx hy (by simpa using uP))],hb.trans (bY.mono hb.size)⟩)
   ·have e:x=y:=by simpa using uP
    subst e;refine WlP hf [tl 0 (wrap1 (k:=k) (by omega))] [(1,.slice (some ⟨b2,o2,none⟩) n c2),(2,.func (.func 62) #[] #[]),(15,.slice (some ⟨b1,o1,none⟩) n c),(16,.int .i64 n),(17,.int .i64 (k+1:Nat))] fun a' hf'=>⟨⟨k+1,bn,hf',by rw[du hx,du hy,he],hb.trans (bY.mono hb.size)⟩,?_⟩;rw[QR.slotI (t:=17) (x:=k),hf'.slotI (t:=17) (x:=(k+1:Nat))];omega
  ·exact WlP QR [tb 0 (ltF bn)] [(18,.bool false)] fun a hf=>WlF hf (lExit (WlP hf [] [(6,.bool true)] fun a hf=>lRet (rt1 hf ⟨by rw[decide_eq_true (eq_of_take he (by omega) (by omega))],hb⟩)))
 ·exact WlP hf [tb 4 (neT (show(n:Int)≠n2 by omega))] [(14,.bool true)] fun a hf=>WlT hf (WlP hf [] [(6,.bool false)] fun a hf=>lRet (rt1 hf ⟨by rw[decide_eq_false fun e=>hn (by rw[←l1,←l2,e])],Below.refl _ _⟩))
set_option maxRecDepth 20000 in
theorem eqVote_ok {va vb:Value} {x y:VoteV} (h1:SV w S va x) (h2:SV w S2 vb y) (hS:∀b,S b→b<w.heap.size) (eF:∀b,S2 b→b<w.heap.size):Calls Tryz.prog 60 #[va,vb] w (gy w (.bool (decide (x=y)))):=by
 obtain⟨_,rfl,A,n,c,rfl,r1⟩:=h1;obtain⟨_,rfl,A2,n2,c2,rfl,r2⟩:=h2;refine lIn Tryz.func60 [(0,.agg #[.int .i64 x.cont,.slice A n c]),(1,.agg #[.int .i64 y.cont,.slice A2 n2 c2])] fun a hf=>?_;refine WlR hf [gB w 0 93 #[.int .i64 x.cont,.slice A n c],gB w 1 93 #[.int .i64 y.cont,.slice A2 n2 c2],gV (.bool false)] 0 [0,1] ⟨bxG,bxG,trivial⟩ fun a col w1 hb hf hH=>?_;obtain⟨g,e2,_,_,k1⟩:=gotB hH 0 2;obtain⟨g2,e3,_,_,k2⟩:=gotB hH 1 3;replace hf:=(hf.c e2).c e3;obtain⟨b,uP⟩:∃b,(x.cont==y.cont)=b:=⟨_,rfl⟩;cases b
 ·have dA:x≠y:=fun e=>by rw[e] at uP;simp at uP
  exact WlP hf [cl (k1.at 0),cl (k2.at 0),tb 4 uP] [(4,.bool false)] fun a hf=>lRet (rt1 hf ⟨by rw[decide_eq_false dA],hb⟩)
 ·refine WlR hf [gV (.pointer (some ⟨g,0,none⟩)),gV (.int .i64 x.cont),gV (.pointer (some ⟨g2,0,none⟩)),gV (.int .i64 y.cont),gV (.bool true),gV (.bool true),gV (.pointer (some ⟨g,1,none⟩)),gV (.slice A n c),gV (.pointer (some ⟨g2,1,none⟩)),gV (.slice A2 n2 c2),gV (.bool (decide (x.ranks=y.ranks))),gV (.bool (decide (x.ranks=y.ranks)))] 1 [1,3,4,7,9,10]
   ⟨ldG (k1.at 0),ldG (k2.at 0),teG uP,ldG (k1.at 1),ldG (k2.at 1),cvG fun w' xU=>eqRows_ok (r1.below (hb.trans (xU.mono hb.size)) hS) (r2.below (hb.trans (xU.mono hb.size)) eF) (fun b h=>Nat.lt_of_lt_of_le (hS b h) (Nat.le_trans hb.size xU.size)) (fun b h=>Nat.lt_of_lt_of_le (eF b h) (Nat.le_trans hb.size xU.size)),trivial⟩ fun a col w2 bY hf _=>tPu hf 4 fun a hf=>?_
  have he:decide (x=y)=decide (x.ranks=y.ranks):=by
   rw[decide_eq_decide];have h3:x.cont=y.cont:=by simpa using uP
   cases x;cases y;simp_all
  exact lRet (rt1 hf ⟨by rw[he],hb.trans (bY.mono hb.size)⟩)
end
set_option maxRecDepth 20000 in
theorem eqI05_ok {S S2:Nat→Prop} {A A2:Option Addr} {n n2 c c2:Nat} {xs ys:List Int} {w:World} (h1:RS w S A n c xs) (h2:RS w S2 A2 n2 c2 ys) (hS:∀b,S b→b<w.heap.size) (eF:∀b,S2 b→b<w.heap.size):Calls Tryz.prog 58 #[.slice A n c,.slice A2 n2 c2] w (gy w (.bool (decide (xs=ys)))):=by
 have l1:=h1.len;have l2:=h2.len;have hm:=h1.max;refine lIn Tryz.func58 [(0,.slice A n c),(1,.slice A2 n2 c2)] fun a hf=>WlP hf [] [(0,.slice A n c),(1,.slice A2 n2 c2)] fun a hf=>?_;by_cases hn:n=n2
 ·subst hn;refine WlP hf [tb 4 (neF (x:=n) rfl)] [(0,.slice A n c),(1,.slice A2 n c2),(10,.bool false)] fun a hf=>WlF hf (WlP hf [] [(0,.slice A n c),(1,.slice A2 n c2),(5,.int .i64 0)] fun a hf=>?_);refine lLoop (fun a w'=>∃k:Nat,k≤n∧Fr 26 [(0,.slice A n c),(1,.slice A2 n c2),(5,.int .i64 k)] a∧xs.take k=ys.take k∧Below w.heap.size w w'∧RS w' S A n c xs∧RS w' S2 A2 n c2 ys) (fun a _=>n-(slotI 5 a).toNat) ⟨0,Nat.zero_le _,hf,rfl,Below.refl _ _,h1,h2⟩ ?_;rintro a0 w1 ⟨k,hk,QR,he,hb,r1,r2⟩;by_cases bn:k<n
  ·obtain⟨b1,o1,x,rfl,_,hx,e1⟩:=r1.intA bn;obtain⟨b2,o2,y,rfl,_,hy,e2⟩:=r2.intA bn;refine WlP QR [tb 3 (ltT bn)] [(0,.slice (some ⟨b1,o1,none⟩) n c),(1,.slice (some ⟨b2,o2,none⟩) n c2),(5,.int .i64 k),(14,.bool true)] fun a hf=>WlT hf (lBlk ?_);refine WlR hf [gV (.slice (some ⟨b1,o1,none⟩) n c),gV (.int .i64 k),gV (.pointer (some ⟨b1,o1+k*1,none⟩)),gV (.int .i64 x),gV (.slice (some ⟨b2,o2,none⟩) n c2),gV (.int .i64 k),gV (.pointer (some ⟨b2,o2+k*1,none⟩)),gV (.int .i64 y)] 1 [2,3,6,7] ⟨ixG c Tryz.intsTy bn,ldG e1,ixG c2 Tryz.intsTy bn,ldG e2,trivial⟩ fun a col w2 bY hf _=>?_;refine tPu hf 25 fun a hf=>lIfB (b:=x !=y) hf (fun uP=>?_) fun uP=>?_
   ·have dA:decide (xs=ys)=false:=decide_eq_false fun e=>by rw[e,hy] at hx;injection hx with hx;rw[hx] at uP;simp at uP
    exact WlP hf [] [(4,.bool false)] fun a hf=>lRet (rt1 hf ⟨by rw[dA],hb.trans (bY.mono hb.size)⟩)
   ·have e:x=y:=by simpa using uP
    subst e;refine WlP hf [tl 1 (wrap1 (k:=k) (by omega))] [(0,.slice (some ⟨b1,o1,none⟩) n c),(1,.slice (some ⟨b2,o2,none⟩) n c2),(5,.int .i64 (k+1:Nat))] fun a' hf'=>⟨⟨k+1,bn,hf',by rw[du hx,du hy,he],hb.trans (bY.mono hb.size),r1.below bY fun b h=>Nat.lt_of_lt_of_le (hS b h) hb.size,r2.below bY fun b h=>Nat.lt_of_lt_of_le (eF b h) hb.size⟩,?_⟩;rw[QR.slotI (t:=5) (x:=k),hf'.slotI (t:=5) (x:=(k+1:Nat))];omega
  ·have dA:decide (xs=ys)=true:=decide_eq_true (eq_of_take he (by omega) (by omega));exact WlP QR [tb 3 (ltF bn)] [(14,.bool false)] fun a hf=>WlF hf (lExit (WlP hf [] [(4,.bool true)] fun a hf=>lRet (rt1 hf ⟨by rw[dA],hb⟩)))
 ·have dA:decide (xs=ys)=false:=decide_eq_false fun e=>hn (by rw[←l1,←l2,e]);exact WlP hf [tb 4 (neT (show(n:Int)≠n2 by omega))] [(10,.bool true)] fun a hf=>WlT hf (WlP hf [] [(4,.bool false)] fun a hf=>lRet (rt1 hf ⟨by rw[dA],Below.refl _ _⟩))
section
variable {S S2:Nat→Prop} {A A2:Option Addr} {n n2 c c2:Nat} {w:World}
set_option maxRecDepth 20000 in
theorem eqVotes_ok {xs ys:List VoteV} (h1:RS w S A n c xs) (h2:RS w S2 A2 n2 c2 ys) (hS:∀b,S b→b<w.heap.size) (eF:∀b,S2 b→b<w.heap.size) : Calls Tryz.prog 59 #[.slice A n c,.slice A2 n2 c2,.func (.func 60) #[] #[]] w (gy w (.bool (decide (xs=ys)))):=by
 have l1:=h1.len;have l2:=h2.len;have hm:=h1.max;refine lIn Tryz.func59 [(0,.slice A n c),(1,.slice A2 n2 c2),(2,.func (.func 60) #[] #[])] fun a hf=>WlP hf [] [(0,.slice A n c),(1,.slice A2 n2 c2),(2,.func (.func 60) #[] #[])] fun a hf=>?_;by_cases hn:n=n2
 ·subst hn;refine WlP hf [tb 4 (neF (x:=n) rfl)] [(0,.slice A n c),(1,.slice A2 n c2),(2,.func (.func 60) #[] #[]),(14,.bool false)] fun a hf=>WlF hf (WlP hf [] [(1,.slice A2 n c2),(2,.func (.func 60) #[] #[]),(15,.slice A n c),(16,.int .i64 n),(17,.int .i64 0)] fun a hf=>?_);refine lLoop (fun a w'=>∃k:Nat,k≤n∧Fr 32 [(1,.slice A2 n c2),(2,.func (.func 60) #[] #[]),(15,.slice A n c),(16,.int .i64 n),(17,.int .i64 k)] a∧xs.take k=ys.take k∧Below w.heap.size w w') (fun a _=>n-(slotI 17 a).toNat) ⟨0,Nat.zero_le _,hf,rfl,Below.refl _ _⟩ ?_;rintro a0 w1 ⟨k,hk,QR,he,hb⟩;by_cases bn:k<n
  ·obtain⟨b1,o1,x,_,rfl,bd,hx,⟨A3,n3,c3,rfl,rx⟩,e1⟩:=(h1.below hb hS).stA bn;obtain⟨b2,o2,y,_,rfl,bY,hy,⟨A4,n4,c4,rfl,ry⟩,e2⟩:=(h2.below hb eF).stA bn;have t1:∀{b},S b→b<w1.heap.size:=fun h=>Nat.lt_of_lt_of_le (hS _ h) hb.size;have t2:∀{b},S2 b→b<w1.heap.size:=fun h=>Nat.lt_of_lt_of_le (eF _ h) hb.size;refine WlP QR [tb 0 (ltT bn)] ((18,.bool true)::[(1,.slice (some ⟨b2,o2,none⟩) n c2),(2,.func (.func 60) #[] #[]),(15,.slice (some ⟨b1,o1,none⟩) n c),(16,.int .i64 n),(17,.int .i64 k)]) fun a hf=>WlT hf (lBlk ?_);refine WlR hf [gV (.int .i64 k),gV (.pointer (some ⟨b1,o1+k*2,none⟩)),gV (.agg #[.int .i64 x.cont,.slice A3 n3 c3]),gB w1 3 93 #[.int .i64 0,.slice none 0 0],gV (.int .i64 k)] 1 [1,2,3] ⟨ixG c Tryz.votesW bn,lmG e1 (t1 bd),bxG,trivial⟩ fun a col w2 jY hf hH=>?_;obtain⟨g,u8,hg,_,k1⟩:=gotB hH 3 8;refine tSt (hf.c u8) k1 0 #[.int .i64 x.cont,.slice A3 n3 c3] fun w3 p3 k1=>?_;have b13:Below w1.heap.size w1 w3:=p3.below jY hg;refine WlR (hf.c u8) [gV (.slice (some ⟨b2,o2,none⟩) n c2),gV (.int .i64 k),gV (.pointer (some ⟨b2,o2+k*2,none⟩)),gV (.agg #[.int .i64 y.cont,.slice A4 n4 c4]),gB w3 4 93 #[.int .i64 0,.slice none 0 0]] 1 [2,3,4] ⟨ixG c2 Tryz.votesW bn,lmG (e2.keep (aD.of_below b13) (t2 bY)) (Nat.lt_of_lt_of_le (t2 bY) b13.size),bxG,trivial⟩ fun a col w4 Ck hf hH=>?_;obtain⟨g2,u9,hg2,_,k2⟩:=gotB hH 4 9;refine tSt (hf.c u9) k2 0 #[.int .i64 y.cont,.slice A4 n4 c4] fun w5 p5 k2=>?_;have b35:Below w3.heap.size w3 w5:=p5.below Ck hg2;have b15:=b13.trans (b35.mono b13.size);refine WlR (hf.c u9) [gV (.func (.func 60) #[] #[]),gV (.agg #[.int .i64 x.cont,.slice A3 n3 c3]),gV (.agg #[.int .i64 y.cont,.slice A4 n4 c4]),gV (.bool (decide (x=y)))] 1 [1,2,3] ⟨lmG (k1.keep b35).cat (k1.keep b35).lt,lmG k2.cat k2.lt,cvG fun w' xU=>eqVote_ok (S:=S) (S2:=S2) ⟨_,rfl,A3,n3,c3,rfl,rx.below (b15.trans (xU.mono b15.size)) fun _=>t1⟩ ⟨_,rfl,A4,n4,c4,rfl,ry.below (b15.trans (xU.mono b15.size)) fun _=>t2⟩ (fun _ h=>Nat.lt_of_lt_of_le (t1 h) (Nat.le_trans b15.size xU.size)) (fun _ h=>Nat.lt_of_lt_of_le (t2 h) (Nat.le_trans b15.size xU.size)),trivial⟩ fun a col w6 qk hf _=>tPu hf 30 fun a hf=>lIfB (b:=!decide (x=y)) hf (fun uP=>?_) fun uP=>?_
   all_goals have b6:Below w.heap.size w w6:=hb.trans ((b15.trans (qk.mono b15.size)).mono hb.size)
   ·exact WlP hf [] [(6,.bool false)] fun a hf=>lRet (rt1 hf ⟨by rw[decide_eq_false (ne_of_at hx hy (by simpa using uP))],b6⟩)
   ·have e:x=y:=by simpa using uP
    subst e;refine WlP hf [tl 0 (wrap1 (k:=k) (by omega))] [(1,.slice (some ⟨b2,o2,none⟩) n c2),(2,.func (.func 60) #[] #[]),(15,.slice (some ⟨b1,o1,none⟩) n c),(16,.int .i64 n),(17,.int .i64 (k+1:Nat))] fun a' hf'=>⟨⟨k+1,bn,hf',by rw[du hx,du hy,he],b6⟩,?_⟩;rw[QR.slotI (t:=17) (x:=k),hf'.slotI (t:=17) (x:=(k+1:Nat))];omega
  ·exact WlP QR [tb 0 (ltF bn)] [(18,.bool false)] fun a hf=>WlF hf (lExit (WlP hf [] [(6,.bool true)] fun a hf=>lRet (rt1 hf ⟨by rw[decide_eq_true (eq_of_take he (by omega) (by omega))],hb⟩)))
 ·exact WlP hf [tb 4 (neT (show(n:Int)≠n2 by omega))] [(14,.bool true)] fun a hf=>WlT hf (WlP hf [] [(6,.bool false)] fun a hf=>lRet (rt1 hf ⟨by rw[decide_eq_false fun e=>hn (by rw[←l1,←l2,e])],Below.refl _ _⟩))
end
end Go.Proofs.YtjlhbfbdcfajfaaGreatDoor
