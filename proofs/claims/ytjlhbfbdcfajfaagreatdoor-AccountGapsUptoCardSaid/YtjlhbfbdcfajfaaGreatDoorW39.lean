/- Law3 Law4 Ref38 Tm18 -/
import Derived.Test.YtjlhbfbdcfajfaaGreatDoorW00
import Derived.Test.YtjlhbfbdcfajfaaGreatDoorW38
import Derived.Test.YtjlhbfbdcfajfaaGreatDoorW33
import Derived.Test.YtjlhbfbdcfajfaaGreatDoorW36
import Derived.Test.YtjlhbfbdcfajfaaGreatDoorW37
set_option maxHeartbeats 8000000
set_option maxRecDepth 100000
namespace Go.Proofs.YtjlhbfbdcfajfaaGreatDoor
open Go.RowKit Go
theorem Dz {kind nm:ByteArray} {b:cL} {v:aC} {x:dd} (h:cT kind nm b v x) (line:Int):∀(l:List ByteArray),(∀k∈l,k∈aM kind)→ gd x.known x.c.method line l ⟨0,0⟩=if l.any (gH v)=true then⟨6,line⟩ else⟨0,0⟩
 | [],_=>rfl
 | k::l,hl=>by
  have hk:=hl k (by simp);have hm:k=az→x.c.method=v.n aN:=fun e=>by
   subst e;by_cases hc:kind=ah
   ·have:=(h.c hc).1;have h2:=congrArg ai.method this;exact h2
   ·exfalso
    rcases mW hk with⟨_,q⟩|⟨_,q⟩|⟨_,q⟩|⟨q,_⟩|⟨_,q⟩|⟨_,q⟩|⟨_,q⟩
    ·revert q;decide
    ·revert q;decide
    ·revert q;decide
    ·exact hc q
    ·revert q;decide
    ·revert q;decide
    ·revert q;decide
  have oB:(bH x.known k=true∨(k=az∧x.c.method≠2))↔gH v k=false:=by
   unfold gH;rw[h.kn k];by_cases hd:k=az
   ·rw[hm hd];cases (v.ln k).isSome<;>simp[hd]
   ·cases (v.ln k).isSome<;>simp[hd]
  unfold gd;rw[if_neg (by simp)];cases hp:gH v k with
  | true=>
   rw[if_neg (by rw[oB,hp];simp),ci];have h6:bA 6 line=⟨6,line⟩:=rfl;rw[h6];have fa:∀q:List ByteArray,gd x.known x.c.method line q ⟨6,line⟩=⟨6,line⟩:=fun q=>by
    cases q with
    | nil=>rfl
    | cons _ _=>unfold gd;rw[if_pos (by simp)]
   rw[fa,acb,hp];rfl
  | false=>
   rw[if_pos (oB.2 hp),ci,sa,Dz h line l (fun q hq=>hl q (by simp[hq])),acb,hp,acp]
theorem tD (v:aC) (line:Int) (e:eM):∀l:List ByteArray,tE v line e l=if l.any (gH v)=true then⟨6,line⟩ else e
 | []=>rfl
 | k::l=>by
  unfold tE;rw[acb];cases hp:gH v k with
  | true=>simp
  | false=>rw[if_neg (by simp),tD v line e l,acp]
theorem wS (k:ByteArray):mV k=if k=ah then true else if k=aD then true else false:=rfl
structure qK (b:cL) (t:fc):Prop where
 f:t.f=⟨0,0⟩
 e:t.e=b.e
 seen:∀k,bH t.seen k=decide (b.of k≠[])
 cs:b.of ah=t.e.cont.map (·.name)
 ss:b.of aD=t.e.styl.map (·.name)
 lc:t.e.cont.length≤4
 ls:t.e.styl.length≤6
 names:t.names=b.vals.map fun v=>(v.s af,v.s ay)
 lines:t.lines=b.vals.map fun v=>(v.l af,v.l ay)
 z1:b.of aP=[]→t.e.dots=0∧t.e.blank=0∧t.e.marked=0
 z2:b.of au=[]→t.e.scan=0∧t.e.batch=0
 z3:b.of af=[]→t.e.prec=[]
 z4:b.of aO=[]→t.e.risk=⟨false,[],[]⟩∧t.e.seed=⟨#[]⟩
 z5:b.of aY=[]→t.e.cell=0
theorem Rv (l:List ai) (nm:ByteArray):(l.any fun c=>decide (c.name=nm))=Lib.containsS (l.map (·.name)) nm:=by
 rw[acs,Lib.containsS_iff,ad6];simp only[acr,decide_eq_true_eq]
theorem L6 (l:List ax) (nm:ByteArray):(l.any fun c=>decide (c.name=nm))=Lib.containsS (l.map (·.name)) nm:=by
 rw[acs,Lib.containsS_iff,ad6];simp only[acr,decide_eq_true_eq]
theorem Rr {s:ByteArray}:s.data.toList=[]↔s=⟨#[]⟩:=by
 constructor
 ·intro h;obtain⟨⟨l⟩⟩:=s;have:l=[]:=h;rw[this]
 ·rintro rfl;rfl
theorem head_eq {b:cL} {t:fc} (h:qK b t) (kind nm:ByteArray):j5 t kind nm=gJ kind nm (b.of kind):=by
 unfold j5 gJ;by_cases h0:aM kind=[]
 ·rw[if_pos h0,if_pos h0]
 rw[if_neg h0,if_neg h0];have hm:mV kind=ja kind:=by
  rw[wS];unfold ja;by_cases h1:kind=ah
  ·rw[if_pos h1,decide_eq_true h1];rfl
  ·rw[if_neg h1,decide_eq_false h1];by_cases h2:kind=aD
   ·rw[if_pos h2,decide_eq_true h2];rfl
   ·rw[if_neg h2,decide_eq_false h2];rfl
 rw[hm];cases Sj:ja kind with
 | false=>
  have ui:kind≠ah:=fun e=>by rw[e] at Sj;revert Sj;decide
  have eX:kind≠aD:=fun e=>by rw[e] at Sj;revert Sj;decide
  have hs:=h.seen kind;rw[if_neg (by simp),if_neg (by simp),if_neg (by simp),if_neg (by rintro(⟨q,_⟩|⟨q,_⟩);exact ui q;exact eX q),if_pos rfl];by_cases hn:nm≠⟨#[]⟩
  ·rw[if_pos ⟨rfl,hn⟩,if_pos hn]
  ·rw[if_neg (fun q=>hn q.2),if_neg hn,hs];by_cases hl:b.of kind≠[]
   ·rw[if_pos ⟨rfl,decide_eq_true hl⟩,if_pos (List.length_pos_iff.2 hl)]
   ·rw[if_neg (fun q=>hl (of_decide_eq_true q.2)),if_neg (fun q=>hl (List.length_pos_iff.1 q))]
 | true=>
  rw[if_neg (by simp:¬(true=false))];by_cases hn:nm=⟨#[]⟩
  ·rw[if_pos ⟨rfl,hn⟩,if_pos hn]
  ·rw[if_neg (fun q=>hn q.2),if_neg hn];have hw:=SE (l:=nm.data.toList) (fun e=>hn (Rr.1 e));by_cases h8:iK nm.data.toList=false∨((nm.data.toList[0]?).getD 0).toNat<97∨24<nm.size
   ·rw[if_pos h8,if_pos ⟨rfl,by rcases h8 with q|q|q;exact .inl (hw.2 (.inl q));exact .inl (hw.2 (.inr q));exact .inr q⟩]
   ·rw[if_neg h8,if_neg (by
     rintro⟨_,q|q⟩
     ·rcases hw.1 q with q|q
      ·exact h8 (.inl q)
      ·exact h8 (.inr (.inl q))
     ·exact h8 (.inr (.inr q)))]
    have aeL:(kind=ah∧(t.e.cont.any fun c=>decide (c.name=nm))=true)∨(kind=aD∧(t.e.styl.any fun c=>decide (c.name=nm))=true)↔Lib.containsS (b.of kind) nm=true:=by
     rw[Rv,L6,←h.cs,←h.ss];constructor
     ·rintro(⟨q,r⟩|⟨q,r⟩)<;>rw[q]<;>exact r
     ·intro r;by_cases q:kind=ah
      ·left;rw[q] at r;exact⟨q,r⟩
      ·have q2:kind=aD:=by
        unfold ja at Sj;rw[decide_eq_false q,acp,decide_eq_true_eq] at Sj;exact Sj
       right;rw[q2] at r;exact⟨q2,r⟩
    have oC:(kind=ah∧4≤t.e.cont.length)∨(kind=aD∧6≤t.e.styl.length)↔((b.of kind).length:Int)=ew kind:=by
     have c1:ew ah=4:=by kernel_rfl
     have c2:ew aD=6:=by kernel_rfl
     have l1:(b.of ah).length=t.e.cont.length:=by rw[h.cs,abU]
     have l2:(b.of aD).length=t.e.styl.length:=by rw[h.ss,abU]
     have b1:=h.lc;have b2:=h.ls;by_cases q:kind=ah
     ·subst q;rw[c1,l1];constructor
      ·rintro(⟨_,r⟩|⟨r,_⟩)
       ·omega
       ·exact absurd r (by decide)
      ·intro r;left;exact⟨rfl,by omega⟩
     ·have q2:kind=aD:=by
       unfold ja at Sj;rw[decide_eq_false q,acp,decide_eq_true_eq] at Sj;exact Sj
      subst q2;rw[c2,l2];constructor
      ·rintro(⟨r,_⟩|⟨_,r⟩)
       ·exact absurd r (by decide)
       ·omega
      ·intro r;right;exact⟨rfl,by omega⟩
    by_cases h3:Lib.containsS (b.of kind) nm=true
    ·rw[if_pos ⟨rfl,aeL.2 h3⟩,if_pos h3]
    ·rw[if_neg (fun q=>h3 (aeL.1 q.2)),if_neg h3];by_cases h7:((b.of kind).length:Int)=ew kind
     ·rw[if_pos (oC.2 h7),if_pos h7]
     ·rw[if_neg (fun q=>h7 (oC.1 q)),if_neg h7,if_neg (fun q=>by cases q.1),if_neg (fun q=>by cases q.1)]
theorem FL {b:cL} {t:fc} (h:qK b t) (x:aw) (h0:gJ x.kind x.name (b.of x.kind)=0):cT x.kind x.name (b.named x.kind x.name) aC.zero (dd.start t x):=by
 have hh:=head_eq h x.kind x.name;rw[h0] at hh;have hd:gJ x.kind x.name (b.of x.kind)=0:=h0;have hof:x.kind≠ah→x.kind≠aD→b.of x.kind=[]:=fun h1 h2=>by
  unfold gJ at hd;by_cases hk:aM x.kind=[]
  ·rw[if_pos hk] at hd;cases hd
  rw[if_neg hk,if_pos (by rw[wS,if_neg h1,if_neg h2])] at hd;split at hd
  ·cases hd
  split at hd
  ·cases hd
  ·rename_i q;exact abX.1 fun r=>q (List.length_pos_iff.2 r)
 exact {
  f:=by show t.f.note (j5 t x.kind x.name) x.line=_;rw[hh,fp,h.f]
  kn:=fun k=>by show bH [] k=(none:Option Int).isSome;rfl
  only:=fun k hk=>by cases hk
  e:=fun h1 h2=>by
   have ho:=hof h1 h2;show t.e=_;have hb:(b.named x.kind x.name).e=b.e:=rfl;unfold bG;obtain⟨kind,nm,fields,line⟩:=x;simp only at ho h1 h2 hb ⊢;by_cases q1:kind=aP
   ·subst q1;obtain⟨z1,z2,z3⟩:=h.z1 ho;rw[if_pos rfl,hb,←h.e];exact(show t.e={ t.e with dots:=t.e.dots,blank:=t.e.blank,marked:=t.e.marked } from rfl).trans (by rw[z1,z2,z3];rfl)
   rw[if_neg q1];by_cases q2:kind=au
   ·subst q2;obtain⟨z1,z2⟩:=h.z2 ho;rw[if_pos rfl,hb,←h.e];exact(show t.e={ t.e with scan:=t.e.scan,batch:=t.e.batch } from rfl).trans (by rw[z1,z2];rfl)
   rw[if_neg q2];by_cases q3:kind=af
   ·subst q3;have z1:=h.z3 ho;rw[if_pos rfl,hb,←h.e];exact(show t.e={ t.e with prec:=t.e.prec } from rfl).trans (by rw[z1];rfl)
   rw[if_neg q3,if_neg h1,if_neg h2];by_cases q4:kind=aO
   ·subst q4;obtain⟨z1,z2⟩:=h.z4 ho;rw[if_pos rfl,hb,←h.e];exact(show t.e={ t.e with risk:=t.e.risk,seed:=t.e.seed } from rfl).trans (by rw[z1,z2];rfl)
   rw[if_neg q4];by_cases q5:kind=aY
   ·subst q5;have z1:=h.z5 ho;rw[if_pos rfl,hb,←h.e];exact(show t.e={ t.e with cell:=t.e.cell } from rfl).trans (by rw[z1];rfl)
   rw[if_neg q5,hb,h.e]
  e':=fun _=>h.e
  c:=fun _=>⟨rfl,rfl,rfl⟩
  c':=fun _=>rfl
  s:=fun _=>⟨rfl,rfl,rfl,rfl⟩ }
theorem ib (b:cL) (kind nm k:ByteArray):(b.named kind nm).of k=if k=kind then b.of kind++[nm] else b.of k:=by
 unfold cL.named cL.of setF;simp only;by_cases h:k=kind
 ·rw[if_pos h,if_pos h];rfl
 ·rw[if_neg h,if_neg h]
theorem ia (kind nm:ByteArray) (v:aC) (b:cL) (k:ByteArray):(bG kind nm v b).of k=b.of k:=by
 unfold bG
 repeat' split
 all_goals rfl
theorem tf {b:cL} {t:fc} (h:qK b t) (kind nm:ByteArray) (v:aC) (k:ByteArray):bH (t.seen++[kind]) k=decide ((bG kind nm v (b.named kind nm)).of k≠[]):=by
 rw[ia,ib,zV,h.seen];by_cases hk:k=kind
 ·rw[if_pos hk,decide_eq_true hk,decide_eq_true (show b.of kind++[nm]≠[] by simp),Bool.or_true]
 ·rw[if_neg hk,decide_eq_false hk];simp
theorem FJ {kind:ByteArray} {fs:List ao} {x:dd} (h:x.f.no≠0):dQ kind fs x=x:=by
 cases fs with
 | nil=>rfl
 | cons f l=>unfold dQ;rw[if_pos h]
theorem zl {known:List ByteArray} {m line:Int} {l:List ByteArray} {f:eM} (h:f.no≠0):gd known m line l f=f:=by
 cases l with
 | nil=>rfl
 | cons k l=>unfold gd;rw[if_pos h]
theorem xF {t:fc} {x:aw} {y:dd} (h:(gd y.known y.c.method x.line (aM x.kind) y.f).no≠0):(tQ t x y).f=gd y.known y.c.method x.line (aM x.kind) y.f:=by
 unfold tQ;simp only;rw[if_pos h]
theorem Lz {t:fc} {x:aw} {y:dd} (h:gd y.known y.c.method x.line (aM x.kind) y.f=⟨0,0⟩):tQ t x y= if x.kind=ah then { t with e:={ y.e with cont:=y.e.cont++[{ y.c with name:=x.name }] },f:=((⟨0,0⟩:eM).note (if bH y.known az=true∧y.c.method≠2 then 5 else 0) y.digits).note (if y.c.method=1∧1<y.c.seats then 4 else 0) y.seats,seen:=t.seen++[x.kind] } else if x.kind=aD then { t with e:={ y.e with styl:=y.e.styl++[⟨x.name,[],[]⟩] },f:=⟨0,0⟩,seen:=t.seen++[x.kind],names:=t.names++[(y.n0,y.n1)],lines:=t.lines++[(y.l0,y.l1)] } else if x.kind=aP∧y.e.marked<y.e.blank then { t with e:=y.e,f:=(⟨0,0⟩:eM).note 4 x.line,seen:=t.seen++[x.kind] } else { t with e:=y.e,f:=⟨0,0⟩,seen:=t.seen++[x.kind] }:=by
 unfold tQ;simp only[h];rw[if_neg (by simp)];rfl
theorem D5 {kind nm:ByteArray} {ns:List ByteArray} (h:gJ kind nm ns=0) (hk:kind=ah∨kind=aD):(ns.length:Int)≠ew kind:=by
 intro e;unfold gJ at h;split at h
 ·cases h
 split at h
 ·rename_i _ q;rcases hk with rfl|rfl
  ·revert q;decide
  ·revert q;decide
 split at h
 ·cases h
 split at h
 ·cases h
 split at h
 ·cases h
 first|(cases h;done)|(rw[if_pos e] at h;cases h)
theorem Lk {kind nm:ByteArray} {ns:List ByteArray} (h:gJ kind nm ns=0):kind=aP∨kind=au∨kind=af∨kind=ah∨kind=aD∨kind=aO∨kind=aY:=by
 have h0:aM kind≠[]:=fun e=>by
  unfold gJ at h;rw[if_pos e] at h;cases h
 obtain⟨k,hk⟩:=List.exists_mem_of_ne_nil _ h0;rcases mW hk with⟨q,_⟩|⟨q,_⟩|⟨q,_⟩|⟨q,_⟩|⟨q,_⟩|⟨q,_⟩|⟨q,_⟩
 ·exact .inl q
 ·exact .inr (.inl q)
 ·exact .inr (.inr (.inl q))
 ·exact .inr (.inr (.inr (.inl q)))
 ·exact .inr (.inr (.inr (.inr (.inl q))))
 ·exact .inr (.inr (.inr (.inr (.inr (.inl q)))))
 ·exact .inr (.inr (.inr (.inr (.inr (.inr q)))))
theorem KT {kind nm:ByteArray} {b:cL} {v:aC} {x:dd} (h:cT kind nm b v x) (hk:kind≠ah):(v.ln az).isSome=false:=by
 cases hs:(v.ln az).isSome with
 | false=>rfl
 | true=>
  exfalso
  rcases mW (h.only _ hs) with⟨_,q⟩|⟨_,q⟩|⟨_,q⟩|⟨q,_⟩|⟨_,q⟩|⟨_,q⟩|⟨_,q⟩
  ·revert q;decide
  ·revert q;decide
  ·revert q;decide
  ·exact hk q
  ·revert q;decide
  ·revert q;decide
  ·revert q;decide
theorem kL {b:cL} {t:fc} (h:qK b t) {kind nm:ByteArray} {v:aC} {e':aa} (h1:kind≠ah) (h2:kind≠aD) (he:e'=(bG kind nm v (b.named kind nm)).e) (hc:e'.cont=b.e.cont) (hs:e'.styl=b.e.styl) (Cq:(bG kind nm v (b.named kind nm)).vals=b.vals) (z1:kind≠aP→e'.dots=b.e.dots∧e'.blank=b.e.blank∧e'.marked=b.e.marked) (z2:kind≠au→e'.scan=b.e.scan∧e'.batch=b.e.batch) (z3:kind≠af→e'.prec=b.e.prec) (z4:kind≠aO→e'.risk=b.e.risk∧e'.seed=b.e.seed) (z5:kind≠aY→e'.cell=b.e.cell) : qK (bG kind nm v (b.named kind nm)) { t with e:=e',f:=⟨0,0⟩,seen:=t.seen++[kind] }:=by
 have hz:∀k,(bG kind nm v (b.named kind nm)).of k=[]→kind≠k∧b.of k=[]:=fun k hk=>by
  rw[ia,ib] at hk;by_cases q:k=kind
  ·rw[if_pos q] at hk;simp at hk
  ·rw[if_neg q] at hk;exact⟨aca q,hk⟩
 exact {
  f:=rfl
  e:=he
  seen:=fun k=>tf h kind nm v k
  cs:=by
   rw[ia,ib,if_neg (aca h1),h.cs];show _=e'.cont.map _;rw[hc,h.e]
  ss:=by
   rw[ia,ib,if_neg (aca h2),h.ss];show _=e'.styl.map _;rw[hs,h.e]
  lc:=by show e'.cont.length≤4;rw[hc,←h.e];exact h.lc
  ls:=by show e'.styl.length≤6;rw[hs,←h.e];exact h.ls
  names:=by rw[Cq];exact h.names
  lines:=by rw[Cq];exact h.lines
  z1:=fun k=>by
   obtain⟨q1,q2⟩:=hz _ k;have q3:=h.z1 q2;rw[h.e] at q3;obtain⟨a1,a2,a3⟩:=z1 q1;exact⟨a1.trans q3.1,a2.trans q3.2.1,a3.trans q3.2.2⟩
  z2:=fun k=>by
   obtain⟨q1,q2⟩:=hz _ k;have q3:=h.z2 q2;rw[h.e] at q3;obtain⟨a1,a2⟩:=z2 q1;exact⟨a1.trans q3.1,a2.trans q3.2⟩
  z3:=fun k=>by
   obtain⟨q1,q2⟩:=hz _ k;have q3:=h.z3 q2;rw[h.e] at q3;exact(z3 q1).trans q3
  z4:=fun k=>by
   obtain⟨q1,q2⟩:=hz _ k;have q3:=h.z4 q2;rw[h.e] at q3;obtain⟨a1,a2⟩:=z4 q1;exact⟨a1.trans q3.1,a2.trans q3.2⟩
  z5:=fun k=>by
   obtain⟨q1,q2⟩:=hz _ k;have q3:=h.z5 q2;rw[h.e] at q3;exact(z5 q1).trans q3 }
theorem F3 {kind:ByteArray} {line:Int} {v:aC} (h:(ky kind line v).no=0):ky kind line v=⟨0,0⟩:=by
 unfold ky at h ⊢;split
 ·rename_i q;rw[if_pos q] at h;cases h
 split
 ·rename_i q1 q;rw[if_neg q1,if_pos q] at h;cases h
 split
 ·rename_i q1 q2 q;rw[if_neg q1,if_neg q2,if_pos q] at h;cases h
 ·rfl
theorem aat {b:cL} {t:fc} (h:qK b t) {x:aw} (h0:gJ x.kind x.name (b.of x.kind)=0) {v:aC} {y:dd} (hv:cT x.kind x.name (b.named x.kind x.name) v y) (hm:gd y.known y.c.method x.line (aM x.kind) y.f=⟨0,0⟩) : (tQ t x y).f=ky x.kind x.line v∧((ky x.kind x.line v).no=0→qK (bG x.kind x.name v (b.named x.kind x.name)) (tQ t x y)):=by
 rw[Lz hm];obtain⟨kind,nm,fields,line⟩:=x;simp only at h0 hv hm ⊢;have hz:∀k,(bG kind nm v (b.named kind nm)).of k=[]→kind≠k∧b.of k=[]:=fun k hk=>by
  rw[ia,ib] at hk;by_cases q:k=kind
  ·rw[if_pos q] at hk;simp at hk
  ·rw[if_neg q] at hk;exact⟨aca q,hk⟩
 by_cases hc:kind=ah
 ·subst hc;obtain⟨c1,c2,c3⟩:=hv.c rfl;have m1:y.c.method=v.n aN:=congrArg ai.method c1;have m2:y.c.seats=v.n bf:=congrArg ai.seats c1;have he:y.e=b.e:=hv.e' (.inl rfl);have oC:=D5 h0 (.inl rfl);have hc4:ew ah=4:=by kernel_rfl
  have bO:(b.of ah).length=t.e.cont.length:=by rw[h.cs,abU]
  have hlc:=h.lc;have c1:(⟨nm,y.c.cands,y.c.method,y.c.seats,y.c.ranks,y.c.digits,y.c.ties,y.c.over,y.c.skip⟩:ai)=da nm v:=c1;rw[if_pos rfl,c1,hv.kn,m1,m2,c2,c3,he];refine⟨?_,fun hr=>?_⟩
  ·show((⟨0,0⟩:eM).note _ _).note _ _=_;unfold ky;by_cases p5:(v.ln az).isSome=true∧v.n aN≠2
   ·rw[if_pos p5,if_pos p5,ci,tg (by rw[sd];omega)];rfl
   ·rw[if_neg p5,if_neg p5,ci,sa,ci];by_cases p4:v.n aN=1∧1<v.n bf
    ·rw[if_pos p4,if_pos ⟨rfl,p4⟩];rfl
    ·rw[if_neg p4,if_neg (fun q=>p4 q.2),if_neg (fun q=>by revert q;exact fun q=>absurd q.1 (by decide))];rfl
  ·have fa:bG ah nm v (b.named ah nm)={ b.named ah nm with e:={ b.e with cont:=b.e.cont++[da nm v] } }:=by
    unfold bG;rw[if_neg (by decide),if_neg (by decide),if_neg (by decide),if_pos rfl];rfl
   have hf:((⟨0,0⟩:eM).note (if(v.ln az).isSome=true∧v.n aN≠2 then 5 else 0) (v.l az)).note (if v.n aN=1∧1<v.n bf then 4 else 0) (v.l bf)=⟨0,0⟩:=by
    unfold ky at hr;by_cases p5:(v.ln az).isSome=true∧v.n aN≠2
    ·rw[if_pos p5] at hr;cases hr
    ·rw[if_neg p5] at hr;rw[if_neg p5,ci,sa,ci];by_cases p4:v.n aN=1∧1<v.n bf
     ·rw[if_pos ⟨rfl,p4⟩] at hr;cases hr
     ·rw[if_neg p4];rfl
   exact {
    f:=hf
    e:=by rw[fa]
    seen:=fun k=>tf h ah nm v k
    cs:=by
     rw[ia,ib,if_pos rfl,h.cs,h.e];show _=(b.e.cont++[da nm v]).map _;rw[acV];rfl
    ss:=by
     rw[ia,ib,if_neg (by decide),h.ss,h.e]
    lc:=by
     show(b.e.cont++[da nm v]).length≤4;rw[abm,abN,←h.e];rw[hc4,bO] at oC;omega
    ls:=by show b.e.styl.length≤6;rw[←h.e];exact h.ls
    names:=by rw[fa];exact h.names
    lines:=by rw[fa];exact h.lines
    z1:=fun k=>by have q:=h.z1 (hz _ k).2;rw[h.e] at q;exact q
    z2:=fun k=>by have q:=h.z2 (hz _ k).2;rw[h.e] at q;exact q
    z3:=fun k=>by have q:=h.z3 (hz _ k).2;rw[h.e] at q;exact q
    z4:=fun k=>by have q:=h.z4 (hz _ k).2;rw[h.e] at q;exact q
    z5:=fun k=>by have q:=h.z5 (hz _ k).2;rw[h.e] at q;exact q }
 rw[if_neg hc];have Gx:=KT hv hc;have Jb:ky kind line v=if kind=aP∧v.n bb<v.n bq then⟨4,line⟩ else⟨0,0⟩:=by
  unfold ky;rw[if_neg (by rw[Gx];simp),if_neg (fun q=>hc q.1)]
 rw[Jb];by_cases hs:kind=aD
 ·subst hs;obtain⟨s1,s2,s3,s4⟩:=hv.s rfl;have he:y.e=b.e:=hv.e' (.inr rfl);have oC:=D5 h0 (.inr rfl);have hc4:ew aD=6:=by kernel_rfl
  have bO:(b.of aD).length=t.e.styl.length:=by rw[h.ss,abU]
  have hls:=h.ls;rw[if_pos rfl,if_neg (fun q=>absurd q.1 (by decide)),s1,s2,s3,s4,he];refine⟨rfl,fun _=>?_⟩;have fa:bG aD nm v (b.named aD nm)={ b.named aD nm with e:={ b.e with styl:=b.e.styl++[⟨nm,[],[]⟩] },vals:=b.vals++[v] }:=by
   unfold bG;rw[if_neg (by decide),if_neg (by decide),if_neg (by decide),if_neg (by decide),if_pos rfl];rfl
  exact {
   f:=rfl
   e:=by rw[fa]
   seen:=fun k=>tf h aD nm v k
   cs:=by
    rw[ia,ib,if_neg (by decide),h.cs,h.e]
   ss:=by
    rw[ia,ib,if_pos rfl,h.ss,h.e];show _=(b.e.styl++[(⟨nm,[],[]⟩:ax)]).map _;rw[acV];rfl
   lc:=by show b.e.cont.length≤4;rw[←h.e];exact h.lc
   ls:=by
    show(b.e.styl++[(⟨nm,[],[]⟩:ax)]).length≤6;rw[abm,abN,←h.e];rw[hc4,bO] at oC;omega
   names:=by
    rw[fa];show t.names++_=(b.vals++[v]).map _;rw[h.names,acV];rfl
   lines:=by
    rw[fa];show t.lines++_=(b.vals++[v]).map _;rw[h.lines,acV];rfl
   z1:=fun k=>by have q:=h.z1 (hz _ k).2;rw[h.e] at q;exact q
   z2:=fun k=>by have q:=h.z2 (hz _ k).2;rw[h.e] at q;exact q
   z3:=fun k=>by have q:=h.z3 (hz _ k).2;rw[h.e] at q;exact q
   z4:=fun k=>by have q:=h.z4 (hz _ k).2;rw[h.e] at q;exact q
   z5:=fun k=>by have q:=h.z5 (hz _ k).2;rw[h.e] at q;exact q }
 rw[if_neg hs];have he:=hv.e hc hs;have hb:(b.named kind nm).e=b.e:=rfl;have Mn:(b.named kind nm).vals=b.vals:=rfl;by_cases q1:kind=aP
 ·subst q1;have fa:(bG aP nm v (b.named aP nm)).e={ b.e with dots:=v.n dh,blank:=v.n bq,marked:=v.n bb }:=by
   unfold bG;rw[if_pos rfl];rfl
  have e1:y.e.marked=v.n bb:=by rw[he,fa]
  have e2:y.e.blank=v.n bq:=by rw[he,fa]
  rw[e1,e2];by_cases q:v.n bb<v.n bq
  ·rw[if_pos ⟨rfl,q⟩,if_pos ⟨rfl,q⟩];exact⟨rfl,fun k=>by cases k⟩
  ·rw[if_neg (fun k=>q k.2),if_neg (fun k=>q k.2)];refine⟨rfl,fun _=>kL h hc hs he ?_ ?_ ?_ (fun k=>absurd rfl k) (fun _=>?_) (fun _=>?_) (fun _=>?_) (fun _=>?_)⟩
   all_goals first|(rw[he,fa];exact⟨rfl,rfl⟩)|(rw[he,fa])|(unfold bG;rw[if_pos rfl];rfl)
 rw[if_neg (fun k=>q1 k.1),if_neg (fun k=>q1 k.1)];refine⟨rfl,fun _=>?_⟩;rcases Lk h0 with rfl|rfl|rfl|rfl|rfl|rfl|rfl
 ·exact absurd rfl q1
 ·have fa:bG au nm v (b.named au nm)={ b.named au nm with e:={ b.e with scan:=v.n bZ,batch:=v.n cf } }:=by
   unfold bG;rw[if_neg (by decide),if_pos rfl];rfl
  refine kL h hc hs he ?_ ?_ ?_ (fun _=>?_) (fun k=>absurd rfl k) (fun _=>?_) (fun _=>?_) (fun _=>?_)
  all_goals first|(rw[he,fa];exact⟨rfl,rfl,rfl⟩)|(rw[he,fa];exact⟨rfl,rfl⟩)|(rw[he,fa])|(rw[fa];rfl)
 ·have fa:bG af nm v (b.named af nm)={ b.named af nm with e:={ b.e with prec:=v.s bY } }:=by
   unfold bG;rw[if_neg (by decide),if_neg (by decide),if_pos rfl];rfl
  refine kL h hc hs he ?_ ?_ ?_ (fun _=>?_) (fun _=>?_) (fun k=>absurd rfl k) (fun _=>?_) (fun _=>?_)
  all_goals first|(rw[he,fa];exact⟨rfl,rfl,rfl⟩)|(rw[he,fa];exact⟨rfl,rfl⟩)|(rw[he,fa])|(rw[fa];rfl)
 ·exact absurd rfl hc
 ·exact absurd rfl hs
 ·have fa:bG aO nm v (b.named aO nm)={ b.named aO nm with e:={ b.e with risk:=v.risk,seed:=v.seed } }:=by
   unfold bG;rw[if_neg (by decide),if_neg (by decide),if_neg (by decide),if_neg (by decide),if_neg (by decide),if_pos rfl];rfl
  refine kL h hc hs he ?_ ?_ ?_ (fun _=>?_) (fun _=>?_) (fun _=>?_) (fun k=>absurd rfl k) (fun _=>?_)
  all_goals first|(rw[he,fa];exact⟨rfl,rfl,rfl⟩)|(rw[he,fa];exact⟨rfl,rfl⟩)|(rw[he,fa])|(rw[fa];rfl)
 ·have fa:bG aY nm v (b.named aY nm)={ b.named aY nm with e:={ b.e with cell:=v.n dH } }:=by
   unfold bG;rw[if_neg (by decide),if_neg (by decide),if_neg (by decide),if_neg (by decide),if_neg (by decide),if_neg (by decide),if_pos rfl];rfl
  refine kL h hc hs he ?_ ?_ ?_ (fun _=>?_) (fun _=>?_) (fun _=>?_) (fun _=>?_) (fun k=>absurd rfl k)
  all_goals first|(rw[he,fa];exact⟨rfl,rfl,rfl⟩)|(rw[he,fa];exact⟨rfl,rfl⟩)|(rw[he,fa])|(rw[fa];rfl)
theorem Q9 {b:cL} {t:fc} (h:qK b t) (x:aw):(gm t x).f=(iB x b).1∧((iB x b).1.no=0→qK (iB x b).2 (gm t x)):=by
 unfold iB gm;have hh:=head_eq h x.kind x.name;by_cases h0:gJ x.kind x.name (b.of x.kind)≠0
 ·rw[if_pos h0];have hs:(dd.start t x).f=⟨gJ x.kind x.name (b.of x.kind),x.line⟩:=by
   show t.f.note (j5 t x.kind x.name) x.line=_;rw[hh,h.f,ci];unfold bA;rw[if_neg h0]
  have hn:(dd.start t x).f.no≠0:=by rw[hs];exact h0
  rw[FJ hn];have hm:gd (dd.start t x).known (dd.start t x).c.method x.line (aM x.kind) (dd.start t x).f=(dd.start t x).f:=zl hn;refine⟨?_,fun q=>absurd q h0⟩;rw[xF (by rw[hm];exact hn),hm,hs]
 ·have h0:=abX.1 h0;rw[if_neg (by rw[h0];simp)];have hv:=FL h x h0;obtain⟨s1,s2⟩:=CJ x.fields hv;obtain⟨r,hr⟩:∃r,fo x.kind x.fields aC.zero=r:=⟨_,rfl⟩;obtain⟨y,hy⟩:∃y,dQ x.kind x.fields (dd.start t x)=y:=⟨_,rfl⟩;rw[hr,hy] at s1 s2;rw[hr,hy];by_cases h1:r.1.no≠0
  ·rw[if_pos h1];have hn:y.f.no≠0:=by rw[s1];exact h1
   have hm:gd y.known y.c.method x.line (aM x.kind) y.f=y.f:=zl hn;exact⟨by rw[xF (by rw[hm];exact hn),hm,s1],fun q=>absurd q h1⟩
  ·have hv:=s2 (abX.1 h1);rw[if_neg h1];have hm:=Dz hv x.line (aM x.kind) (fun _ h=>h);rw[←hv.f] at hm;have hc:eR x.kind x.line r.2=if(aM x.kind).any (gH r.2)=true then⟨6,x.line⟩ else ky x.kind x.line r.2:=tD _ _ _ _
   by_cases h6:(aM x.kind).any (gH r.2)=true
   ·rw[if_pos h6] at hm hc;rw[hc,if_pos (by simp)];exact⟨by rw[xF (by rw[hm];simp),hm],fun q=>by cases q⟩
   ·rw[if_neg h6] at hm hc;rw[hv.f] at hm;rw[hc];have he:=aat h h0 hv (by rw[hv.f];exact hm);by_cases h7:(ky x.kind x.line r.2).no≠0
    ·rw[if_pos h7];exact⟨he.1,fun q=>absurd q h7⟩
    ·rw[if_neg h7];have h8:=F3 (abX.1 h7);exact⟨he.1.trans h8,fun _=>he.2 (by rw[h8])⟩
theorem tU:∀(l:List aw) {b:cL} {t:fc},qK b t→(df l t).f=(dV l b).1∧((dV l b).1.no=0→qK (dV l b).2 (df l t))
 | [],b,t,h=>⟨h.f,fun _=>h⟩
 | x::l,b,t,h=>by
  have hs:=Q9 h x;unfold df dV;rw[if_neg (by rw[h.f];simp)];by_cases h0:(iB x b).1.no≠0
  ·rw[if_pos h0];have hn:(gm t x).f.no≠0:=by rw[hs.1];exact h0
   have fa:df l (gm t x)=gm t x:=by
    cases l with
    | nil=>rfl
    | cons y l=>unfold df;rw[if_pos hn]
   rw[fa];exact⟨hs.1,fun q=>absurd q h0⟩
  ·rw[if_neg h0];exact tU l (hs.2 (abX.1 h0))
theorem rM (s:ByteArray):∀(l:List ai) (i:Nat),cG s l i=Lib.idxFromS (l.map (·.name)) s i
 | [],_=>rfl
 | c::l,i=>by
  unfold cG;rw[abY];unfold Lib.idxFromS;rw[rM s l (i+1)]
theorem DG (cont:List ai) (line:Int):∀(l:List ByteArray) (fJ:List Int),qx (cont.map (·.name)) line l fJ=fC cont line l fJ
 | [],_=>rfl
 | s::l,fJ=>by
  unfold qx fC;have e:cG s cont 0=Lib.idxOfS (cont.map (·.name)) s:=rM s cont 0;rw[e,DG cont line l]
theorem zt (prec:List ByteArray) (cont:List ai):∀(vs:List aC) (ss:List ax) (used:List Bool) (done:List ax), jE prec (cont.map (·.name)) (vs.map fun v=>(v.s af,v.s ay)) (vs.map fun v=>(v.l af,v.l ay)) ss used done=hJ prec cont vs ss used done
 | [],ss,used,done=>by
  unfold hJ;simp only[List.map_nil,jE]
 | v::vs,[],used,done=>by
  unfold hJ;simp only[abY,jE]
 | v::vs,s::ss,used,done=>by
  rw[abY,abY,jE,hJ];simp only;cases eS prec (v.l af) (v.s af) used [] with
  | error e=>rfl
  | ok r=>
   obtain⟨u,ps⟩:=r;simp only;rw[DG];cases fC cont (v.l ay) (v.s ay) [] with
   | error e=>rfl
   | ok cs=>exact zt prec cont vs ss u _
theorem Ud {b:cL} {t:fc} (h:qK b t):lj t=pP b:=by
 unfold lj pP;rw[h.names,h.lines,h.e];exact zt _ _ _ _ _ _
theorem o6 {seen:List ByteArray}:∀(l:List ByteArray) {f:eM},f.no≠0→l.foldl (fun f k=>f.note (if bH seen k=true then 0 else 6) 0) f=f
 | [],f,_=>rfl
 | k::l,f,h=>by
  rw[adI,tg h];exact o6 l h
theorem xC {b:cL} {t:fc} (h:qK b t):∀l:List ByteArray,l.foldl (fun f k=>f.note (if bH t.seen k=true then 0 else 6) 0) (⟨0,0⟩:eM)=if l.any (fun k=>decide (b.of k=[]))=true then⟨6,0⟩ else⟨0,0⟩
 | []=>rfl
 | k::l=>by
  rw[adI,acb,h.seen];by_cases hk:b.of k=[]
  ·rw[decide_eq_false (by simp[hk]:¬b.of k≠[]),if_neg (by simp),ci,o6 l (by rw[sd];omega),decide_eq_true hk];rfl
  ·rw[decide_eq_true hk,if_pos rfl,ci,sa,xC h l,decide_eq_false hk,acp]
theorem vU (s:ByteArray):(60<s.size∨fP s.data.toList=false)↔dK s 0 60=false:=by
 unfold dK;rw[decide_eq_true (by omega:(0:Int)≤(s.size:Int)),abO];cases fP s.data.toList with
 | false=>simp
 | true=>
  rw[abO,decide_eq_false_iff_not];constructor
  ·rintro(h|h)
   ·omega
   ·cases h
  ·intro h;left;omega
theorem zD:jb=fq:=by kernel_rfl
theorem xN (s:cO):gK s=dD s:=by
 unfold gK dD;by_cases h8:dK s.title 0 60=false
 ·rw[if_pos h8];have fa:(fc.start s.title).f=⟨8,0⟩:=by
   show(⟨0,0⟩:eM).note _ 0=_;rw[if_pos ((vU _).2 h8)];rfl
  have hb:df s.blocks (fc.start s.title)=fc.start s.title:=by
   cases s.blocks with
   | nil=>rfl
   | cons x l=>unfold df;rw[if_pos (by rw[fa];simp)]
  have hf:(cK s).f=⟨8,0⟩:=by
   unfold cK;simp only;rw[hb,fa];exact o6 _ (by simp)
  rw[hf,if_pos (by simp)]
 ·rw[if_neg h8];have fa:(fc.start s.title).f=⟨0,0⟩:=by
   show(⟨0,0⟩:eM).note _ 0=_;rw[if_neg (fun q=>h8 ((vU _).1 q))];rfl
  have P0:qK (cL.start s.title) (fc.start s.title):={
   f:=fa
   e:=rfl
   seen:=fun k=>rfl
   cs:=rfl
   ss:=rfl
   lc:=by show([]:List ai).length≤4;simp
   ls:=by show([]:List ax).length≤6;simp
   names:=rfl
   lines:=rfl
   z1:=fun _=>⟨rfl,rfl,rfl⟩
   z2:=fun _=>⟨rfl,rfl⟩
   z3:=fun _=>rfl
   z4:=fun _=>⟨rfl,rfl⟩
   z5:=fun _=>rfl }
  obtain⟨cI,cj⟩:=tU s.blocks P0;obtain⟨r,hr⟩:∃r,dV s.blocks (cL.start s.title)=r:=⟨_,rfl⟩;obtain⟨t,ht⟩:∃t,df s.blocks (fc.start s.title)=t:=⟨_,rfl⟩;rw[hr,ht] at cI cj;have P4:(cK s)={ t with f:=jb.foldl (fun f k=>f.note (if bH t.seen k=true then 0 else 6) 0) t.f }:=by
   unfold cK;simp only;rw[ht]
  rw[hr,P4];by_cases h1:r.1.no≠0
  ·rw[if_pos h1];have hf:jb.foldl (fun f k=>f.note (if bH t.seen k=true then 0 else 6) 0) t.f=r.1:=by
    rw[cI];exact o6 _ h1
   simp only[hf];rw[if_pos h1]
  ·rw[if_neg h1];have hC:=cj (abX.1 h1);have hf:=xC hC fq;rw[hC.f,zD,hf];by_cases h6:fq.any (fun k=>decide (r.2.of k=[]))=true
   ·rw[if_pos h6,if_pos h6];rfl
   ·rw[if_neg h6,if_neg h6];have hl:lj { t with f:=(⟨0,0⟩:eM) }=pP r.2:=Ud (t:=t) hC;rw[hl];simp only[ne_eq,not_true_eq_false,if_false];cases pP r.2 with
    | error e=>rfl
    | ok l=>rw[←hC.e]
theorem Ak (n:Nat):Lib.decDigits n=bI n:=by
 have hz:∀m:Nat,0<m→Lib.decDigits m=(gy m).reverse:=by
  intro m;induction m using Nat.strongRecOn with
  | ind m ih=>
   intro hm;have e1:gy m=Fp m::gy (m/10):=by rw[gy,dif_neg (by omega)]
   rw[e1,abL];by_cases h:m<10
   ·rw[Lib.decDigits_one h,show m/10=0 by omega,gS];unfold Fp;rw[Nat.mod_eq_of_lt h];rfl
   ·rw[Lib.decDigits,dif_neg h,ih (m/10) (by omega) (by omega)];rfl
 unfold bI;by_cases h:n=0
 ·rw[if_pos h,h,Lib.decDigits_one (by omega)];rfl
 ·rw[if_neg h];exact hz n (by omega)
def Small (n:Int):Prop:=0≤n∧n≤999999
theorem O4 {n:Int} (h:Small n):rJ n=Ew n:=by
 obtain⟨k,rfl⟩:∃k:Nat,n=(k:Int):=⟨n.toNat,by have:=h.1;omega⟩;unfold rJ Ew;rw[if_neg (by have:=h.2;omega)];unfold Lib.itoa;rw[if_neg (by omega),aaR,Ak]
theorem GW (n:Int):jY aN n=gg aN n eH:=by
 unfold jY gg jG pJ;rw[show bc aN=eH from by kernel_rfl]
theorem QZ (n:Int):jY db n=gg db n iS:=by
 unfold jY gg jG pJ;rw[show bc db=iS from by kernel_rfl]
theorem Q5 (n:Int):jY aV n=gg aV n iU:=by
 unfold jY gg jG pJ;rw[show bc aV=iU from by kernel_rfl]
theorem Q0 (n:Int):jY dc n=gg dc n iT:=by
 unfold jY gg jG pJ;rw[show bc dc=iT from by kernel_rfl]
theorem kd {k:ByteArray} {n:Int} (h:Small n):gF k n=et k n:=by unfold gF et;rw[O4 h]
def XD (c:ai):Prop:=Small c.seats∧Small c.ranks∧Small c.digits
structure RU (e:aa):Prop where
 dots:Small e.dots
 blank:Small e.blank
 marked:Small e.marked
 scan:Small e.scan
 batch:Small e.batch
 cell:Small e.cell
 cont:∀c∈e.cont,XD c
theorem Ey {c:ai} (h:XD c):fl c=eg c:=by
 unfold fl eg;rw[GW,QZ,Q5,Q0,kd h.1,kd h.2.1,kd h.2.2]
theorem yT {e:aa} (h:RU e):eW e=eT e:=by
 unfold eW eT;rw[kd h.dots,kd h.blank,kd h.marked,kd h.scan,kd h.batch,kd h.cell];have hc:e.cont.map fl=e.cont.map eg:=List.map_congr_left fun c hc=>Ey (h.cont c hc);rw[hc]
structure SA (v:aC):Prop where
 num:∀k n,v.num k=some n→Small n
 lst:∀k xs,v.lst k=some xs→(xs.length:Int)≤dn k
 risk:(v.ln bL).isSome=true→∃a b:Nat,0<b∧a≤999999∧b≤999999∧v.risk=(ez false a b).raw
theorem SA.n {v:aC} (h:SA v) (k:ByteArray):Small (v.n k):=by
 unfold aC.n;cases hn:v.num k with
 | none=>exact⟨by simp,by simp⟩
 | some n=>exact h.num k n hn
theorem SA.s {v:aC} (h:SA v) (k:ByteArray) (h0:0≤dn k):((v.s k).length:Int)≤dn k:=by
 unfold aC.s;cases hn:v.lst k with
 | none=>simpa using h0
 | some xs=>exact h.lst k xs hn
theorem wZ {kg:Int}:∀{l pre:List ByteArray},fT kg pre l=0→(pre.length:Int)≤kg→((pre.length+l.length:Nat):Int)≤kg
 | [],pre,_,h=>by simpa using h
 | s::r,pre,h,hp=>by
  unfold fT at h;split at h
  ·cases h
  split at h
  ·cases h
  split at h
  ·cases h
  ·rename_i h1 _ _;have:=wZ h (by rw[abm,abN];omega);rw[abm,abN] at this;rw[abp];omega
theorem K2 {l:List ByteArray} {kg:Int} (h:eO l kg=0) (h0:0≤kg):(l.length:Int)≤kg:=by
 unfold eO at h;split at h
 ·cases h
 ·have:=wZ h (by simpa using h0);simpa using this
theorem Bs:dn bL=0:=by kernel_rfl
theorem yL:bc bL=[]:=by kernel_rfl
theorem NN {kind:ByteArray} {f:ao} {v:aC} (h:SA v) (h0:(aZ kind f v).1=0):SA (aZ kind f v).2:=by
 unfold aZ at h0 ⊢;split at h0
 ·cases h0
 rename_i q1;rw[if_neg q1];split at h0
 ·cases h0
 rename_i q2;rw[if_neg q2];have uh:f.key≠bL→∀line:Int,(setF v.ln f.key line bL).isSome=true→(v.ln bL).isSome=true:=fun hk line hs=>by
  unfold setF at hs;rw[if_neg (aca hk)] at hs;exact hs
 split at h0
 ·rename_i q3;rw[if_pos q3];have hl:=K2 h0 (by omega);exact⟨h.num,fun k xs hk=>by
   have oA:setF v.lst f.key f.vals k=some xs:=hk;unfold setF at oA;split at oA
   ·rename_i e;injection oA with oA
    subst oA;rw[e];exact hl
   ·exact h.lst k xs oA,fun hs=>h.risk (uh (fun e=>by rw[e,Bs] at q3;omega) _ hs)⟩
 rename_i q3;rw[if_neg q3];split at h0
 ·cases h0
 rename_i q4;rw[if_neg q4];unfold yz at h0 ⊢;have Z5:∀k s:ByteArray,0≤Lib.idxOfS (bc k) s+1∧Lib.idxOfS (bc k) s+1≤11:=fun k s=>by
  have:=ue k s;omega
 split at h0
 ·rename_i q5;rw[if_pos q5];refine⟨fun k n hk=>?_,h.lst,fun hs=>h.risk (uh (fun e=>q5 (by rw[e];exact yL)) _ hs)⟩;have oA:setF v.num f.key (Lib.idxOfS (bc f.key) (f.vals.getD 0 ⟨#[]⟩)+1) k=some n:=hk;unfold setF at oA;split at oA
  ·injection oA with oA
   subst oA;have:=Z5 f.key (f.vals.getD 0 ⟨#[]⟩);exact⟨by omega,by omega⟩
  ·exact h.num k n oA
 rename_i q5;rw[if_neg q5];split at h0
 ·rename_i q6;rw[if_pos q6];have hr:=CZ (f.vals.getD 0 ⟨#[]⟩).data.toList;have ug:=hr.2 h0;rw[ug];refine⟨h.num,h.lst,fun _=>?_⟩;show∃a b:Nat,0<b∧a≤999999∧b≤999999∧(dW (f.vals.getD 0 ⟨#[]⟩).data.toList).2=(ez false a b).raw;have h1:(iW (f.vals.getD 0 ⟨#[]⟩).data.toList).1=0:=h0;obtain⟨l,hl⟩:∃l,(f.vals.getD 0 ⟨#[]⟩).data.toList=l:=⟨_,rfl⟩;rw[hl] at h1 ug ⊢;unfold iW at h1 ug;split at h1
  ·cases h1
  rename_i r1;rw[if_neg r1] at ug;split at h1
  ·cases h1
  rename_i r2;rw[if_neg r2] at ug;injection ug with ug
  obtain⟨a,ha⟩:=rp (ed l);obtain⟨b,hb⟩:=rp (dO l);have ra:=(iy (ed l)).2;have rb:=(iy (dO l)).2;rw[ha] at ra;rw[hb] at rb;refine⟨a,b,?_,by omega,by omega,?_⟩
  ·rw[hb] at r2;have:¬(b:Int)=0:=fun e=>r2 (.inl e);omega
  ·rw[←ug,ha,hb,o5]
 rename_i q6;rw[if_neg q6];split at h0
 ·rename_i q7;rw[if_pos q7];split at h0
  ·rename_i q8;rw[if_pos q8];exact⟨h.num,h.lst,fun hs=>h.risk (uh q6 _ hs)⟩
  ·cases h0
 rename_i q7;rw[if_neg q7];split at h0
 ·cases h0
 rename_i q8;rw[if_neg q8];split at h0
 ·cases h0
 rename_i q9;rw[if_neg q9];refine⟨fun k n hk=>?_,h.lst,fun hs=>h.risk (uh q6 _ hs)⟩;have oA:setF v.num f.key (cz (f.vals.getD 0 ⟨#[]⟩).data.toList).1 k=some n:=hk;unfold setF at oA;split at oA
 ·injection oA with oA
  subst oA;exact iy _
 ·exact h.num k n oA
theorem ww {kind:ByteArray}:∀{fs:List ao} {v:aC},SA v→(fo kind fs v).1.no=0→SA (fo kind fs v).2
 | [],v,h,_=>h
 | f::l,v,h,h0=>by
  unfold fo at h0 ⊢;split at h0
  ·rename_i q;exact absurd h0 q
  ·rename_i q;rw[if_neg q];exact ww (NN h (abX.1 q)) h0
structure BOk (b:cL):Prop where
 n:RU b.e
 prec:b.e.prec.length≤12
 cont:∀c∈b.e.cont,c.cands.length≤7
 vals:∀v∈b.vals,(v.s af).length≤12∧(v.s ay).length≤4
 risk:b.of aO≠[]→∃x y:Nat,0<y∧x≤999999∧y≤999999∧b.e.risk=(ez false x y).raw
theorem zx:dn bY=12:=by kernel_rfl
theorem zz:dn cF=7:=by kernel_rfl
theorem DL:dn af=12:=by kernel_rfl
theorem zy:dn ay=4:=by kernel_rfl
theorem Ks {kind:ByteArray} {line:Int} {v:aC} (h:(eR kind line v).no=0) (hk:kind=aO):(v.ln bL).isSome=true:=by
 have hm:eR kind line v=if(aM kind).any (gH v)=true then⟨6,line⟩ else ky kind line v:=tD _ _ _ _
 rw[hm] at h;split at h
 ·cases h
 ·rename_i q;cases hs:(v.ln bL).isSome with
  | true=>rfl
  | false=>
   exfalso
   apply q;rw[ad6];refine⟨bL,by rw[hk,DU];simp,?_⟩;unfold gH;rw[hs,decide_eq_true (by decide:bL≠az)];rfl
theorem FI {b:cL} (h:BOk b) {kind nm:ByteArray} {v:aC} (hv:SA v) (hr:kind=aO→(v.ln bL).isSome=true):BOk (bG kind nm v (b.named kind nm)):=by
 have hof:∀k,(bG kind nm v (b.named kind nm)).of k=if k=kind then b.of kind++[nm] else b.of k:=fun k=>(ia kind nm v (b.named kind nm) k).trans (ib b kind nm k)
 have uh:kind≠aO→(bG kind nm v (b.named kind nm)).e.risk=b.e.risk→((bG kind nm v (b.named kind nm)).of aO≠[]→∃x y:Nat,0<y∧x≤999999∧y≤999999∧(bG kind nm v (b.named kind nm)).e.risk=(ez false x y).raw):=fun hk he hn=>by
  rw[hof,if_neg (aca hk)] at hn;rw[he];exact h.risk hn
 have n:=h.n;have l1:=hv.s bY (by rw[zx];omega);have l2:=hv.s cF (by rw[zz];omega);have l3:=hv.s af (by rw[DL];omega);have l4:=hv.s ay (by rw[zy];omega);rw[zx] at l1;rw[zz] at l2;rw[DL] at l3;rw[zy] at l4;unfold bG at uh ⊢;by_cases q1:kind=aP
 ·rw[if_pos q1] at uh ⊢;exact⟨{ n with dots:=hv.n _,blank:=hv.n _,marked:=hv.n _ },h.prec,h.cont,h.vals,uh (by rw[q1];decide) rfl⟩
 rw[if_neg q1] at uh ⊢;by_cases q2:kind=au
 ·rw[if_pos q2] at uh ⊢;exact⟨{ n with scan:=hv.n _,batch:=hv.n _ },h.prec,h.cont,h.vals,uh (by rw[q2];decide) rfl⟩
 rw[if_neg q2] at uh ⊢;by_cases q3:kind=af
 ·rw[if_pos q3] at uh ⊢;exact⟨{ n with },by show(v.s bY).length≤12;omega,h.cont,h.vals,uh (by rw[q3];decide) rfl⟩
 rw[if_neg q3] at uh ⊢;by_cases q4:kind=ah
 ·rw[if_pos q4] at uh ⊢;refine⟨{ n with cont:=fun c hc=>?_ },h.prec,fun c hc=>?_,h.vals,uh (by rw[q4];decide) rfl⟩
  ·rcases abR.1 hc with hc|hc
   ·exact n.cont c hc
   ·rw[ab7] at hc;subst hc;exact⟨hv.n _,hv.n _,hv.n _⟩
  ·rcases abR.1 hc with hc|hc
   ·exact h.cont c hc
   ·rw[ab7] at hc;subst hc;show(v.s cF).length≤7;omega
 rw[if_neg q4] at uh ⊢;by_cases q5:kind=aD
 ·rw[if_pos q5] at uh ⊢;refine⟨{ n with },h.prec,h.cont,fun x hx=>?_,uh (by rw[q5];decide) rfl⟩;rcases abR.1 hx with hx|hx
  ·exact h.vals x hx
  ·rw[ab7] at hx;subst hx;exact⟨by omega,by omega⟩
 rw[if_neg q5] at uh ⊢;by_cases q6:kind=aO
 ·rw[if_pos q6];refine⟨{ n with },h.prec,h.cont,h.vals,fun _=>hv.risk (hr q6)⟩
 rw[if_neg q6] at uh ⊢;by_cases q7:kind=aY
 ·rw[if_pos q7] at uh ⊢;exact⟨{ n with cell:=hv.n _ },h.prec,h.cont,h.vals,uh (by rw[q7];decide) rfl⟩
 rw[if_neg q7] at uh ⊢;exact⟨n,h.prec,h.cont,h.vals,uh q6 rfl⟩
theorem ML:SA aC.zero:=⟨fun _ _ h=>(by cases h),fun _ _ h=>(by cases h),fun h=>(by cases h)⟩
theorem G4 {b:cL} (h:BOk b) (x:aw) (h0:(iB x b).1.no=0):BOk (iB x b).2:=by
 unfold iB at h0 ⊢;split at h0
 ·rename_i q;exact absurd h0 q
 rename_i q1;rw[if_neg q1];split at h0
 ·rename_i q;exact absurd h0 q
 rename_i q2;rw[if_neg q2];split at h0
 ·rename_i q;exact absurd h0 q
 rename_i q3;rw[if_neg q3];exact FI h (ww ML (abX.1 q2)) (fun hk=>Ks (abX.1 q3) hk)
theorem ux:∀{l:List aw} {b:cL},BOk b→(dV l b).1.no=0→BOk (dV l b).2
 | [],b,h,_=>h
 | x::l,b,h,h0=>by
  unfold dV at h0 ⊢;split at h0
  ·rename_i q;exact absurd h0 q
  ·rename_i q;rw[if_neg q];exact ux (G4 h x (abX.1 q)) h0
theorem rE {prec:List ByteArray} {line:Int}:∀{l:List ByteArray} {used:List Bool} {fJ:List Int} {r:List Bool×List Int},eS prec line l used fJ=.ok r→r.2.length=fJ.length+l.length
 | [],used,fJ,r,h=>by
  unfold eS at h;injection h with h
  subst h;rfl
 | s::l,used,fJ,r,h=>by
  unfold eS at h;split at h
  ·cases h
  split at h
  ·cases h
  ·have:=rE h;rw[this,abm,abN,abp];omega
theorem rF {cont:List ai} {line:Int}:∀{l:List ByteArray} {fJ r:List Int},fC cont line l fJ=.ok r→r.length=fJ.length+l.length
 | [],fJ,r,h=>by
  unfold fC at h;injection h with h
  subst h;rfl
 | s::l,fJ,r,h=>by
  unfold fC at h;split at h
  ·cases h
  ·have:=rF h;rw[this,abm,abN,abp];omega
def RD (s:ax):Prop:=s.prec.length≤12∧s.cont.length≤4
theorem xa {prec:List ByteArray} {cont:List ai}:∀{vs:List aC} {ss:List ax} {used:List Bool} {done r:List ax},(∀v∈vs,(v.s af).length≤12∧(v.s ay).length≤4)→(∀s∈done,RD s)→hJ prec cont vs ss used done=.ok r→ (∀s∈r,RD s)∧r.length≤done.length+ss.length
 | [],ss,used,done,r,hv,hd,h=>by
  unfold hJ at h;split at h
  ·cases h
  ·injection h with h
   subst h;exact⟨hd,by omega⟩
 | v::vs,[],used,done,r,hv,hd,h=>by
  unfold hJ at h;split at h
  ·cases h
  ·injection h with h
   subst h;exact⟨hd,by omega⟩
 | v::vs,s::ss,used,done,r,hv,hd,h=>by
  rw[hJ] at h;split at h
  ·cases h
  ·rename_i u ps hp;split at h
   ·cases h
   ·rename_i cs hc;have h1:=rE hp;have h2:=rF hc;have h3:=hv v (by simp);have h4:=xa (fun x hx=>hv x (by simp[hx])) (fun x hx=>by
     rcases abR.1 hx with hx|hx
     ·exact hd x hx
     ·rw[ab7] at hx;subst hx;have jl:ps.length=0+_:=h1;have Cv:cs.length=0+_:=h2;exact⟨by show ps.length≤12;omega,by show cs.length≤4;omega⟩) h
    refine⟨h4.1,?_⟩;have h5:=h4.2;rw[abm,abN] at h5;rw[abp];omega
theorem uc {prec:List ByteArray} {line:Int}:∀{l:List ByteArray} {used:List Bool} {fJ:List Int} {e:eM},eS prec line l used fJ=.error e→e.no≠0
 | [],used,fJ,e,h=>by unfold eS at h;cases h
 | s::l,used,fJ,e,h=>by
  unfold eS at h;split at h
  ·injection h with h;subst h;simp
  split at h
  ·injection h with h;subst h;simp
  ·exact uc h
theorem ud {cont:List ai} {line:Int}:∀{l:List ByteArray} {fJ:List Int} {e:eM},fC cont line l fJ=.error e→e.no≠0
 | [],fJ,e,h=>by unfold fC at h;cases h
 | s::l,fJ,e,h=>by
  unfold fC at h;split at h
  ·injection h with h;subst h;simp
  ·exact ud h
theorem zr {prec:List ByteArray} {cont:List ai}:∀{vs:List aC} {ss:List ax} {used:List Bool} {done:List ax} {e:eM},hJ prec cont vs ss used done=.error e→e.no≠0
 | [],ss,used,done,e,h=>by
  unfold hJ at h;split at h
  ·injection h with h;subst h;simp
  ·cases h
 | v::vs,[],used,done,e,h=>by
  unfold hJ at h;split at h
  ·injection h with h;subst h;simp
  ·cases h
 | v::vs,s::ss,used,done,e,h=>by
  rw[hJ] at h;split at h
  ·rename_i q hp;injection h with h
   subst h;exact uc hp
  ·split at h
   ·rename_i q hc;injection h with h
    subst h;exact ud hc
   ·exact zr h
structure agm (x:aa):Prop where
 n:RU x
 prec:x.prec.length≤12
 cont:x.cont.length≤4
 styl:x.styl.length≤6
 cands:∀c∈x.cont,c.cands.length≤7
 sty:∀s∈x.styl,RD s
 risk:∃a b:Nat,0<b∧a≤999999∧b≤999999∧x.risk=(ez false a b).raw
theorem FM {title:ByteArray} (h:dK title 0 60≠false):qK (cL.start title) (fc.start title):=by
 have fa:(fc.start title).f=⟨0,0⟩:=by
  show(⟨0,0⟩:eM).note _ 0=_;rw[if_neg (fun q=>h ((vU _).1 q))];rfl
 exact {
  f:=fa
  e:=rfl
  seen:=fun k=>rfl
  cs:=rfl
  ss:=rfl
  lc:=by show([]:List ai).length≤4;simp
  ls:=by show([]:List ax).length≤6;simp
  names:=rfl
  lines:=rfl
  z1:=fun _=>⟨rfl,rfl,rfl⟩
  z2:=fun _=>⟨rfl,rfl⟩
  z3:=fun _=>rfl
  z4:=fun _=>⟨rfl,rfl⟩
  z5:=fun _=>rfl }
theorem jw:Small 0:=⟨by omega,by omega⟩
theorem sj {s:cO} (h:(dD s).2.no=0):agm (dD s).1:=by
 unfold dD at h ⊢;split at h
 ·cases h
 rename_i h8;rw[if_neg h8];obtain⟨cI,cj⟩:=tU s.blocks (FM h8);have kP:=ux (l:=s.blocks) (b:=cL.start s.title) ⟨⟨jw,jw,jw,jw,jw,jw,fun c hc=>by cases hc⟩,by show([]:List ByteArray).length≤12;simp,fun c hc=>(by cases hc),fun v hv=>(by cases hv),fun q=>absurd rfl q⟩;obtain⟨r,hr⟩:∃r,dV s.blocks (cL.start s.title)=r:=⟨_,rfl⟩;rw[hr] at cI cj kP h ⊢;split at h
 ·rename_i q;exact absurd h q
 rename_i h1;rw[if_neg h1];have hC:=cj (abX.1 h1);have hO:=kP (abX.1 h1);split at h
 ·cases h
 rename_i h6;rw[if_neg h6];have akN:r.2.of aO≠[]:=fun e=>by
  apply h6;rw[ad6];refine⟨aO,?_,decide_eq_true e⟩;show aO∈fq;rw[←zD];unfold jb;simp
 have fU:r.2.e.styl.length≤6:=by rw[←hC.e];exact hC.ls
 have uZ:r.2.e.cont.length≤4:=by rw[←hC.e];exact hC.lc
 cases hl:pP r.2 with
 | error e=>rw[hl] at h;exact absurd h (zr hl)
 | ok l=>
  have hg:=xa (prec:=r.2.e.prec) (cont:=r.2.e.cont) hO.vals (fun s hs=>by cases hs) hl;exact⟨{ hO.n with },hO.prec,uZ,by show l.length≤6;have:=hg.2;simp at this;omega,hO.cont,hg.1,hO.risk akN⟩
theorem sx {α:Type} {f:α→α→Bool} (hf:∀x y,f x y=true→x=y):∀{a b:List α},ij f a b=true→a=b
 | [],[],_=>rfl
 | [],_::_,h=>by cases h
 | _::_,[],h=>by cases h
 | x::a,y::b,h=>by
  unfold ij at h;rw[aba] at h;rw[hf x y h.1,sx hf h.2]
theorem mG {α:Type} {f:α→α→Bool} (hf:∀x,f x x=true):∀a:List α,ij f a a=true
 | []=>rfl
 | x::a=>by unfold ij;rw[hf,mG hf a];rfl
theorem CY (x y:ai) (h:bi x y=true):x=y:=by
 unfold bi at h;simp only[aba,decide_eq_true_eq] at h;obtain⟨h1,h2,h3,h4,h5,h6,h7,h8,h9⟩:=h;cases x;cases y
 simp only at h1 h2 h3 h4 h5 h6 h7 h8 h9;subst h1 h2 h3 h4 h5 h6 h7 h8 h9;rfl
theorem wn (x:ai):bi x x=true:=by unfold bi;simp
theorem CX (x y:ax) (h:bB x y=true):x=y:=by
 unfold bB at h;simp only[aba,decide_eq_true_eq] at h;obtain⟨h1,h2,h3⟩:=h;cases x;cases y
 simp only at h1 h2 h3;subst h1 h2 h3;rfl
theorem wj (x:ax):bB x x=true:=by unfold bB;simp
theorem Dx {A B C D:Nat} (hB:0<B) (hD:0<D) (h:A*D=C*B):ez false A B=ez false C D:=by
 unfold ez;by_cases hA:A=0
 ·have hC:C=0:=by
   rw[hA,Nat.zero_mul] at h;rcases Nat.mul_eq_zero.1 h.symm with q|q
   ·exact q
   ·omega
  rw[if_pos (.inl hA),if_pos (.inl hC)]
 ·have hC:C≠0:=fun e=>by
   rw[e,Nat.zero_mul] at h;rcases Nat.mul_eq_zero.1 h with q|q
   ·exact hA q
   ·omega
  rw[if_neg (by omega),if_neg (by omega)];have hg1:0<Nat.gcd A B:=Nat.gcd_pos_of_pos_right _ hB;have hg2:0<Nat.gcd C D:=Nat.gcd_pos_of_pos_right _ hD;have c1:Nat.Coprime (A/Nat.gcd A B) (B/Nat.gcd A B):=Nat.coprime_div_gcd_div_gcd hg1;have c2:Nat.Coprime (C/Nat.gcd C D) (D/Nat.gcd C D):=Nat.coprime_div_gcd_div_gcd hg2;have e1:A=A/Nat.gcd A B*Nat.gcd A B:=(aey (Nat.gcd_dvd_left A B)).symm;have e2:B=B/Nat.gcd A B*Nat.gcd A B:=(aey (Nat.gcd_dvd_right A B)).symm;have e3:C=C/Nat.gcd C D*Nat.gcd C D:=(aey (Nat.gcd_dvd_left C D)).symm;have e4:D=D/Nat.gcd C D*Nat.gcd C D:=(aey (Nat.gcd_dvd_right C D)).symm;generalize A/Nat.gcd A B=a at*;generalize B/Nat.gcd A B=b at*;generalize C/Nat.gcd C D=c at*;generalize D/Nat.gcd C D=d at*;generalize Nat.gcd A B=g1 at*;generalize Nat.gcd C D=g2 at*;have hx:a*d=c*b:=by
   rw[e1,e2,e3,e4] at h;have:a*d*(g1*g2)=c*b*(g1*g2):=by
    calc a*d*(g1*g2)=a*g1*(d*g2):=by rw[acy]
     _=c*g2*(b*g1):=h
     _=c*b*(g2*g1):=by rw[acy]
     _=c*b*(g1*g2):=by rw[adM g2 g1]
   exact adW (Nat.mul_pos hg1 hg2) this
  have d1:a∣c:=c1.dvd_of_dvd_mul_right (hx▸Nat.dvd_mul_right a d);have d2:c∣a:=c2.dvd_of_dvd_mul_right (hx.symm▸Nat.dvd_mul_right c b);have ea:a=c:=Nat.dvd_antisymm d1 d2;have ha:0<a:=by
   rcases acD a with q|q
   ·rw[q,Nat.zero_mul] at e1;exact absurd e1 hA
   ·exact q
  subst ea;rw[Nat.eq_of_mul_eq_mul_left ha hx]
theorem AZ {r:Raw} (h:r.valid=true):r=r.q.raw:=by
 unfold Raw.valid at h;simp only[aba,decide_eq_true_eq,beq_iff_eq] at h;obtain⟨h1,h2,h3⟩:=h;obtain⟨neg,num,den⟩:=r;unfold Q.raw;simp only at h1 h2 h3;rw[←h1,←h2,←h3]
theorem Kr {A B:Nat} (hB:0<B) {r:Raw} (hv:r.valid=true) (hc:oI ((ez false A B).raw).q r.flip.q=0):r=(ez false A B).raw:=by
 have hr:=AZ hv;have WQ:0<r.q.d:=by
  unfold Raw.q ez;split
  ·exact Nat.one_pos
  ·rename_i q;exact Nat.div_pos (Nat.gcd_le_right _ (by omega)) (Nat.gcd_pos_of_pos_right _ (by omega))
 have hd:val r.den=r.q.d:=by
  have h2:=congrArg Raw.den hr;rw[h2];exact bF _
 have hn:val r.num=r.q.n:=by
  have h2:=congrArg Raw.num hr;rw[h2];exact bF _
 have hD:0<val r.den:=by rw[hd];exact WQ
 cases Gw:r.neg with
 | false=>
  have hq:r.q=ez false (val r.num) (val r.den):=by unfold Raw.q;rw[Gw]
  have hf:r.flip.q=(ez false (val r.num) (val r.den)).raw.flip.q:=by
   rw[←hq,←hr]
  rw[hf] at hc;have h1:¬pD (ez false A B) (ez false (val r.num) (val r.den))<0:=by unfold pD;rw[hc];omega
  have h2:¬0<pD (ez false A B) (ez false (val r.num) (val r.den)):=by unfold pD;rw[hc];omega
  rw[(mA _ _ hB hD).1] at h1;rw[(mA _ _ hB hD).2] at h2;rw[Dx (A:=A) (C:=val r.num) hB hD (by omega),←hq];exact hr
 | true=>
  exfalso
  have hq:r.q=ez true (val r.num) (val r.den):=by unfold Raw.q;rw[Gw]
  have Zu:r.q.neg=true:=by
   have h2:=congrArg Raw.neg hr;rw[Gw] at h2;exact h2.symm
  have hA0:val r.num≠0:=fun e=>by
   rw[hq,(gb true hD).2,e] at Zu;simp at Zu
  have hfq:r.flip.q=ez false (val r.num) (val r.den):=by
   unfold Raw.flip Raw.q;simp only;rw[Gw];rfl
  rw[hfq] at hc;have p0:=iI false (A:=A) hB;have z0:=gb false (A:=A) hB;have e1:((ez false A B).raw).q=ez (ez false A B).neg (ez false A B).n (ez false A B).d:=Q.raw_q _;rw[e1,z0.2] at hc;obtain⟨a,ha⟩:∃a,ez false A B=a:=⟨_,rfl⟩;rw[ha] at hc p0;have z1:=gb false (A:=a.n) p0.1;have z2:=gb false (A:=val r.num) hD;have p1:=iI false (A:=a.n) p0.1;have p2:=iI false (A:=val r.num) hD;simp only[abS] at hc z1 z2;obtain⟨p,hp⟩:∃p,ez false a.n a.d=p:=⟨_,rfl⟩;obtain⟨q,hqq⟩:∃q,ez false (val r.num) (val r.den)=q:=⟨_,rfl⟩;rw[hp] at z1 p1 hc;rw[hqq] at z2 p2 hc;have aej:0<q.n:=Nat.pos_of_ne_zero fun e=>hA0 (z2.1.1 e);unfold oI xZ at hc;rw[z1.2,z2.2] at hc;unfold p9 at hc;rw[if_pos rfl] at hc;have hY:0<q.n*p.d:=Nat.mul_pos aej p1.1;have UO:0<p.d*q.d:=Nat.mul_pos p1.1 p2.1;have z3:=gb false (A:=p.n*q.d+q.n*p.d) UO;rw[z3.2] at hc;simp only[abS,abx,if_false] at hc;rw[if_neg (fun e=>by have:=z3.1.1 e;omega)] at hc;cases hc
theorem Kq {A B:Nat} (hB:0<B):oI ((ez false A B).raw).q ((ez false A B).raw).flip.q=0:=by
 have h1:=(mA A A hB hB).1;have h2:=(mA A A hB hB).2;unfold pD at h1 h2;have h3:¬A*B<A*B:=acf _;have h4:¬oI ((ez false A B).raw).q ((ez false A B).raw).flip.q<0:=fun h=>h3 (h1.1 h);have h5:¬0<oI ((ez false A B).raw).q ((ez false A B).raw).flip.q:=fun h=>h3 (h2.1 h);omega
theorem FZ {A B:Nat} (hB:0<B):((ez false A B).raw).valid=true:=by
 have p0:=iI false (A:=A) hB;have z0:=gb false (A:=A) hB;have e1:((ez false A B).raw).q=ez false A B:=by
  rw[Q.raw_q,z0.2,abS];exact Dx p0.1 hB p0.2
 unfold Raw.valid;rw[e1];unfold Q.raw;simp
theorem vk {n:Nat} (h:n≤999999):(dm n).length≤1:=gi (k:=1) (by simp;omega)
theorem F0 {A B:Nat} (hA:A≤999999) (hB:B≤999999):((ez false A B).raw).num.length≤1∧((ez false A B).raw).den.length≤1:=by
 unfold Q.raw ez;split
 ·exact⟨vk (by show 0≤999999;omega),vk (by show 1≤999999;omega)⟩
 ·exact⟨vk (abk (Nat.div_le_self _ _) hA),vk (abk (Nat.div_le_self _ _) hB)⟩
theorem valid_eq (e:aa):jT e=iV e:=by
 rw[acs];constructor
 ·intro h;unfold jT at h;rw[xN] at h;simp only[aba,decide_eq_true_eq] at h;obtain⟨_,h1,h2⟩:=h;have hg:=sj h1;obtain⟨x,hx⟩:∃x,(dD (eT e)).1=x:=⟨_,rfl⟩;rw[hx] at h2 hg;have he:x=e:=by
   unfold Va at h2;simp only[aba,decide_eq_true_eq] at h2;obtain⟨a1,a2,a3,a4,a5,a6,a7,a8,a9,a10,a11,a12,a13,a14⟩:=h2;have b1:=sx CY a13;have b2:=sx CX a14;obtain⟨t,d,bl,m,p,c,s,sc,ba,⟨rn,ru,rd⟩,ce,se⟩:=x;obtain⟨t',d',bl',m',p',c',s',sc',ba',⟨rn',ru',rd'⟩,ce',se'⟩:=e;simp only at a1 a2 a3 a4 a5 a6 a7 a8 a9 a10 a11 a12 b1 b2;subst a1 a2 a3 a4 a5 a6 a7 a8 a9 a10 a11 a12 b1 b2;rfl
  have hs:=yT (he▸hg.n);unfold iV;rw[hs,hx,h1];obtain⟨A,B,hB,_,_,hr⟩:=hg.risk;have hre:e.risk=(ez false A B).raw:=by rw[←he];exact hr
  rw[hre,FZ hB];unfold lK;rw[he,hre,Kq hB,mG wn,mG wj];simp
 ·intro h;unfold iV at h;simp only[aba,decide_eq_true_eq] at h;obtain⟨h1,h2,h3⟩:=h;have hg:=sj h1;obtain⟨x,hx⟩:∃x,(dD (eW e)).1=x:=⟨_,rfl⟩;rw[hx] at h3 hg;obtain⟨A,B,hB,hA9,hB9,hr⟩:=hg.risk;have he:x=e:=by
   unfold lK at h3;simp only[aba,decide_eq_true_eq] at h3;obtain⟨a1,a2,a3,a4,a5,a6,a7,a8,a9,a10,a11,a12⟩:=h3;have b1:=sx CY a6;have b2:=sx CX a7;rw[hr] at a10;have b3:=Kr hB h2 a10;rw[←hr] at b3;obtain⟨t,d,bl,m,p,c,s,sc,ba,r,ce,se⟩:=x;obtain⟨t',d',bl',m',p',c',s',sc',ba',r',ce',se'⟩:=e;simp only at a1 a2 a3 a4 a5 a8 a9 a11 a12 b1 b2 b3;subst a1 a2 a3 a4 a5 a8 a9 a11 a12 b1 b2 b3;rfl
  have hs:=yT (he▸hg.n);rw[hs] at h1 hx;unfold jT;rw[xN,hx,h1,he];rw[he] at hg hr;have hsm:lF e=true:=by
   have hl:=F0 hA9 hB9;rw[←hr] at hl;unfold lF;simp only[aba,decide_eq_true_eq,abv];exact⟨hg.prec,hg.cont,hg.styl,hl.1,hl.2,hg.cands,fun s hs=>hg.sty s hs⟩
  rw[hsm];unfold Va;rw[mG wn,mG wj];simp
theorem LK {n:Int}:dP (Ew n):=by
 unfold Ew;split
 ·exact bp (by decide)
 ·rename_i h;refine bp ?_;show(bI n.toNat).toArray.size≤1000;rw[abM,←Ak,Lib.decDigits_length];have:=Lib.nDigits_le20 n.toNat (by omega);omega
theorem Fy {n:Int} {l:List ByteArray} (h:∀s∈l,s.size≤1000):dP (pJ n l):=by
 refine bp ?_;unfold pJ;split
 ·decide
 ·rw[aaQ];cases hh:l[n.toNat-1]? with
  | none=>decide
  | some s=>exact h s (ab9 hh)
theorem gQ {k:ByteArray} {n:Int} (hk:k.size≤1000):yd (et k n):=oh hk LK
theorem pc {k:ByteArray} {n:Int} {l:List ByteArray} (hk:k.size≤1000) (h:∀s∈l,s.size≤1000):yd (gg k n l):=oh hk (Fy h)
theorem Ca {x:ai} (h8:x.cands.length≤274877906944) (hn:dP x.name) (hc:∀s∈x.cands,dP s):il (eg x):=by
 refine fG (abA rfl) hn ?_ ?_
 ·show([gg aN x.method eH,et bf x.seats,et bS x.ranks]++(if x.method=2 then[et az x.digits] else[])++[gg db x.ties iS,gg aV x.over iU,gg dc x.skip iT,(⟨cF,x.cands,0⟩:ao)]).length≤1000;split<;>simp
 ·intro f hf;have hf':f∈[gg aN x.method eH,et bf x.seats,et bS x.ranks]++(if x.method=2 then[et az x.digits] else[])++[gg db x.ties iS,gg aV x.over iU,gg dc x.skip iT,(⟨cF,x.cands,0⟩:ao)]:=hf;rcases abR.1 hf' with hf'|hf'
  ·rcases abR.1 hf' with hf'|hf'
   ·simp only[abq,abz,or_false] at hf';rcases hf' with rfl|rfl|rfl
    ·exact pc (by decide) (by decide)
    ·exact gQ (by decide)
    ·exact gQ (by decide)
   ·split at hf'
    ·simp only[abq,abz,or_false] at hf';subst hf';exact gQ (by decide)
    ·cases hf'
  ·simp only[abq,abz,or_false] at hf';rcases hf' with rfl|rfl|rfl|rfl
   ·exact pc (by decide) (by decide)
   ·exact pc (by decide) (by decide)
   ·exact pc (by decide) (by decide)
   ·exact oZ (by decide) hc h8
theorem Ka {e:aa} (h:cH e) (hs:bC e):E2 (eT e):=by
 refine⟨hs.title,?_,fun x hx=>?_⟩
 ·have:=hs.len;simp only[eT,abm,abU,abp,abJ];omega
 ·have hx':x∈([(⟨aP,⟨#[]⟩,[et dh e.dots,et bq e.blank,et bb e.marked],0⟩:aw),⟨au,⟨#[]⟩,[et bZ e.scan,et cf e.batch],0⟩,⟨af,⟨#[]⟩,[⟨bY,e.prec,0⟩],0⟩]
   ++e.cont.map eg++e.styl.map (fy e.prec (e.cont.map (·.name)))
   ++[⟨aO,⟨#[]⟩,[⟨bL,[⟨(iE e.risk.q).toArray⟩],0⟩,⟨cM,[e.seed],0⟩],0⟩,⟨aY,⟨#[]⟩,[et dH e.cell],0⟩]):=hx
  rcases abR.1 hx' with hx'|hx'
  ·rcases abR.1 hx' with hx'|hx'
   ·rcases abR.1 hx' with hx'|hx'
    ·simp only[abq,abz,or_false] at hx';rcases hx' with rfl|rfl|rfl
     ·refine fG (abA rfl) (bp (abA rfl)) (by simp) fun f hf=>?_;simp only[abq,abz,or_false] at hf;rcases hf with rfl|rfl|rfl
      ·exact gQ (by decide)
      ·exact gQ (by decide)
      ·exact gQ (by decide)
     ·refine fG (abA rfl) (bp (abA rfl)) (by simp) fun f hf=>?_;simp only[abq,abz,or_false] at hf;rcases hf with rfl|rfl
      ·exact gQ (by decide)
      ·exact gQ (by decide)
     ·refine fG (abA rfl) (bp (abA rfl)) (by simp) fun f hf=>?_;simp only[abq,abz,or_false] at hf;subst hf;exact oZ (by decide) hs.prec h.lp
    ·obtain⟨c,hc,rfl⟩:=acr.1 hx';obtain⟨_,_,_,_,_,_,_,h8⟩:=h.conts c hc;exact Ca h8 (hs.cont c hc).1 (hs.cont c hc).2
   ·obtain⟨c,hc,rfl⟩:=acr.1 hx';refine vW (h.styls c hc) (hs.styl c hc) hs.prec fun s Zo=>?_;obtain⟨d,hd,rfl⟩:=acr.1 Zo;exact(hs.cont d hd).1
  ·simp only[abq,abz,or_false] at hx';rcases hx' with rfl|rfl
   ·refine fG (abA rfl) (bp (abA rfl)) (by simp) fun f hf=>?_;simp only[abq,abz,or_false] at hf;rcases hf with rfl|rfl
    ·exact oh (by decide) (vV h.short)
    ·exact oh (by decide) hs.seed
   ·refine fG (abA rfl) (bp (abA rfl)) (by simp) fun f hf=>?_;simp only[abq,abz,or_false] at hf;subst hf;exact gQ (by decide)
noncomputable def C13:hZ Tryz.prog:=dj Wi [⟨_,_,_,Ke⟩,⟨_,_,_,FQ⟩,⟨_,_,_,EE⟩,⟨_,_,_,aam⟩] []
def vlT (e:aa):T XV:=.br (!(lF e)) (.lf (aB false)) (.nd (Jr e) (.nd (FN (eT e)) (.br (decide ((gK (eT e)).2.no=0)) (.br true (.lf (aB (Va (gK (eT e)).1 e))) (.lf (aB false))) (.br ((gK (eT e)).2.no==0) (.lf (aB (Va .zero e))) (.lf (aB false))))))
theorem aaw {e:aa} (h:lF e=true):Jr e:=by
 unfold lF at h;simp only[aba,decide_eq_true_eq,abv] at h;obtain⟨h1,h2,h3,h4,h5,h6,h7⟩:=h;have hn:val e.risk.num<4294967296:=abw (eJ _) (by rw[show(4294967296:Nat)=4294967296^1 from rfl];exact acv (by decide) h4);have hd:val e.risk.den<4294967296:=abw (eJ _) (by rw[show(4294967296:Nat)=4294967296^1 from rfl];exact acv (by decide) h5);obtain⟨q1,q2⟩:=OA e.risk.neg (val e.risk.num) (val e.risk.den);have hb:(4294967296:Nat)≤2^200:=by decide
 exact⟨by omega,by omega,by omega,fun c hc=>abk (h6 c hc) (by decide),fun y hy=>⟨abk (h7 y hy).1 (by decide),abk (h7 y hy).2 (by decide)⟩,⟨abk h4 (by decide),abk h5 (by decide)⟩,
  abw (Nat.lt_of_le_of_lt q1 hn) hb,abw (Nat.lt_of_le_of_lt q2 (by omega)) hb⟩
theorem SZ {s:cO} (h:E2 s):FN s:=by
 obtain⟨h1,h2,h3⟩:=h;refine⟨abk h1 (by decide),abk h2 (by decide),fun b hb=>?_⟩;obtain⟨g1,g2,g3,g4⟩:=h3 b hb;exact⟨abk g2 (by decide),abk g3 (by decide),fun f hf=>⟨⟨fun s hs=>abk ((g4 f hf).1.2.1 s hs) (by decide),(g4 f hf).1.2.2⟩,abk g1 (by decide),abk (g4 f hf).1.1 (by decide)⟩⟩
theorem yO:av Tryz.prog 12 false (aU [(0,sE)] fun((e:aa),_)=>.nd (cH e∧bC e) (.lf (aB (jT e)))):=
 bz (C:=C13) (nL _ _) false 99 [(0,sE)] (fun((e:aa),_)=>vlT e)
  (fun⟨(e:aa),_⟩ r _ ⟨⟨h1,h2⟩,h⟩=>by
   obtain rfl:aB (jT e)=r:=h;refine⟨?_,.inr rfl⟩;show(vlT e).hit _;unfold vlT jT;cases hs:lF e with
   | false=>exact aX rfl rfl
   | true=>
    rw[abO];refine bg rfl ⟨aaw hs,SZ (Ka h1 h2),?_⟩;by_cases hn:(gK (eT e)).2.no=0
    ·rw[decide_eq_true hn,abO];exact aX rfl (aX rfl rfl)
    ·rw[decide_eq_false hn,abS];exact bg rfl (bg (beq_eq_false_iff_ne.2 hn) rfl)) Tryz.func12
end Go.Proofs.YtjlhbfbdcfajfaaGreatDoor
