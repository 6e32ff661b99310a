/- Law3 Law4 Ref38 Tm18 -/
import Derived.Test.YtdbpbfglhbiadaaGreatDoorL00
import Derived.Test.YtdbpbfglhbiadaaGreatDoorL39
import Derived.Test.YtdbpbfglhbiadaaGreatDoorL34
import Derived.Test.YtdbpbfglhbiadaaGreatDoorL37
import Derived.Test.YtdbpbfglhbiadaaGreatDoorL38
set_option maxHeartbeats 8000000
set_option maxRecDepth 100000
namespace Go.Proofs.YtdbpbfglhbiadaaGreatDoor
open Go.RowKit Go
theorem DR {kind nm:ByteArray} {b:bZ} {v:az} {x:dc} (h:cO kind nm b v x) (line:Int):∀(l:List ByteArray),(∀k∈l,k∈aD kind)→ gd x.known x.c.method line l ⟨0,0⟩=if l.any (eZ v)=true then⟨6,line⟩ else⟨0,0⟩
 | [],_=>rfl
 | k::l,hl=>by
  have hk:=hl k (by simp);have hm:k=ay→x.c.method=v.n aM:=fun e=>by
   subst e;by_cases hc:kind=ah
   ·have:=(h.c hc).1;have h2:=congrArg ae.method this;exact h2
   ·exfalso
    rcases mX hk with⟨_,q⟩|⟨_,q⟩|⟨_,q⟩|⟨q,_⟩|⟨_,q⟩|⟨_,q⟩|⟨_,q⟩
    ·revert q;decide
    ·revert q;decide
    ·revert q;decide
    ·exact hc q
    ·revert q;decide
    ·revert q;decide
    ·revert q;decide
  have uG:(bI x.known k=true∨(k=ay∧x.c.method≠2))↔eZ v k=false:=by
   unfold eZ;rw[h.kn k];by_cases hd:k=ay
   ·rw[hm hd];cases (v.ln k).isSome<;>simp[hd]
   ·cases (v.ln k).isSome<;>simp[hd]
  unfold gd;rw[if_neg (by simp)];cases hp:eZ v k with
  | true=>
   rw[if_neg (by rw[uG,hp];simp),cj];have h6:bB 6 line=⟨6,line⟩:=rfl;rw[h6];have fb:∀q:List ByteArray,gd x.known x.c.method line q ⟨6,line⟩=⟨6,line⟩:=fun q=>by
    cases q with
    | nil=>rfl
    | cons _ _=>unfold gd;rw[if_pos (by simp)]
   rw[fb,acL,hp];rfl
  | false=>
   rw[if_pos (uG.2 hp),cj,su,DR h line l (fun q hq=>hl q (by simp[hq])),acL,hp,acH]
theorem tT (v:az) (line:Int) (e:eE):∀l:List ByteArray,oy v line e l=if l.any (eZ v)=true then⟨6,line⟩ else e
 | []=>rfl
 | k::l=>by
  unfold oy;rw[acL];cases hp:eZ v k with
  | true=>simp
  | false=>rw[if_neg (by simp),tT v line e l,acH]
theorem xh (k:ByteArray):lM k=if k=ah then true else if k=aC then true else false:=rfl
structure qT (b:bZ) (t:fe):Prop where
 f:t.f=⟨0,0⟩
 e:t.e=b.e
 seen:∀k,bI t.seen k=decide (b.of k≠[])
 cs:b.of ah=t.e.cont.map (·.name)
 ss:b.of aC=t.e.styl.map (·.name)
 lc:t.e.cont.length≤4
 ls:t.e.styl.length≤6
 names:t.names=b.vals.map fun v=>(v.s af,v.s ax)
 lines:t.lines=b.vals.map fun v=>(v.l af,v.l ax)
 z1:b.of aH=[]→t.e.dots=0∧t.e.blank=0∧t.e.marked=0
 z2:b.of ak=[]→t.e.scan=0∧t.e.batch=0
 z3:b.of af=[]→t.e.prec=[]
 z4:b.of aJ=[]→t.e.risk=⟨false,[],[]⟩∧t.e.seed=⟨#[]⟩
 z5:b.of aN=[]→t.e.cell=0
theorem RA (l:List ae) (nm:ByteArray):(l.any fun c=>decide (c.name=nm))=Lib.containsS (l.map (·.name)) nm:=by
 rw[acQ,Lib.containsS_iff,acX];simp only[acC,decide_eq_true_eq]
theorem Mn (l:List aj) (nm:ByteArray):(l.any fun c=>decide (c.name=nm))=Lib.containsS (l.map (·.name)) nm:=by
 rw[acQ,Lib.containsS_iff,acX];simp only[acC,decide_eq_true_eq]
theorem Rx {s:ByteArray}:s.data.toList=[]↔s=⟨#[]⟩:=by
 constructor
 ·intro h;obtain⟨⟨l⟩⟩:=s;have:l=[]:=h;rw[this]
 ·rintro rfl;rfl
theorem head_eq {b:bZ} {t:fe} (h:qT b t) (kind nm:ByteArray):j6 t kind nm=fM kind nm (b.of kind):=by
 unfold j6 fM;by_cases h0:aD kind=[]
 ·rw[if_pos h0,if_pos h0]
 rw[if_neg h0,if_neg h0];have hm:lM kind=i7 kind:=by
  rw[xh];unfold i7;by_cases h1:kind=ah
  ·rw[if_pos h1,decide_eq_true h1];rfl
  ·rw[if_neg h1,decide_eq_false h1];by_cases h2:kind=aC
   ·rw[if_pos h2,decide_eq_true h2];rfl
   ·rw[if_neg h2,decide_eq_false h2];rfl
 rw[hm];cases Ss:i7 kind with
 | false=>
  have oF:kind≠ah:=fun e=>by rw[e] at Ss;revert Ss;decide
  have hZ:kind≠aC:=fun e=>by rw[e] at Ss;revert Ss;decide
  have hs:=h.seen kind;rw[if_neg (by simp),if_neg (by simp),if_neg (by simp),if_neg (by rintro(⟨q,_⟩|⟨q,_⟩);exact oF q;exact hZ q),if_pos rfl];by_cases hn:nm≠⟨#[]⟩
  ·rw[if_pos ⟨rfl,hn⟩,if_pos hn]
  ·rw[if_neg (fun q=>hn q.2),if_neg hn,hs];by_cases hl:b.of kind≠[]
   ·rw[if_pos ⟨rfl,decide_eq_true hl⟩,if_pos (List.length_pos_iff.2 hl)]
   ·rw[if_neg (fun q=>hl (of_decide_eq_true q.2)),if_neg (fun q=>hl (List.length_pos_iff.1 q))]
 | true=>
  rw[if_neg (by simp:¬(true=false))];by_cases hn:nm=⟨#[]⟩
  ·rw[if_pos ⟨rfl,hn⟩,if_pos hn]
  ·rw[if_neg (fun q=>hn q.2),if_neg hn];have hw:=SL (l:=nm.data.toList) (fun e=>hn (Rx.1 e));by_cases h8:iI nm.data.toList=false∨((nm.data.toList[0]?).getD 0).toNat<97∨24<nm.size
   ·rw[if_pos h8,if_pos ⟨rfl,by rcases h8 with q|q|q;exact .inl (hw.2 (.inl q));exact .inl (hw.2 (.inr q));exact .inr q⟩]
   ·rw[if_neg h8,if_neg (by
     rintro⟨_,q|q⟩
     ·rcases hw.1 q with q|q
      ·exact h8 (.inl q)
      ·exact h8 (.inr (.inl q))
     ·exact h8 (.inr (.inr q)))]
    have afx:(kind=ah∧(t.e.cont.any fun c=>decide (c.name=nm))=true)∨(kind=aC∧(t.e.styl.any fun c=>decide (c.name=nm))=true)↔Lib.containsS (b.of kind) nm=true:=by
     rw[RA,Mn,←h.cs,←h.ss];constructor
     ·rintro(⟨q,r⟩|⟨q,r⟩)<;>rw[q]<;>exact r
     ·intro r;by_cases q:kind=ah
      ·left;rw[q] at r;exact⟨q,r⟩
      ·have q2:kind=aC:=by
        unfold i7 at Ss;rw[decide_eq_false q,acH,decide_eq_true_eq] at Ss;exact Ss
       right;rw[q2] at r;exact⟨q2,r⟩
    have lP:(kind=ah∧4≤t.e.cont.length)∨(kind=aC∧6≤t.e.styl.length)↔((b.of kind).length:Int)=dt kind:=by
     have c1:dt ah=4:=by kernel_rfl
     have c2:dt aC=6:=by kernel_rfl
     have l1:(b.of ah).length=t.e.cont.length:=by rw[h.cs,ace]
     have l2:(b.of aC).length=t.e.styl.length:=by rw[h.ss,ace]
     have b1:=h.lc;have b2:=h.ls;by_cases q:kind=ah
     ·subst q;rw[c1,l1];constructor
      ·rintro(⟨_,r⟩|⟨r,_⟩)
       ·omega
       ·exact absurd r (by decide)
      ·intro r;left;exact⟨rfl,by omega⟩
     ·have q2:kind=aC:=by
       unfold i7 at Ss;rw[decide_eq_false q,acH,decide_eq_true_eq] at Ss;exact Ss
      subst q2;rw[c2,l2];constructor
      ·rintro(⟨r,_⟩|⟨_,r⟩)
       ·exact absurd r (by decide)
       ·omega
      ·intro r;right;exact⟨rfl,by omega⟩
    by_cases h3:Lib.containsS (b.of kind) nm=true
    ·rw[if_pos ⟨rfl,afx.2 h3⟩,if_pos h3]
    ·rw[if_neg (fun q=>h3 (afx.1 q.2)),if_neg h3];by_cases h7:((b.of kind).length:Int)=dt kind
     ·rw[if_pos (lP.2 h7),if_pos h7]
     ·rw[if_neg (fun q=>h7 (lP.1 q)),if_neg h7,if_neg (fun q=>by cases q.1),if_neg (fun q=>by cases q.1)]
theorem FX {b:bZ} {t:fe} (h:qT b t) (x:aw) (h0:fM x.kind x.name (b.of x.kind)=0):cO x.kind x.name (b.named x.kind x.name) az.zero (dc.start t x):=by
 have hh:=head_eq h x.kind x.name;rw[h0] at hh;have hd:fM x.kind x.name (b.of x.kind)=0:=h0;have PR:x.kind≠ah→x.kind≠aC→b.of x.kind=[]:=fun h1 h2=>by
  unfold fM at hd;by_cases hk:aD x.kind=[]
  ·rw[if_pos hk] at hd;cases hd
  rw[if_neg hk,if_pos (by rw[xh,if_neg h1,if_neg h2])] at hd;split at hd
  ·cases hd
  split at hd
  ·cases hd
  ·rename_i q;exact ab2.1 fun r=>q (List.length_pos_iff.2 r)
 exact {
  f:=by show t.f.note (j6 t x.kind x.name) x.line=_;rw[hh,fo,h.f]
  kn:=fun k=>by show bI [] k=(none:Option Int).isSome;rfl
  only:=fun k hk=>by cases hk
  e:=fun h1 h2=>by
   have ho:=PR h1 h2;show t.e=_;have hb:(b.named x.kind x.name).e=b.e:=rfl;unfold be;obtain⟨kind,nm,fields,line⟩:=x;simp only at ho h1 h2 hb ⊢;by_cases q1:kind=aH
   ·subst q1;obtain⟨z1,z2,z3⟩:=h.z1 ho;rw[if_pos rfl,hb,←h.e];exact(show t.e={ t.e with dots:=t.e.dots,blank:=t.e.blank,marked:=t.e.marked } from rfl).trans (by rw[z1,z2,z3];rfl)
   rw[if_neg q1];by_cases q2:kind=ak
   ·subst q2;obtain⟨z1,z2⟩:=h.z2 ho;rw[if_pos rfl,hb,←h.e];exact(show t.e={ t.e with scan:=t.e.scan,batch:=t.e.batch } from rfl).trans (by rw[z1,z2];rfl)
   rw[if_neg q2];by_cases q3:kind=af
   ·subst q3;have z1:=h.z3 ho;rw[if_pos rfl,hb,←h.e];exact(show t.e={ t.e with prec:=t.e.prec } from rfl).trans (by rw[z1];rfl)
   rw[if_neg q3,if_neg h1,if_neg h2];by_cases q4:kind=aJ
   ·subst q4;obtain⟨z1,z2⟩:=h.z4 ho;rw[if_pos rfl,hb,←h.e];exact(show t.e={ t.e with risk:=t.e.risk,seed:=t.e.seed } from rfl).trans (by rw[z1,z2];rfl)
   rw[if_neg q4];by_cases q5:kind=aN
   ·subst q5;have z1:=h.z5 ho;rw[if_pos rfl,hb,←h.e];exact(show t.e={ t.e with cell:=t.e.cell } from rfl).trans (by rw[z1];rfl)
   rw[if_neg q5,hb,h.e]
  e':=fun _=>h.e
  c:=fun _=>⟨rfl,rfl,rfl⟩
  c':=fun _=>rfl
  s:=fun _=>⟨rfl,rfl,rfl,rfl⟩ }
theorem ib (b:bZ) (kind nm k:ByteArray):(b.named kind nm).of k=if k=kind then b.of kind++[nm] else b.of k:=by
 unfold bZ.named bZ.of setF;simp only;by_cases h:k=kind
 ·rw[if_pos h,if_pos h];rfl
 ·rw[if_neg h,if_neg h]
theorem ia (kind nm:ByteArray) (v:az) (b:bZ) (k:ByteArray):(be kind nm v b).of k=b.of k:=by
 unfold be
 repeat' split
 all_goals rfl
theorem tw {b:bZ} {t:fe} (h:qT b t) (kind nm:ByteArray) (v:az) (k:ByteArray):bI (t.seen++[kind]) k=decide ((be kind nm v (b.named kind nm)).of k≠[]):=by
 rw[ia,ib,Aj,h.seen];by_cases hk:k=kind
 ·rw[if_pos hk,decide_eq_true hk,decide_eq_true (show b.of kind++[nm]≠[] by simp),Bool.or_true]
 ·rw[if_neg hk,decide_eq_false hk];simp
theorem FV {kind:ByteArray} {fs:List ar} {x:dc} (h:x.f.no≠0):dS kind fs x=x:=by
 cases fs with
 | nil=>rfl
 | cons f l=>unfold dS;rw[if_pos h]
theorem zB {known:List ByteArray} {m line:Int} {l:List ByteArray} {f:eE} (h:f.no≠0):gd known m line l f=f:=by
 cases l with
 | nil=>rfl
 | cons k l=>unfold gd;rw[if_pos h]
theorem xT {t:fe} {x:aw} {y:dc} (h:(gd y.known y.c.method x.line (aD x.kind) y.f).no≠0):(ug t x y).f=gd y.known y.c.method x.line (aD x.kind) y.f:=by
 unfold ug;simp only;rw[if_pos h]
theorem LR {t:fe} {x:aw} {y:dc} (h:gd y.known y.c.method x.line (aD x.kind) y.f=⟨0,0⟩):ug t x y= if x.kind=ah then { t with e:={ y.e with cont:=y.e.cont++[{ y.c with name:=x.name }] },f:=((⟨0,0⟩:eE).note (if bI y.known ay=true∧y.c.method≠2 then 5 else 0) y.digits).note (if y.c.method=1∧1<y.c.seats then 4 else 0) y.seats,seen:=t.seen++[x.kind] } else if x.kind=aC then { t with e:={ y.e with styl:=y.e.styl++[⟨x.name,[],[]⟩] },f:=⟨0,0⟩,seen:=t.seen++[x.kind],names:=t.names++[(y.n0,y.n1)],lines:=t.lines++[(y.l0,y.l1)] } else if x.kind=aH∧y.e.marked<y.e.blank then { t with e:=y.e,f:=(⟨0,0⟩:eE).note 4 x.line,seen:=t.seen++[x.kind] } else { t with e:=y.e,f:=⟨0,0⟩,seen:=t.seen++[x.kind] }:=by
 unfold ug;simp only[h];rw[if_neg (by simp)];rfl
theorem Eg {kind nm:ByteArray} {ns:List ByteArray} (h:fM kind nm ns=0) (hk:kind=ah∨kind=aC):(ns.length:Int)≠dt kind:=by
 intro e;unfold fM at h;split at h
 ·cases h
 split at h
 ·rename_i _ q;rcases hk with rfl|rfl
  ·revert q;decide
  ·revert q;decide
 split at h
 ·cases h
 split at h
 ·cases h
 split at h
 ·cases h
 first|(cases h;done)|(rw[if_pos e] at h;cases h)
theorem Lz {kind nm:ByteArray} {ns:List ByteArray} (h:fM kind nm ns=0):kind=aH∨kind=ak∨kind=af∨kind=ah∨kind=aC∨kind=aJ∨kind=aN:=by
 have h0:aD kind≠[]:=fun e=>by
  unfold fM at h;rw[if_pos e] at h;cases h
 obtain⟨k,hk⟩:=List.exists_mem_of_ne_nil _ h0;rcases mX hk with⟨q,_⟩|⟨q,_⟩|⟨q,_⟩|⟨q,_⟩|⟨q,_⟩|⟨q,_⟩|⟨q,_⟩
 ·exact .inl q
 ·exact .inr (.inl q)
 ·exact .inr (.inr (.inl q))
 ·exact .inr (.inr (.inr (.inl q)))
 ·exact .inr (.inr (.inr (.inr (.inl q))))
 ·exact .inr (.inr (.inr (.inr (.inr (.inl q)))))
 ·exact .inr (.inr (.inr (.inr (.inr (.inr q)))))
theorem K2 {kind nm:ByteArray} {b:bZ} {v:az} {x:dc} (h:cO kind nm b v x) (hk:kind≠ah):(v.ln ay).isSome=false:=by
 cases hs:(v.ln ay).isSome with
 | false=>rfl
 | true=>
  exfalso
  rcases mX (h.only _ hs) with⟨_,q⟩|⟨_,q⟩|⟨_,q⟩|⟨q,_⟩|⟨_,q⟩|⟨_,q⟩|⟨_,q⟩
  ·revert q;decide
  ·revert q;decide
  ·revert q;decide
  ·exact hk q
  ·revert q;decide
  ·revert q;decide
  ·revert q;decide
theorem kO {b:bZ} {t:fe} (h:qT b t) {kind nm:ByteArray} {v:az} {e':aa} (h1:kind≠ah) (h2:kind≠aC) (he:e'=(be kind nm v (b.named kind nm)).e) (hc:e'.cont=b.e.cont) (hs:e'.styl=b.e.styl) (Cy:(be kind nm v (b.named kind nm)).vals=b.vals) (z1:kind≠aH→e'.dots=b.e.dots∧e'.blank=b.e.blank∧e'.marked=b.e.marked) (z2:kind≠ak→e'.scan=b.e.scan∧e'.batch=b.e.batch) (z3:kind≠af→e'.prec=b.e.prec) (z4:kind≠aJ→e'.risk=b.e.risk∧e'.seed=b.e.seed) (z5:kind≠aN→e'.cell=b.e.cell) : qT (be kind nm v (b.named kind nm)) { t with e:=e',f:=⟨0,0⟩,seen:=t.seen++[kind] }:=by
 have hz:∀k,(be kind nm v (b.named kind nm)).of k=[]→kind≠k∧b.of k=[]:=fun k hk=>by
  rw[ia,ib] at hk;by_cases q:k=kind
  ·rw[if_pos q] at hk;simp at hk
  ·rw[if_neg q] at hk;exact⟨acp q,hk⟩
 exact {
  f:=rfl
  e:=he
  seen:=fun k=>tw h kind nm v k
  cs:=by
   rw[ia,ib,if_neg (acp h1),h.cs];show _=e'.cont.map _;rw[hc,h.e]
  ss:=by
   rw[ia,ib,if_neg (acp h2),h.ss];show _=e'.styl.map _;rw[hs,h.e]
  lc:=by show e'.cont.length≤4;rw[hc,←h.e];exact h.lc
  ls:=by show e'.styl.length≤6;rw[hs,←h.e];exact h.ls
  names:=by rw[Cy];exact h.names
  lines:=by rw[Cy];exact h.lines
  z1:=fun k=>by
   obtain⟨q1,q2⟩:=hz _ k;have q3:=h.z1 q2;rw[h.e] at q3;obtain⟨a1,a2,a3⟩:=z1 q1;exact⟨a1.trans q3.1,a2.trans q3.2.1,a3.trans q3.2.2⟩
  z2:=fun k=>by
   obtain⟨q1,q2⟩:=hz _ k;have q3:=h.z2 q2;rw[h.e] at q3;obtain⟨a1,a2⟩:=z2 q1;exact⟨a1.trans q3.1,a2.trans q3.2⟩
  z3:=fun k=>by
   obtain⟨q1,q2⟩:=hz _ k;have q3:=h.z3 q2;rw[h.e] at q3;exact(z3 q1).trans q3
  z4:=fun k=>by
   obtain⟨q1,q2⟩:=hz _ k;have q3:=h.z4 q2;rw[h.e] at q3;obtain⟨a1,a2⟩:=z4 q1;exact⟨a1.trans q3.1,a2.trans q3.2⟩
  z5:=fun k=>by
   obtain⟨q1,q2⟩:=hz _ k;have q3:=h.z5 q2;rw[h.e] at q3;exact(z5 q1).trans q3 }
theorem Gd {kind:ByteArray} {line:Int} {v:az} (h:(jJ kind line v).no=0):jJ kind line v=⟨0,0⟩:=by
 unfold jJ at h ⊢;split
 ·rename_i q;rw[if_pos q] at h;cases h
 split
 ·rename_i q1 q;rw[if_neg q1,if_pos q] at h;cases h
 split
 ·rename_i q1 q2 q;rw[if_neg q1,if_neg q2,if_pos q] at h;cases h
 ·rfl
theorem aa8 {b:bZ} {t:fe} (h:qT b t) {x:aw} (h0:fM x.kind x.name (b.of x.kind)=0) {v:az} {y:dc} (hv:cO x.kind x.name (b.named x.kind x.name) v y) (hm:gd y.known y.c.method x.line (aD x.kind) y.f=⟨0,0⟩) : (ug t x y).f=jJ x.kind x.line v∧((jJ x.kind x.line v).no=0→qT (be x.kind x.name v (b.named x.kind x.name)) (ug t x y)):=by
 rw[LR hm];obtain⟨kind,nm,fields,line⟩:=x;simp only at h0 hv hm ⊢;have hz:∀k,(be kind nm v (b.named kind nm)).of k=[]→kind≠k∧b.of k=[]:=fun k hk=>by
  rw[ia,ib] at hk;by_cases q:k=kind
  ·rw[if_pos q] at hk;simp at hk
  ·rw[if_neg q] at hk;exact⟨acp q,hk⟩
 by_cases hc:kind=ah
 ·subst hc;obtain⟨c1,c2,c3⟩:=hv.c rfl;have m1:y.c.method=v.n aM:=congrArg ae.method c1;have m2:y.c.seats=v.n bb:=congrArg ae.seats c1;have he:y.e=b.e:=hv.e' (.inl rfl);have lP:=Eg h0 (.inl rfl);have hc4:dt ah=4:=by kernel_rfl
  have bG:(b.of ah).length=t.e.cont.length:=by rw[h.cs,ace]
  have hlc:=h.lc;have c1:(⟨nm,y.c.cands,y.c.method,y.c.seats,y.c.ranks,y.c.digits,y.c.ties,y.c.over,y.c.skip⟩:ae)=cR nm v:=c1;rw[if_pos rfl,c1,hv.kn,m1,m2,c2,c3,he];refine⟨?_,fun hr=>?_⟩
  ·show((⟨0,0⟩:eE).note _ _).note _ _=_;unfold jJ;by_cases p5:(v.ln ay).isSome=true∧v.n aM≠2
   ·rw[if_pos p5,if_pos p5,cj,tA (by rw[sw];omega)];rfl
   ·rw[if_neg p5,if_neg p5,cj,su,cj];by_cases p4:v.n aM=1∧1<v.n bb
    ·rw[if_pos p4,if_pos ⟨rfl,p4⟩];rfl
    ·rw[if_neg p4,if_neg (fun q=>p4 q.2),if_neg (fun q=>by revert q;exact fun q=>absurd q.1 (by decide))];rfl
  ·have fb:be ah nm v (b.named ah nm)={ b.named ah nm with e:={ b.e with cont:=b.e.cont++[cR nm v] } }:=by
    unfold be;rw[if_neg (by decide),if_neg (by decide),if_neg (by decide),if_pos rfl];rfl
   have hf:((⟨0,0⟩:eE).note (if(v.ln ay).isSome=true∧v.n aM≠2 then 5 else 0) (v.l ay)).note (if v.n aM=1∧1<v.n bb then 4 else 0) (v.l bb)=⟨0,0⟩:=by
    unfold jJ at hr;by_cases p5:(v.ln ay).isSome=true∧v.n aM≠2
    ·rw[if_pos p5] at hr;cases hr
    ·rw[if_neg p5] at hr;rw[if_neg p5,cj,su,cj];by_cases p4:v.n aM=1∧1<v.n bb
     ·rw[if_pos ⟨rfl,p4⟩] at hr;cases hr
     ·rw[if_neg p4];rfl
   exact {
    f:=hf
    e:=by rw[fb]
    seen:=fun k=>tw h ah nm v k
    cs:=by
     rw[ia,ib,if_pos rfl,h.cs,h.e];show _=(b.e.cont++[cR nm v]).map _;rw[acR];rfl
    ss:=by
     rw[ia,ib,if_neg (by decide),h.ss,h.e]
    lc:=by
     show(b.e.cont++[cR nm v]).length≤4;rw[aaD,abE,←h.e];rw[hc4,bG] at lP;omega
    ls:=by show b.e.styl.length≤6;rw[←h.e];exact h.ls
    names:=by rw[fb];exact h.names
    lines:=by rw[fb];exact h.lines
    z1:=fun k=>by have q:=h.z1 (hz _ k).2;rw[h.e] at q;exact q
    z2:=fun k=>by have q:=h.z2 (hz _ k).2;rw[h.e] at q;exact q
    z3:=fun k=>by have q:=h.z3 (hz _ k).2;rw[h.e] at q;exact q
    z4:=fun k=>by have q:=h.z4 (hz _ k).2;rw[h.e] at q;exact q
    z5:=fun k=>by have q:=h.z5 (hz _ k).2;rw[h.e] at q;exact q }
 rw[if_neg hc];have Jl:=K2 hv hc;have Jj:jJ kind line v=if kind=aH∧v.n aW<v.n bi then⟨4,line⟩ else⟨0,0⟩:=by
  unfold jJ;rw[if_neg (by rw[Jl];simp),if_neg (fun q=>hc q.1)]
 rw[Jj];by_cases hs:kind=aC
 ·subst hs;obtain⟨s1,s2,s3,s4⟩:=hv.s rfl;have he:y.e=b.e:=hv.e' (.inr rfl);have lP:=Eg h0 (.inr rfl);have hc4:dt aC=6:=by kernel_rfl
  have bG:(b.of aC).length=t.e.styl.length:=by rw[h.ss,ace]
  have hls:=h.ls;rw[if_pos rfl,if_neg (fun q=>absurd q.1 (by decide)),s1,s2,s3,s4,he];refine⟨rfl,fun _=>?_⟩;have fb:be aC nm v (b.named aC nm)={ b.named aC nm with e:={ b.e with styl:=b.e.styl++[⟨nm,[],[]⟩] },vals:=b.vals++[v] }:=by
   unfold be;rw[if_neg (by decide),if_neg (by decide),if_neg (by decide),if_neg (by decide),if_pos rfl];rfl
  exact {
   f:=rfl
   e:=by rw[fb]
   seen:=fun k=>tw h aC nm v k
   cs:=by
    rw[ia,ib,if_neg (by decide),h.cs,h.e]
   ss:=by
    rw[ia,ib,if_pos rfl,h.ss,h.e];show _=(b.e.styl++[(⟨nm,[],[]⟩:aj)]).map _;rw[acR];rfl
   lc:=by show b.e.cont.length≤4;rw[←h.e];exact h.lc
   ls:=by
    show(b.e.styl++[(⟨nm,[],[]⟩:aj)]).length≤6;rw[aaD,abE,←h.e];rw[hc4,bG] at lP;omega
   names:=by
    rw[fb];show t.names++_=(b.vals++[v]).map _;rw[h.names,acR];rfl
   lines:=by
    rw[fb];show t.lines++_=(b.vals++[v]).map _;rw[h.lines,acR];rfl
   z1:=fun k=>by have q:=h.z1 (hz _ k).2;rw[h.e] at q;exact q
   z2:=fun k=>by have q:=h.z2 (hz _ k).2;rw[h.e] at q;exact q
   z3:=fun k=>by have q:=h.z3 (hz _ k).2;rw[h.e] at q;exact q
   z4:=fun k=>by have q:=h.z4 (hz _ k).2;rw[h.e] at q;exact q
   z5:=fun k=>by have q:=h.z5 (hz _ k).2;rw[h.e] at q;exact q }
 rw[if_neg hs];have he:=hv.e hc hs;have hb:(b.named kind nm).e=b.e:=rfl;have MC:(b.named kind nm).vals=b.vals:=rfl;by_cases q1:kind=aH
 ·subst q1;have fb:(be aH nm v (b.named aH nm)).e={ b.e with dots:=v.n cV,blank:=v.n bi,marked:=v.n aW }:=by
   unfold be;rw[if_pos rfl];rfl
  have e1:y.e.marked=v.n aW:=by rw[he,fb]
  have e2:y.e.blank=v.n bi:=by rw[he,fb]
  rw[e1,e2];by_cases q:v.n aW<v.n bi
  ·rw[if_pos ⟨rfl,q⟩,if_pos ⟨rfl,q⟩];exact⟨rfl,fun k=>by cases k⟩
  ·rw[if_neg (fun k=>q k.2),if_neg (fun k=>q k.2)];refine⟨rfl,fun _=>kO h hc hs he ?_ ?_ ?_ (fun k=>absurd rfl k) (fun _=>?_) (fun _=>?_) (fun _=>?_) (fun _=>?_)⟩
   all_goals first|(rw[he,fb];exact⟨rfl,rfl⟩)|(rw[he,fb])|(unfold be;rw[if_pos rfl];rfl)
 rw[if_neg (fun k=>q1 k.1),if_neg (fun k=>q1 k.1)];refine⟨rfl,fun _=>?_⟩;rcases Lz h0 with rfl|rfl|rfl|rfl|rfl|rfl|rfl
 ·exact absurd rfl q1
 ·have fb:be ak nm v (b.named ak nm)={ b.named ak nm with e:={ b.e with scan:=v.n bQ,batch:=v.n bR } }:=by
   unfold be;rw[if_neg (by decide),if_pos rfl];rfl
  refine kO h hc hs he ?_ ?_ ?_ (fun _=>?_) (fun k=>absurd rfl k) (fun _=>?_) (fun _=>?_) (fun _=>?_)
  all_goals first|(rw[he,fb];exact⟨rfl,rfl,rfl⟩)|(rw[he,fb];exact⟨rfl,rfl⟩)|(rw[he,fb])|(rw[fb];rfl)
 ·have fb:be af nm v (b.named af nm)={ b.named af nm with e:={ b.e with prec:=v.s bP } }:=by
   unfold be;rw[if_neg (by decide),if_neg (by decide),if_pos rfl];rfl
  refine kO h hc hs he ?_ ?_ ?_ (fun _=>?_) (fun _=>?_) (fun k=>absurd rfl k) (fun _=>?_) (fun _=>?_)
  all_goals first|(rw[he,fb];exact⟨rfl,rfl,rfl⟩)|(rw[he,fb];exact⟨rfl,rfl⟩)|(rw[he,fb])|(rw[fb];rfl)
 ·exact absurd rfl hc
 ·exact absurd rfl hs
 ·have fb:be aJ nm v (b.named aJ nm)={ b.named aJ nm with e:={ b.e with risk:=v.risk,seed:=v.seed } }:=by
   unfold be;rw[if_neg (by decide),if_neg (by decide),if_neg (by decide),if_neg (by decide),if_neg (by decide),if_pos rfl];rfl
  refine kO h hc hs he ?_ ?_ ?_ (fun _=>?_) (fun _=>?_) (fun _=>?_) (fun k=>absurd rfl k) (fun _=>?_)
  all_goals first|(rw[he,fb];exact⟨rfl,rfl,rfl⟩)|(rw[he,fb];exact⟨rfl,rfl⟩)|(rw[he,fb])|(rw[fb];rfl)
 ·have fb:be aN nm v (b.named aN nm)={ b.named aN nm with e:={ b.e with cell:=v.n dm } }:=by
   unfold be;rw[if_neg (by decide),if_neg (by decide),if_neg (by decide),if_neg (by decide),if_neg (by decide),if_neg (by decide),if_pos rfl];rfl
  refine kO h hc hs he ?_ ?_ ?_ (fun _=>?_) (fun _=>?_) (fun _=>?_) (fun _=>?_) (fun k=>absurd rfl k)
  all_goals first|(rw[he,fb];exact⟨rfl,rfl,rfl⟩)|(rw[he,fb];exact⟨rfl,rfl⟩)|(rw[he,fb])|(rw[fb];rfl)
theorem Rh {b:bZ} {t:fe} (h:qT b t) (x:aw):(gp t x).f=(gr x b).1∧((gr x b).1.no=0→qT (gr x b).2 (gp t x)):=by
 unfold gr gp;have hh:=head_eq h x.kind x.name;by_cases h0:fM x.kind x.name (b.of x.kind)≠0
 ·rw[if_pos h0];have hs:(dc.start t x).f=⟨fM x.kind x.name (b.of x.kind),x.line⟩:=by
   show t.f.note (j6 t x.kind x.name) x.line=_;rw[hh,h.f,cj];unfold bB;rw[if_neg h0]
  have hn:(dc.start t x).f.no≠0:=by rw[hs];exact h0
  rw[FV hn];have hm:gd (dc.start t x).known (dc.start t x).c.method x.line (aD x.kind) (dc.start t x).f=(dc.start t x).f:=zB hn;refine⟨?_,fun q=>absurd q h0⟩;rw[xT (by rw[hm];exact hn),hm,hs]
 ·have h0:=ab2.1 h0;rw[if_neg (by rw[h0];simp)];have hv:=FX h x h0;obtain⟨s1,s2⟩:=CU x.fields hv;obtain⟨r,hr⟩:∃r,eJ x.kind x.fields az.zero=r:=⟨_,rfl⟩;obtain⟨y,hy⟩:∃y,dS x.kind x.fields (dc.start t x)=y:=⟨_,rfl⟩;rw[hr,hy] at s1 s2;rw[hr,hy];by_cases h1:r.1.no≠0
  ·rw[if_pos h1];have hn:y.f.no≠0:=by rw[s1];exact h1
   have hm:gd y.known y.c.method x.line (aD x.kind) y.f=y.f:=zB hn;exact⟨by rw[xT (by rw[hm];exact hn),hm,s1],fun q=>absurd q h1⟩
  ·have hv:=s2 (ab2.1 h1);rw[if_neg h1];have hm:=DR hv x.line (aD x.kind) (fun _ h=>h);rw[←hv.f] at hm;have hc:eP x.kind x.line r.2=if(aD x.kind).any (eZ r.2)=true then⟨6,x.line⟩ else jJ x.kind x.line r.2:=tT _ _ _ _
   by_cases h6:(aD x.kind).any (eZ r.2)=true
   ·rw[if_pos h6] at hm hc;rw[hc,if_pos (by simp)];exact⟨by rw[xT (by rw[hm];simp),hm],fun q=>by cases q⟩
   ·rw[if_neg h6] at hm hc;rw[hv.f] at hm;rw[hc];have he:=aa8 h h0 hv (by rw[hv.f];exact hm);by_cases h7:(jJ x.kind x.line r.2).no≠0
    ·rw[if_pos h7];exact⟨he.1,fun q=>absurd q h7⟩
    ·rw[if_neg h7];have h8:=Gd (ab2.1 h7);exact⟨he.1.trans h8,fun _=>he.2 (by rw[h8])⟩
theorem uj:∀(l:List aw) {b:bZ} {t:fe},qT b t→(dh l t).f=(di l b).1∧((di l b).1.no=0→qT (di l b).2 (dh l t))
 | [],b,t,h=>⟨h.f,fun _=>h⟩
 | x::l,b,t,h=>by
  have hs:=Rh h x;unfold dh di;rw[if_neg (by rw[h.f];simp)];by_cases h0:(gr x b).1.no≠0
  ·rw[if_pos h0];have hn:(gp t x).f.no≠0:=by rw[hs.1];exact h0
   have fb:dh l (gp t x)=gp t x:=by
    cases l with
    | nil=>rfl
    | cons y l=>unfold dh;rw[if_pos hn]
   rw[fb];exact⟨hs.1,fun q=>absurd q h0⟩
  ·rw[if_neg h0];exact uj l (hs.2 (ab2.1 h0))
theorem sf (s:ByteArray):∀(l:List ae) (i:Nat),bA s l i=Lib.idxFromS (l.map (·.name)) s i
 | [],_=>rfl
 | c::l,i=>by
  unfold bA;rw[acg];unfold Lib.idxFromS;rw[sf s l (i+1)]
theorem DY (cont:List ae) (line:Int):∀(l:List ByteArray) (ew:List Int),qG (cont.map (·.name)) line l ew=eg cont line l ew
 | [],_=>rfl
 | s::l,ew=>by
  unfold qG eg;have e:bA s cont 0=Lib.idxOfS (cont.map (·.name)) s:=sf s cont 0;rw[e,DY cont line l]
theorem zM (prec:List ByteArray) (cont:List ae):∀(vs:List az) (ss:List aj) (used:List Bool) (done:List aj), jC prec (cont.map (·.name)) (vs.map fun v=>(v.s af,v.s ax)) (vs.map fun v=>(v.l af,v.l ax)) ss used done=eK prec cont vs ss used done
 | [],ss,used,done=>by
  unfold eK;simp only[List.map_nil,jC]
 | v::vs,[],used,done=>by
  unfold eK;simp only[acg,jC]
 | v::vs,s::ss,used,done=>by
  rw[acg,acg,jC,eK];simp only;cases dG prec (v.l af) (v.s af) used [] with
  | error e=>rfl
  | ok r=>
   obtain⟨u,ps⟩:=r;simp only;rw[DY];cases eg cont (v.l ax) (v.s ax) [] with
   | error e=>rfl
   | ok cs=>exact zM prec cont vs ss u _
theorem Uj {b:bZ} {t:fe} (h:qT b t):lm t=pQ b:=by
 unfold lm pQ;rw[h.names,h.lines,h.e];exact zM _ _ _ _ _ _
theorem o8 {seen:List ByteArray}:∀(l:List ByteArray) {f:eE},f.no≠0→l.foldl (fun f k=>f.note (if bI seen k=true then 0 else 6) 0) f=f
 | [],f,_=>rfl
 | k::l,f,h=>by
  rw[ac4,tA h];exact o8 l h
theorem xR {b:bZ} {t:fe} (h:qT b t):∀l:List ByteArray,l.foldl (fun f k=>f.note (if bI t.seen k=true then 0 else 6) 0) (⟨0,0⟩:eE)=if l.any (fun k=>decide (b.of k=[]))=true then⟨6,0⟩ else⟨0,0⟩
 | []=>rfl
 | k::l=>by
  rw[ac4,acL,h.seen];by_cases hk:b.of k=[]
  ·rw[decide_eq_false (by simp[hk]:¬b.of k≠[]),if_neg (by simp),cj,o8 l (by rw[sw];omega),decide_eq_true hk];rfl
  ·rw[decide_eq_true hk,if_pos rfl,cj,su,xR h l,decide_eq_false hk,acH]
theorem wv (s:ByteArray):(60<s.size∨fQ s.data.toList=false)↔dN s 0 60=false:=by
 unfold dN;rw[decide_eq_true (by omega:(0:Int)≤(s.size:Int)),acB];cases fQ s.data.toList with
 | false=>simp
 | true=>
  rw[acB,decide_eq_false_iff_not];constructor
  ·rintro(h|h)
   ·omega
   ·cases h
  ·intro h;left;omega
theorem zV:i9=eQ:=by kernel_rfl
theorem yb (s:cI):gM s=cX s:=by
 unfold gM cX;by_cases h8:dN s.title 0 60=false
 ·rw[if_pos h8];have fb:(fe.start s.title).f=⟨8,0⟩:=by
   show(⟨0,0⟩:eE).note _ 0=_;rw[if_pos ((wv _).2 h8)];rfl
  have hb:dh s.blocks (fe.start s.title)=fe.start s.title:=by
   cases s.blocks with
   | nil=>rfl
   | cons x l=>unfold dh;rw[if_pos (by rw[fb];simp)]
  have hf:(cJ s).f=⟨8,0⟩:=by
   unfold cJ;simp only;rw[hb,fb];exact o8 _ (by simp)
  rw[hf,if_pos (by simp)]
 ·rw[if_neg h8];have fb:(fe.start s.title).f=⟨0,0⟩:=by
   show(⟨0,0⟩:eE).note _ 0=_;rw[if_neg (fun q=>h8 ((wv _).1 q))];rfl
  have Ql:qT (bZ.start s.title) (fe.start s.title):={
   f:=fb
   e:=rfl
   seen:=fun k=>rfl
   cs:=rfl
   ss:=rfl
   lc:=by show([]:List ae).length≤4;simp
   ls:=by show([]:List aj).length≤6;simp
   names:=rfl
   lines:=rfl
   z1:=fun _=>⟨rfl,rfl,rfl⟩
   z2:=fun _=>⟨rfl,rfl⟩
   z3:=fun _=>rfl
   z4:=fun _=>⟨rfl,rfl⟩
   z5:=fun _=>rfl }
  obtain⟨cK,cm⟩:=uj s.blocks Ql;obtain⟨r,hr⟩:∃r,di s.blocks (bZ.start s.title)=r:=⟨_,rfl⟩;obtain⟨t,ht⟩:∃t,dh s.blocks (fe.start s.title)=t:=⟨_,rfl⟩;rw[hr,ht] at cK cm;have Qo:(cJ s)={ t with f:=i9.foldl (fun f k=>f.note (if bI t.seen k=true then 0 else 6) 0) t.f }:=by
   unfold cJ;simp only;rw[ht]
  rw[hr,Qo];by_cases h1:r.1.no≠0
  ·rw[if_pos h1];have hf:i9.foldl (fun f k=>f.note (if bI t.seen k=true then 0 else 6) 0) t.f=r.1:=by
    rw[cK];exact o8 _ h1
   simp only[hf];rw[if_pos h1]
  ·rw[if_neg h1];have hC:=cm (ab2.1 h1);have hf:=xR hC eQ;rw[hC.f,zV,hf];by_cases h6:eQ.any (fun k=>decide (r.2.of k=[]))=true
   ·rw[if_pos h6,if_pos h6];rfl
   ·rw[if_neg h6,if_neg h6];have hl:lm { t with f:=(⟨0,0⟩:eE) }=pQ r.2:=Uj (t:=t) hC;rw[hl];simp only[ne_eq,not_true_eq_false,if_false];cases pQ r.2 with
    | error e=>rfl
    | ok l=>rw[←hC.e]
theorem AD (n:Nat):Lib.decDigits n=bJ n:=by
 have hz:∀m:Nat,0<m→Lib.decDigits m=(gC m).reverse:=by
  intro m;induction m using Nat.strongRecOn with
  | ind m ih=>
   intro hm;have e1:gC m=FA m::gC (m/10):=by rw[gC,dif_neg (by omega)]
   rw[e1,ab8];by_cases h:m<10
   ·rw[Lib.decDigits_one h,show m/10=0 by omega,gT];unfold FA;rw[Nat.mod_eq_of_lt h];rfl
   ·rw[Lib.decDigits,dif_neg h,ih (m/10) (by omega) (by omega)];rfl
 unfold bJ;by_cases h:n=0
 ·rw[if_pos h,h,Lib.decDigits_one (by omega)];rfl
 ·rw[if_neg h];exact hz n (by omega)
def Small (n:Int):Prop:=0≤n∧n≤999999
theorem Pq {n:Int} (h:Small n):rY n=EG n:=by
 obtain⟨k,rfl⟩:∃k:Nat,n=(k:Int):=⟨n.toNat,by have:=h.1;omega⟩;unfold rY EG;rw[if_neg (by have:=h.2;omega)];unfold Lib.itoa;rw[if_neg (by omega),aak,AD]
theorem Ha (n:Int):jY aM n=gg aM n eH:=by
 unfold jY gg jE pO;rw[show aO aM=eH from by kernel_rfl]
theorem Q8 (n:Int):jY cT n=gg cT n iR:=by
 unfold jY gg jE pO;rw[show aO cT=iR from by kernel_rfl]
theorem Ra (n:Int):jY aP n=gg aP n iT:=by
 unfold jY gg jE pO;rw[show aO aP=iT from by kernel_rfl]
theorem Q9 (n:Int):jY cU n=gg cU n iS:=by
 unfold jY gg jE pO;rw[show aO cU=iS from by kernel_rfl]
theorem kf {k:ByteArray} {n:Int} (h:Small n):gJ k n=ez k n:=by unfold gJ ez;rw[Pq h]
def XG (c:ae):Prop:=Small c.seats∧Small c.ranks∧Small c.digits
structure RZ (e:aa):Prop where
 dots:Small e.dots
 blank:Small e.blank
 marked:Small e.marked
 scan:Small e.scan
 batch:Small e.batch
 cell:Small e.cell
 cont:∀c∈e.cont,XG c
theorem EI {c:ae} (h:XG c):fl c=em c:=by
 unfold fl em;rw[Ha,Q8,Ra,Q9,kf h.1,kf h.2.1,kf h.2.2]
theorem zj {e:aa} (h:RZ e):eX e=eW e:=by
 unfold eX eW;rw[kf h.dots,kf h.blank,kf h.marked,kf h.scan,kf h.batch,kf h.cell];have hc:e.cont.map fl=e.cont.map em:=List.map_congr_left fun c hc=>EI (h.cont c hc);rw[hc]
structure SH (v:az):Prop where
 num:∀k n,v.num k=some n→Small n
 lst:∀k xs,v.lst k=some xs→(xs.length:Int)≤bW k
 risk:(v.ln bH).isSome=true→∃a b:Nat,0<b∧a≤999999∧b≤999999∧v.risk=(eB false a b).raw
theorem SH.n {v:az} (h:SH v) (k:ByteArray):Small (v.n k):=by
 unfold az.n;cases hn:v.num k with
 | none=>exact⟨by simp,by simp⟩
 | some n=>exact h.num k n hn
theorem SH.s {v:az} (h:SH v) (k:ByteArray) (h0:0≤bW k):((v.s k).length:Int)≤bW k:=by
 unfold az.s;cases hn:v.lst k with
 | none=>simpa using h0
 | some xs=>exact h.lst k xs hn
theorem xo {ig:Int}:∀{l pre:List ByteArray},fp ig pre l=0→(pre.length:Int)≤ig→((pre.length+l.length:Nat):Int)≤ig
 | [],pre,_,h=>by simpa using h
 | s::r,pre,h,hp=>by
  unfold fp at h;split at h
  ·cases h
  split at h
  ·cases h
  split at h
  ·cases h
  ·rename_i h1 _ _;have:=xo h (by rw[aaD,abE];omega);rw[aaD,abE] at this;rw[aaO];omega
theorem Lc {l:List ByteArray} {ig:Int} (h:db l ig=0) (h0:0≤ig):(l.length:Int)≤ig:=by
 unfold db at h;split at h
 ·cases h
 ·have:=xo h (by simpa using h0);simpa using this
theorem BF:bW bH=0:=by kernel_rfl
theorem yZ:aO bH=[]:=by kernel_rfl
theorem Oe {kind:ByteArray} {f:ar} {v:az} (h:SH v) (h0:(aX kind f v).1=0):SH (aX kind f v).2:=by
 unfold aX at h0 ⊢;split at h0
 ·cases h0
 rename_i q1;rw[if_neg q1];split at h0
 ·cases h0
 rename_i q2;rw[if_neg q2];have uD:f.key≠bH→∀line:Int,(setF v.ln f.key line bH).isSome=true→(v.ln bH).isSome=true:=fun hk line hs=>by
  unfold setF at hs;rw[if_neg (acp hk)] at hs;exact hs
 split at h0
 ·rename_i q3;rw[if_pos q3];have hl:=Lc h0 (by omega);exact⟨h.num,fun k xs hk=>by
   have mn:setF v.lst f.key f.vals k=some xs:=hk;unfold setF at mn;split at mn
   ·rename_i e;injection mn with mn
    subst mn;rw[e];exact hl
   ·exact h.lst k xs mn,fun hs=>h.risk (uD (fun e=>by rw[e,BF] at q3;omega) _ hs)⟩
 rename_i q3;rw[if_neg q3];split at h0
 ·cases h0
 rename_i q4;rw[if_neg q4];unfold wT at h0 ⊢;have hch:∀k s:ByteArray,0≤Lib.idxOfS (aO k) s+1∧Lib.idxOfS (aO k) s+1≤11:=fun k s=>by
  have:=uA k s;omega
 split at h0
 ·rename_i q5;rw[if_pos q5];refine⟨fun k n hk=>?_,h.lst,fun hs=>h.risk (uD (fun e=>q5 (by rw[e];exact yZ)) _ hs)⟩;have mn:setF v.num f.key (Lib.idxOfS (aO f.key) (f.vals.getD 0 ⟨#[]⟩)+1) k=some n:=hk;unfold setF at mn;split at mn
  ·injection mn with mn
   subst mn;have:=hch f.key (f.vals.getD 0 ⟨#[]⟩);exact⟨by omega,by omega⟩
  ·exact h.num k n mn
 rename_i q5;rw[if_neg q5];split at h0
 ·rename_i q6;rw[if_pos q6];have hr:=Dj (f.vals.getD 0 ⟨#[]⟩).data.toList;have uC:=hr.2 h0;rw[uC];refine⟨h.num,h.lst,fun _=>?_⟩;show∃a b:Nat,0<b∧a≤999999∧b≤999999∧(d9 (f.vals.getD 0 ⟨#[]⟩).data.toList).2=(eB false a b).raw;have h1:(iU (f.vals.getD 0 ⟨#[]⟩).data.toList).1=0:=h0;obtain⟨l,hl⟩:∃l,(f.vals.getD 0 ⟨#[]⟩).data.toList=l:=⟨_,rfl⟩;rw[hl] at h1 uC ⊢;unfold iU at h1 uC;split at h1
  ·cases h1
  rename_i r1;rw[if_neg r1] at uC;split at h1
  ·cases h1
  rename_i r2;rw[if_neg r2] at uC;injection uC with uC
  obtain⟨a,ha⟩:=rJ (ek l);obtain⟨b,hb⟩:=rJ (dQ l);have ra:=(iw (ek l)).2;have rb:=(iw (dQ l)).2;rw[ha] at ra;rw[hb] at rb;refine⟨a,b,?_,by omega,by omega,?_⟩
  ·rw[hb] at r2;have:¬(b:Int)=0:=fun e=>r2 (.inl e);omega
  ·rw[←uC,ha,hb,o7]
 rename_i q6;rw[if_neg q6];split at h0
 ·rename_i q7;rw[if_pos q7];split at h0
  ·rename_i q8;rw[if_pos q8];exact⟨h.num,h.lst,fun hs=>h.risk (uD q6 _ hs)⟩
  ·cases h0
 rename_i q7;rw[if_neg q7];split at h0
 ·cases h0
 rename_i q8;rw[if_neg q8];split at h0
 ·cases h0
 rename_i q9;rw[if_neg q9];refine⟨fun k n hk=>?_,h.lst,fun hs=>h.risk (uD q6 _ hs)⟩;have mn:setF v.num f.key (ck (f.vals.getD 0 ⟨#[]⟩).data.toList).1 k=some n:=hk;unfold setF at mn;split at mn
 ·injection mn with mn
  subst mn;exact iw _
 ·exact h.num k n mn
theorem wM {kind:ByteArray}:∀{fs:List ar} {v:az},SH v→(eJ kind fs v).1.no=0→SH (eJ kind fs v).2
 | [],v,h,_=>h
 | f::l,v,h,h0=>by
  unfold eJ at h0 ⊢;split at h0
  ·rename_i q;exact absurd h0 q
  ·rename_i q;rw[if_neg q];exact wM (Oe h (ab2.1 q)) h0
structure BOk (b:bZ):Prop where
 n:RZ b.e
 prec:b.e.prec.length≤12
 cont:∀c∈b.e.cont,c.cands.length≤7
 vals:∀v∈b.vals,(v.s af).length≤12∧(v.s ax).length≤4
 risk:b.of aJ≠[]→∃x y:Nat,0<y∧x≤999999∧y≤999999∧b.e.risk=(eB false x y).raw
theorem zP:bW bP=12:=by kernel_rfl
theorem zR:bW bY=7:=by kernel_rfl
theorem D1:bW af=12:=by kernel_rfl
theorem zQ:bW ax=4:=by kernel_rfl
theorem KG {kind:ByteArray} {line:Int} {v:az} (h:(eP kind line v).no=0) (hk:kind=aJ):(v.ln bH).isSome=true:=by
 have hm:eP kind line v=if(aD kind).any (eZ v)=true then⟨6,line⟩ else jJ kind line v:=tT _ _ _ _
 rw[hm] at h;split at h
 ·cases h
 ·rename_i q;cases hs:(v.ln bH).isSome with
  | true=>rfl
  | false=>
   exfalso
   apply q;rw[acX];refine⟨bH,by rw[hk,D7];simp,?_⟩;unfold eZ;rw[hs,decide_eq_true (by decide:bH≠ay)];rfl
theorem FU {b:bZ} (h:BOk b) {kind nm:ByteArray} {v:az} (hv:SH v) (hr:kind=aJ→(v.ln bH).isSome=true):BOk (be kind nm v (b.named kind nm)):=by
 have PR:∀k,(be kind nm v (b.named kind nm)).of k=if k=kind then b.of kind++[nm] else b.of k:=fun k=>(ia kind nm v (b.named kind nm) k).trans (ib b kind nm k)
 have uD:kind≠aJ→(be kind nm v (b.named kind nm)).e.risk=b.e.risk→((be kind nm v (b.named kind nm)).of aJ≠[]→∃x y:Nat,0<y∧x≤999999∧y≤999999∧(be kind nm v (b.named kind nm)).e.risk=(eB false x y).raw):=fun hk he hn=>by
  rw[PR,if_neg (acp hk)] at hn;rw[he];exact h.risk hn
 have n:=h.n;have l1:=hv.s bP (by rw[zP];omega);have l2:=hv.s bY (by rw[zR];omega);have l3:=hv.s af (by rw[D1];omega);have l4:=hv.s ax (by rw[zQ];omega);rw[zP] at l1;rw[zR] at l2;rw[D1] at l3;rw[zQ] at l4;unfold be at uD ⊢;by_cases q1:kind=aH
 ·rw[if_pos q1] at uD ⊢;exact⟨{ n with dots:=hv.n _,blank:=hv.n _,marked:=hv.n _ },h.prec,h.cont,h.vals,uD (by rw[q1];decide) rfl⟩
 rw[if_neg q1] at uD ⊢;by_cases q2:kind=ak
 ·rw[if_pos q2] at uD ⊢;exact⟨{ n with scan:=hv.n _,batch:=hv.n _ },h.prec,h.cont,h.vals,uD (by rw[q2];decide) rfl⟩
 rw[if_neg q2] at uD ⊢;by_cases q3:kind=af
 ·rw[if_pos q3] at uD ⊢;exact⟨{ n with },by show(v.s bP).length≤12;omega,h.cont,h.vals,uD (by rw[q3];decide) rfl⟩
 rw[if_neg q3] at uD ⊢;by_cases q4:kind=ah
 ·rw[if_pos q4] at uD ⊢;refine⟨{ n with cont:=fun c hc=>?_ },h.prec,fun c hc=>?_,h.vals,uD (by rw[q4];decide) rfl⟩
  ·rcases abW.1 hc with hc|hc
   ·exact n.cont c hc
   ·rw[ab5] at hc;subst hc;exact⟨hv.n _,hv.n _,hv.n _⟩
  ·rcases abW.1 hc with hc|hc
   ·exact h.cont c hc
   ·rw[ab5] at hc;subst hc;show(v.s bY).length≤7;omega
 rw[if_neg q4] at uD ⊢;by_cases q5:kind=aC
 ·rw[if_pos q5] at uD ⊢;refine⟨{ n with },h.prec,h.cont,fun x hx=>?_,uD (by rw[q5];decide) rfl⟩;rcases abW.1 hx with hx|hx
  ·exact h.vals x hx
  ·rw[ab5] at hx;subst hx;exact⟨by omega,by omega⟩
 rw[if_neg q5] at uD ⊢;by_cases q6:kind=aJ
 ·rw[if_pos q6];refine⟨{ n with },h.prec,h.cont,h.vals,fun _=>hv.risk (hr q6)⟩
 rw[if_neg q6] at uD ⊢;by_cases q7:kind=aN
 ·rw[if_pos q7] at uD ⊢;exact⟨{ n with cell:=hv.n _ },h.prec,h.cont,h.vals,uD (by rw[q7];decide) rfl⟩
 rw[if_neg q7] at uD ⊢;exact⟨n,h.prec,h.cont,h.vals,uD q6 rfl⟩
theorem MZ:SH az.zero:=⟨fun _ _ h=>(by cases h),fun _ _ h=>(by cases h),fun h=>(by cases h)⟩
theorem Hl {b:bZ} (h:BOk b) (x:aw) (h0:(gr x b).1.no=0):BOk (gr x b).2:=by
 unfold gr at h0 ⊢;split at h0
 ·rename_i q;exact absurd h0 q
 rename_i q1;rw[if_neg q1];split at h0
 ·rename_i q;exact absurd h0 q
 rename_i q2;rw[if_neg q2];split at h0
 ·rename_i q;exact absurd h0 q
 rename_i q3;rw[if_neg q3];exact FU h (wM MZ (ab2.1 q2)) (fun hk=>KG (ab2.1 q3) hk)
theorem uN:∀{l:List aw} {b:bZ},BOk b→(di l b).1.no=0→BOk (di l b).2
 | [],b,h,_=>h
 | x::l,b,h,h0=>by
  unfold di at h0 ⊢;split at h0
  ·rename_i q;exact absurd h0 q
  ·rename_i q;rw[if_neg q];exact uN (Hl h x (ab2.1 q)) h0
theorem rT {prec:List ByteArray} {line:Int}:∀{l:List ByteArray} {used:List Bool} {ew:List Int} {r:List Bool×List Int},dG prec line l used ew=.ok r→r.2.length=ew.length+l.length
 | [],used,ew,r,h=>by
  unfold dG at h;injection h with h
  subst h;rfl
 | s::l,used,ew,r,h=>by
  unfold dG at h;split at h
  ·cases h
  split at h
  ·cases h
  ·have:=rT h;rw[this,aaD,abE,aaO];omega
theorem rU {cont:List ae} {line:Int}:∀{l:List ByteArray} {ew r:List Int},eg cont line l ew=.ok r→r.length=ew.length+l.length
 | [],ew,r,h=>by
  unfold eg at h;injection h with h
  subst h;rfl
 | s::l,ew,r,h=>by
  unfold eg at h;split at h
  ·cases h
  ·have:=rU h;rw[this,aaD,abE,aaO];omega
def RF (s:aj):Prop:=s.prec.length≤12∧s.cont.length≤4
theorem xp {prec:List ByteArray} {cont:List ae}:∀{vs:List az} {ss:List aj} {used:List Bool} {done r:List aj},(∀v∈vs,(v.s af).length≤12∧(v.s ax).length≤4)→(∀s∈done,RF s)→eK prec cont vs ss used done=.ok r→ (∀s∈r,RF s)∧r.length≤done.length+ss.length
 | [],ss,used,done,r,hv,hd,h=>by
  unfold eK at h;split at h
  ·cases h
  ·injection h with h
   subst h;exact⟨hd,by omega⟩
 | v::vs,[],used,done,r,hv,hd,h=>by
  unfold eK at h;split at h
  ·cases h
  ·injection h with h
   subst h;exact⟨hd,by omega⟩
 | v::vs,s::ss,used,done,r,hv,hd,h=>by
  rw[eK] at h;split at h
  ·cases h
  ·rename_i u ps hp;split at h
   ·cases h
   ·rename_i cs hc;have h1:=rT hp;have h2:=rU hc;have h3:=hv v (by simp);have h4:=xp (fun x hx=>hv x (by simp[hx])) (fun x hx=>by
     rcases abW.1 hx with hx|hx
     ·exact hd x hx
     ·rw[ab5] at hx;subst hx;have jj:ps.length=0+_:=h1;have CF:cs.length=0+_:=h2;exact⟨by show ps.length≤12;omega,by show cs.length≤4;omega⟩) h
    refine⟨h4.1,?_⟩;have h5:=h4.2;rw[aaD,abE] at h5;rw[aaO];omega
theorem ux {prec:List ByteArray} {line:Int}:∀{l:List ByteArray} {used:List Bool} {ew:List Int} {e:eE},dG prec line l used ew=.error e→e.no≠0
 | [],used,ew,e,h=>by unfold dG at h;cases h
 | s::l,used,ew,e,h=>by
  unfold dG at h;split at h
  ·injection h with h;subst h;simp
  split at h
  ·injection h with h;subst h;simp
  ·exact ux h
theorem uz {cont:List ae} {line:Int}:∀{l:List ByteArray} {ew:List Int} {e:eE},eg cont line l ew=.error e→e.no≠0
 | [],ew,e,h=>by unfold eg at h;cases h
 | s::l,ew,e,h=>by
  unfold eg at h;split at h
  ·injection h with h;subst h;simp
  ·exact uz h
theorem zK {prec:List ByteArray} {cont:List ae}:∀{vs:List az} {ss:List aj} {used:List Bool} {done:List aj} {e:eE},eK prec cont vs ss used done=.error e→e.no≠0
 | [],ss,used,done,e,h=>by
  unfold eK at h;split at h
  ·injection h with h;subst h;simp
  ·cases h
 | v::vs,[],used,done,e,h=>by
  unfold eK at h;split at h
  ·injection h with h;subst h;simp
  ·cases h
 | v::vs,s::ss,used,done,e,h=>by
  rw[eK] at h;split at h
  ·rename_i q hp;injection h with h
   subst h;exact ux hp
  ·split at h
   ·rename_i q hc;injection h with h
    subst h;exact uz hc
   ·exact zK h
structure agU (x:aa):Prop where
 n:RZ x
 prec:x.prec.length≤12
 cont:x.cont.length≤4
 styl:x.styl.length≤6
 cands:∀c∈x.cont,c.cands.length≤7
 sty:∀s∈x.styl,RF s
 risk:∃a b:Nat,0<b∧a≤999999∧b≤999999∧x.risk=(eB false a b).raw
theorem FY {title:ByteArray} (h:dN title 0 60≠false):qT (bZ.start title) (fe.start title):=by
 have fb:(fe.start title).f=⟨0,0⟩:=by
  show(⟨0,0⟩:eE).note _ 0=_;rw[if_neg (fun q=>h ((wv _).1 q))];rfl
 exact {
  f:=fb
  e:=rfl
  seen:=fun k=>rfl
  cs:=rfl
  ss:=rfl
  lc:=by show([]:List ae).length≤4;simp
  ls:=by show([]:List aj).length≤6;simp
  names:=rfl
  lines:=rfl
  z1:=fun _=>⟨rfl,rfl,rfl⟩
  z2:=fun _=>⟨rfl,rfl⟩
  z3:=fun _=>rfl
  z4:=fun _=>⟨rfl,rfl⟩
  z5:=fun _=>rfl }
theorem jt:Small 0:=⟨by omega,by omega⟩
theorem sH {s:cI} (h:(cX s).2.no=0):agU (cX s).1:=by
 unfold cX at h ⊢;split at h
 ·cases h
 rename_i h8;rw[if_neg h8];obtain⟨cK,cm⟩:=uj s.blocks (FY h8);have kR:=uN (l:=s.blocks) (b:=bZ.start s.title) ⟨⟨jt,jt,jt,jt,jt,jt,fun c hc=>by cases hc⟩,by show([]:List ByteArray).length≤12;simp,fun c hc=>(by cases hc),fun v hv=>(by cases hv),fun q=>absurd rfl q⟩;obtain⟨r,hr⟩:∃r,di s.blocks (bZ.start s.title)=r:=⟨_,rfl⟩;rw[hr] at cK cm kR h ⊢;split at h
 ·rename_i q;exact absurd h q
 rename_i h1;rw[if_neg h1];have hC:=cm (ab2.1 h1);have hO:=kR (ab2.1 h1);split at h
 ·cases h
 rename_i h6;rw[if_neg h6];have akU:r.2.of aJ≠[]:=fun e=>by
  apply h6;rw[acX];refine⟨aJ,?_,decide_eq_true e⟩;show aJ∈eQ;rw[←zV];unfold i9;simp
 have fU:r.2.e.styl.length≤6:=by rw[←hC.e];exact hC.ls
 have vn:r.2.e.cont.length≤4:=by rw[←hC.e];exact hC.lc
 cases hl:pQ r.2 with
 | error e=>rw[hl] at h;exact absurd h (zK hl)
 | ok l=>
  have hg:=xp (prec:=r.2.e.prec) (cont:=r.2.e.cont) hO.vals (fun s hs=>by cases hs) hl;exact⟨{ hO.n with },hO.prec,vn,by show l.length≤6;have:=hg.2;simp at this;omega,hO.cont,hg.1,hO.risk akU⟩
theorem tc {α:Type} {f:α→α→Bool} (hf:∀x y,f x y=true→x=y):∀{a b:List α},gU f a b=true→a=b
 | [],[],_=>rfl
 | [],_::_,h=>by cases h
 | _::_,[],h=>by cases h
 | x::a,y::b,h=>by
  unfold gU at h;rw[aaI] at h;rw[hf x y h.1,tc hf h.2]
theorem mK {α:Type} {f:α→α→Bool} (hf:∀x,f x x=true):∀a:List α,gU f a a=true
 | []=>rfl
 | x::a=>by unfold gU;rw[hf,mK hf a];rfl
theorem Dg (x y:ae) (h:bc x y=true):x=y:=by
 unfold bc at h;simp only[aaI,decide_eq_true_eq] at h;obtain⟨h1,h2,h3,h4,h5,h6,h7,h8,h9⟩:=h;cases x;cases y
 simp only at h1 h2 h3 h4 h5 h6 h7 h8 h9;subst h1 h2 h3 h4 h5 h6 h7 h8 h9;rfl
theorem wJ (x:ae):bc x x=true:=by unfold bc;simp
theorem Df (x y:aj) (h:bw x y=true):x=y:=by
 unfold bw at h;simp only[aaI,decide_eq_true_eq] at h;obtain⟨h1,h2,h3⟩:=h;cases x;cases y
 simp only at h1 h2 h3;subst h1 h2 h3;rfl
theorem wG (x:aj):bw x x=true:=by unfold bw;simp
theorem DN {A B C D:Nat} (hB:0<B) (hD:0<D) (h:A*D=C*B):eB false A B=eB false C D:=by
 unfold eB;by_cases hA:A=0
 ·have hC:C=0:=by
   rw[hA,adY] at h;rcases Nat.mul_eq_zero.1 h.symm with q|q
   ·exact q
   ·omega
  rw[if_pos (.inl hA),if_pos (.inl hC)]
 ·have hC:C≠0:=fun e=>by
   rw[e,adY] at h;rcases Nat.mul_eq_zero.1 h with q|q
   ·exact hA q
   ·omega
  rw[if_neg (by omega),if_neg (by omega)];have hg1:0<Nat.gcd A B:=Nat.gcd_pos_of_pos_right _ hB;have hg2:0<Nat.gcd C D:=Nat.gcd_pos_of_pos_right _ hD;have c1:Nat.Coprime (A/Nat.gcd A B) (B/Nat.gcd A B):=Nat.coprime_div_gcd_div_gcd hg1;have c2:Nat.Coprime (C/Nat.gcd C D) (D/Nat.gcd C D):=Nat.coprime_div_gcd_div_gcd hg2;have e1:A=A/Nat.gcd A B*Nat.gcd A B:=(adB (Nat.gcd_dvd_left A B)).symm;have e2:B=B/Nat.gcd A B*Nat.gcd A B:=(adB (Nat.gcd_dvd_right A B)).symm;have e3:C=C/Nat.gcd C D*Nat.gcd C D:=(adB (Nat.gcd_dvd_left C D)).symm;have e4:D=D/Nat.gcd C D*Nat.gcd C D:=(adB (Nat.gcd_dvd_right C D)).symm;generalize A/Nat.gcd A B=a at*;generalize B/Nat.gcd A B=b at*;generalize C/Nat.gcd C D=c at*;generalize D/Nat.gcd C D=d at*;generalize Nat.gcd A B=g1 at*;generalize Nat.gcd C D=g2 at*;have hx:a*d=c*b:=by
   rw[e1,e2,e3,e4] at h;have:a*d*(g1*g2)=c*b*(g1*g2):=by
    calc a*d*(g1*g2)=a*g1*(d*g2):=by rw[acF]
     _=c*g2*(b*g1):=h
     _=c*b*(g2*g1):=by rw[acF]
     _=c*b*(g1*g2):=by rw[ac5 g2 g1]
   exact adc (Nat.mul_pos hg1 hg2) this
  have d1:a∣c:=c1.dvd_of_dvd_mul_right (hx▸Nat.dvd_mul_right a d);have d2:c∣a:=c2.dvd_of_dvd_mul_right (hx.symm▸Nat.dvd_mul_right c b);have ea:a=c:=Nat.dvd_antisymm d1 d2;have ha:0<a:=by
   rcases acK a with q|q
   ·rw[q,adY] at e1;exact absurd e1 hA
   ·exact q
  subst ea;rw[Nat.eq_of_mul_eq_mul_left ha hx]
theorem Bm {r:Raw} (h:r.valid=true):r=r.q.raw:=by
 unfold Raw.valid at h;simp only[aaI,decide_eq_true_eq,beq_iff_eq] at h;obtain⟨h1,h2,h3⟩:=h;obtain⟨neg,num,den⟩:=r;unfold Q.raw;simp only at h1 h2 h3;rw[←h1,←h2,←h3]
theorem KF {A B:Nat} (hB:0<B) {r:Raw} (hv:r.valid=true) (hc:oK ((eB false A B).raw).q r.flip.q=0):r=(eB false A B).raw:=by
 have hr:=Bm hv;have WW:0<r.q.d:=by
  unfold Raw.q eB;split
  ·exact Nat.one_pos
  ·rename_i q;exact Nat.div_pos (Nat.gcd_le_right _ (by omega)) (Nat.gcd_pos_of_pos_right _ (by omega))
 have hd:val r.den=r.q.d:=by
  have h2:=congrArg Raw.den hr;rw[h2];exact bF _
 have hn:val r.num=r.q.n:=by
  have h2:=congrArg Raw.num hr;rw[h2];exact bF _
 have hD:0<val r.den:=by rw[hd];exact WW
 cases GJ:r.neg with
 | false=>
  have hq:r.q=eB false (val r.num) (val r.den):=by unfold Raw.q;rw[GJ]
  have hf:r.flip.q=(eB false (val r.num) (val r.den)).raw.flip.q:=by
   rw[←hq,←hr]
  rw[hf] at hc;have h1:¬pF (eB false A B) (eB false (val r.num) (val r.den))<0:=by unfold pF;rw[hc];omega
  have h2:¬0<pF (eB false A B) (eB false (val r.num) (val r.den)):=by unfold pF;rw[hc];omega
  rw[(mD _ _ hB hD).1] at h1;rw[(mD _ _ hB hD).2] at h2;rw[DN (A:=A) (C:=val r.num) hB hD (by omega),←hq];exact hr
 | true=>
  exfalso
  have hq:r.q=eB true (val r.num) (val r.den):=by unfold Raw.q;rw[GJ]
  have Z0:r.q.neg=true:=by
   have h2:=congrArg Raw.neg hr;rw[GJ] at h2;exact h2.symm
  have hA0:val r.num≠0:=fun e=>by
   rw[hq,(gb true hD).2,e] at Z0;simp at Z0
  have hfq:r.flip.q=eB false (val r.num) (val r.den):=by
   unfold Raw.flip Raw.q;simp only;rw[GJ];rfl
  rw[hfq] at hc;have p0:=iG false (A:=A) hB;have z0:=gb false (A:=A) hB;have e1:((eB false A B).raw).q=eB (eB false A B).neg (eB false A B).n (eB false A B).d:=Q.raw_q _;rw[e1,z0.2] at hc;obtain⟨a,ha⟩:∃a,eB false A B=a:=⟨_,rfl⟩;rw[ha] at hc p0;have z1:=gb false (A:=a.n) p0.1;have z2:=gb false (A:=val r.num) hD;have p1:=iG false (A:=a.n) p0.1;have p2:=iG false (A:=val r.num) hD;simp only[ac2] at hc z1 z2;obtain⟨p,hp⟩:∃p,eB false a.n a.d=p:=⟨_,rfl⟩;obtain⟨q,hqq⟩:∃q,eB false (val r.num) (val r.den)=q:=⟨_,rfl⟩;rw[hp] at z1 p1 hc;rw[hqq] at z2 p2 hc;have ae6:0<q.n:=Nat.pos_of_ne_zero fun e=>hA0 (z2.1.1 e);unfold oK yq at hc;rw[z1.2,z2.2] at hc;unfold qf at hc;rw[if_pos rfl] at hc;have hY:0<q.n*p.d:=Nat.mul_pos ae6 p1.1;have UT:0<p.d*q.d:=Nat.mul_pos p1.1 p2.1;have z3:=gb false (A:=p.n*q.d+q.n*p.d) UT;rw[z3.2] at hc;simp only[ac2,abs,if_false] at hc;rw[if_neg (fun e=>by have:=z3.1.1 e;omega)] at hc;cases hc
theorem KE {A B:Nat} (hB:0<B):oK ((eB false A B).raw).q ((eB false A B).raw).flip.q=0:=by
 have h1:=(mD A A hB hB).1;have h2:=(mD A A hB hB).2;unfold pF at h1 h2;have h3:¬A*B<A*B:=act _;have h4:¬oK ((eB false A B).raw).q ((eB false A B).raw).flip.q<0:=fun h=>h3 (h1.1 h);have h5:¬0<oK ((eB false A B).raw).q ((eB false A B).raw).flip.q:=fun h=>h3 (h2.1 h);omega
theorem Ga {A B:Nat} (hB:0<B):((eB false A B).raw).valid=true:=by
 have p0:=iG false (A:=A) hB;have z0:=gb false (A:=A) hB;have e1:((eB false A B).raw).q=eB false A B:=by
  rw[Q.raw_q,z0.2,ac2];exact DN p0.1 hB p0.2
 unfold Raw.valid;rw[e1];unfold Q.raw;simp
theorem vL {n:Nat} (h:n≤999999):(du n).length≤1:=gj (k:=1) (by simp;omega)
theorem Gb {A B:Nat} (hA:A≤999999) (hB:B≤999999):((eB false A B).raw).num.length≤1∧((eB false A B).raw).den.length≤1:=by
 unfold Q.raw eB;split
 ·exact⟨vL (by show 0≤999999;omega),vL (by show 1≤999999;omega)⟩
 ·exact⟨vL (aaM (Nat.div_le_self _ _) hA),vL (aaM (Nat.div_le_self _ _) hB)⟩
theorem valid_eq (e:aa):lD e=gn e:=by
 rw[acQ];constructor
 ·intro h;unfold lD at h;rw[yb] at h;simp only[aaI,decide_eq_true_eq] at h;obtain⟨_,h1,h2⟩:=h;have hg:=sH h1;obtain⟨x,hx⟩:∃x,(cX (eW e)).1=x:=⟨_,rfl⟩;rw[hx] at h2 hg;have he:x=e:=by
   unfold Vh at h2;simp only[aaI,decide_eq_true_eq] at h2;obtain⟨a1,a2,a3,a4,a5,a6,a7,a8,a9,a10,a11,a12,a13,a14⟩:=h2;have b1:=tc Dg a13;have b2:=tc Df a14;obtain⟨t,d,bl,m,p,c,s,sc,ba,⟨rn,ru,rd⟩,ce,se⟩:=x;obtain⟨t',d',bl',m',p',c',s',sc',ba',⟨rn',ru',rd'⟩,ce',se'⟩:=e;simp only at a1 a2 a3 a4 a5 a6 a7 a8 a9 a10 a11 a12 b1 b2;subst a1 a2 a3 a4 a5 a6 a7 a8 a9 a10 a11 a12 b1 b2;rfl
  have hs:=zj (he▸hg.n);unfold gn;rw[hs,hx,h1];obtain⟨A,B,hB,_,_,hr⟩:=hg.risk;have hre:e.risk=(eB false A B).raw:=by rw[←he];exact hr
  rw[hre,Ga hB];unfold kL;rw[he,hre,KE hB,mK wJ,mK wG];simp
 ·intro h;unfold gn at h;simp only[aaI,decide_eq_true_eq] at h;obtain⟨h1,h2,h3⟩:=h;have hg:=sH h1;obtain⟨x,hx⟩:∃x,(cX (eX e)).1=x:=⟨_,rfl⟩;rw[hx] at h3 hg;obtain⟨A,B,hB,hA9,hB9,hr⟩:=hg.risk;have he:x=e:=by
   unfold kL at h3;simp only[aaI,decide_eq_true_eq] at h3;obtain⟨a1,a2,a3,a4,a5,a6,a7,a8,a9,a10,a11,a12⟩:=h3;have b1:=tc Dg a6;have b2:=tc Df a7;rw[hr] at a10;have b3:=KF hB h2 a10;rw[←hr] at b3;obtain⟨t,d,bl,m,p,c,s,sc,ba,r,ce,se⟩:=x;obtain⟨t',d',bl',m',p',c',s',sc',ba',r',ce',se'⟩:=e;simp only at a1 a2 a3 a4 a5 a8 a9 a11 a12 b1 b2 b3;subst a1 a2 a3 a4 a5 a8 a9 a11 a12 b1 b2 b3;rfl
  have hs:=zj (he▸hg.n);rw[hs] at h1 hx;unfold lD;rw[yb,hx,h1,he];rw[he] at hg hr;have hsm:lH e=true:=by
   have hl:=Gb hA9 hB9;rw[←hr] at hl;unfold lH;simp only[aaI,decide_eq_true_eq,aaR];exact⟨hg.prec,hg.cont,hg.styl,hl.1,hl.2,hg.cands,fun s hs=>hg.sty s hs⟩
  rw[hsm];unfold Vh;rw[mK wJ,mK wG];simp
theorem L4 {n:Int}:dR (EG n):=by
 unfold EG;split
 ·exact bq (by decide)
 ·rename_i h;refine bq ?_;show(bJ n.toNat).toArray.size≤1000;rw[ab6,←AD,Lib.decDigits_length];have:=Lib.nDigits_le20 n.toNat (by omega);omega
theorem FJ {n:Int} {l:List ByteArray} (h:∀s∈l,s.size≤1000):dR (pO n l):=by
 refine bq ?_;unfold pO;split
 ·decide
 ·rw[aai];cases hh:l[n.toNat-1]? with
  | none=>decide
  | some s=>exact h s (ack hh)
theorem gR {k:ByteArray} {n:Int} (hk:k.size≤1000):yu (ez k n):=om hk L4
theorem pe {k:ByteArray} {n:Int} {l:List ByteArray} (hk:k.size≤1000) (h:∀s∈l,s.size≤1000):yu (gg k n l):=om hk (FJ h)
theorem Ch {x:ae} (h8:x.cands.length≤274877906944) (hn:dR x.name) (hc:∀s∈x.cands,dR s):il (em x):=by
 refine fE (abv rfl) hn ?_ ?_
 ·show([gg aM x.method eH,ez bb x.seats,ez bM x.ranks]++(if x.method=2 then[ez ay x.digits] else[])++[gg cT x.ties iR,gg aP x.over iT,gg cU x.skip iS,(⟨bY,x.cands,0⟩:ar)]).length≤1000;split<;>simp
 ·intro f hf;have hf':f∈[gg aM x.method eH,ez bb x.seats,ez bM x.ranks]++(if x.method=2 then[ez ay x.digits] else[])++[gg cT x.ties iR,gg aP x.over iT,gg cU x.skip iS,(⟨bY,x.cands,0⟩:ar)]:=hf;rcases abW.1 hf' with hf'|hf'
  ·rcases abW.1 hf' with hf'|hf'
   ·simp only[aaP,abL,or_false] at hf';rcases hf' with rfl|rfl|rfl
    ·exact pe (by decide) (by decide)
    ·exact gR (by decide)
    ·exact gR (by decide)
   ·split at hf'
    ·simp only[aaP,abL,or_false] at hf';subst hf';exact gR (by decide)
    ·cases hf'
  ·simp only[aaP,abL,or_false] at hf';rcases hf' with rfl|rfl|rfl|rfl
   ·exact pe (by decide) (by decide)
   ·exact pe (by decide) (by decide)
   ·exact pe (by decide) (by decide)
   ·exact o4 (by decide) hc h8
theorem Kl {e:aa} (h:dV e) (hs:df e):Fi (eW e):=by
 refine⟨hs.title,?_,fun x hx=>?_⟩
 ·have:=hs.len;simp only[eW,aaD,ace,aaO,abZ];omega
 ·have hx':x∈([(⟨aH,⟨#[]⟩,[ez cV e.dots,ez bi e.blank,ez aW e.marked],0⟩:aw),⟨ak,⟨#[]⟩,[ez bQ e.scan,ez bR e.batch],0⟩,⟨af,⟨#[]⟩,[⟨bP,e.prec,0⟩],0⟩]
   ++e.cont.map em++e.styl.map (fw e.prec (e.cont.map (·.name)))
   ++[⟨aJ,⟨#[]⟩,[⟨bH,[⟨(iC e.risk.q).toArray⟩],0⟩,⟨cz,[e.seed],0⟩],0⟩,⟨aN,⟨#[]⟩,[ez dm e.cell],0⟩]):=hx
  rcases abW.1 hx' with hx'|hx'
  ·rcases abW.1 hx' with hx'|hx'
   ·rcases abW.1 hx' with hx'|hx'
    ·simp only[aaP,abL,or_false] at hx';rcases hx' with rfl|rfl|rfl
     ·refine fE (abv rfl) (bq (abv rfl)) (by simp) fun f hf=>?_;simp only[aaP,abL,or_false] at hf;rcases hf with rfl|rfl|rfl
      ·exact gR (by decide)
      ·exact gR (by decide)
      ·exact gR (by decide)
     ·refine fE (abv rfl) (bq (abv rfl)) (by simp) fun f hf=>?_;simp only[aaP,abL,or_false] at hf;rcases hf with rfl|rfl
      ·exact gR (by decide)
      ·exact gR (by decide)
     ·refine fE (abv rfl) (bq (abv rfl)) (by simp) fun f hf=>?_;simp only[aaP,abL,or_false] at hf;subst hf;exact o4 (by decide) hs.prec h.lp
    ·obtain⟨c,hc,rfl⟩:=acC.1 hx';obtain⟨_,_,_,_,_,_,_,h8⟩:=h.conts c hc;exact Ch h8 (hs.cont c hc).1 (hs.cont c hc).2
   ·obtain⟨c,hc,rfl⟩:=acC.1 hx';refine wy (h.styls c hc) (hs.styl c hc) hs.prec fun s ZU=>?_;obtain⟨d,hd,rfl⟩:=acC.1 ZU;exact(hs.cont d hd).1
  ·simp only[aaP,abL,or_false] at hx';rcases hx' with rfl|rfl
   ·refine fE (abv rfl) (bq (abv rfl)) (by simp) fun f hf=>?_;simp only[aaP,abL,or_false] at hf;rcases hf with rfl|rfl
    ·exact om (by decide) (ww h.short)
    ·exact om (by decide) hs.seed
   ·refine fE (abv rfl) (bq (abv rfl)) (by simp) fun f hf=>?_;simp only[aaP,abL,or_false] at hf;subst hf;exact gR (by decide)
noncomputable def C13:ik Tryz.prog:=dE Wp [⟨_,_,_,Kq⟩,⟨_,_,_,F3⟩,⟨_,_,_,EP⟩,⟨_,_,_,aa1⟩] []
def vlT (e:aa):T XV:=.br (!(lH e)) (.lf (aB false)) (.nd (Jz e) (.nd (FZ (eW e)) (.br (decide ((gM (eW e)).2.no=0)) (.br true (.lf (aB (Vh (gM (eW e)).1 e))) (.lf (aB false))) (.br ((gM (eW e)).2.no==0) (.lf (aB (Vh .zero e))) (.lf (aB false))))))
theorem abb {e:aa} (h:lH e=true):Jz e:=by
 unfold lH at h;simp only[aaI,decide_eq_true_eq,aaR] at h;obtain⟨h1,h2,h3,h4,h5,h6,h7⟩:=h;have hn:val e.risk.num<4294967296:=abc (eI _) (by rw[show(4294967296:Nat)=4294967296^1 from rfl];exact acE (by decide) h4);have hd:val e.risk.den<4294967296:=abc (eI _) (by rw[show(4294967296:Nat)=4294967296^1 from rfl];exact acE (by decide) h5);obtain⟨q1,q2⟩:=OQ e.risk.neg (val e.risk.num) (val e.risk.den);have hb:(4294967296:Nat)≤2^200:=by decide
 exact⟨by omega,by omega,by omega,fun c hc=>aaM (h6 c hc) (by decide),fun y hy=>⟨aaM (h7 y hy).1 (by decide),aaM (h7 y hy).2 (by decide)⟩,⟨aaM h4 (by decide),aaM h5 (by decide)⟩,
  abc (Nat.lt_of_le_of_lt q1 hn) hb,abc (Nat.lt_of_le_of_lt q2 (by omega)) hb⟩
theorem Ta {s:cI} (h:Fi s):FZ s:=by
 obtain⟨h1,h2,h3⟩:=h;refine⟨aaM h1 (by decide),aaM h2 (by decide),fun b hb=>?_⟩;obtain⟨g1,g2,g3,g4⟩:=h3 b hb;exact⟨aaM g2 (by decide),aaM g3 (by decide),fun f hf=>⟨⟨fun s hs=>aaM ((g4 f hf).1.2.1 s hs) (by decide),(g4 f hf).1.2.2⟩,aaM g1 (by decide),aaM (g4 f hf).1.1 (by decide)⟩⟩
theorem Kd:av Tryz.prog 17 false (aU [(0,sE)] fun((e:aa),_)=>.nd (dV e∧df e) (.lf (aB (lD e)))):=
 bC (C:=C13) (nL _ _) false 99 [(0,sE)] (fun((e:aa),_)=>vlT e)
  (fun⟨(e:aa),_⟩ r _ ⟨⟨h1,h2⟩,h⟩=>by
   obtain rfl:aB (lD e)=r:=h;refine⟨?_,.inr rfl⟩;show(vlT e).hit _;unfold vlT lD;cases hs:lH e with
   | false=>exact aZ rfl rfl
   | true=>
    rw[acB];refine bh rfl ⟨abb hs,Ta (Kl h1 h2),?_⟩;by_cases hn:(gM (eW e)).2.no=0
    ·rw[decide_eq_true hn,acB];exact aZ rfl (aZ rfl rfl)
    ·rw[decide_eq_false hn,ac2];exact bh rfl (bh (beq_eq_false_iff_ne.2 hn) rfl)) Tryz.func17
end Go.Proofs.YtdbpbfglhbiadaaGreatDoor
