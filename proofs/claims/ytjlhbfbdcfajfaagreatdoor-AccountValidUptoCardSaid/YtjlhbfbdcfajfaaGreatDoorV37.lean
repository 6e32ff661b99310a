/- Law3 Law4 Okd -/
import Derived.Test.YtjlhbfbdcfajfaaGreatDoorV00
import Derived.Test.YtjlhbfbdcfajfaaGreatDoorV36
import Derived.Test.YtjlhbfbdcfajfaaGreatDoorV12
set_option maxHeartbeats 8000000
set_option maxRecDepth 100000
namespace Go.Proofs.YtjlhbfbdcfajfaaGreatDoor
open Go.RowKit
theorem Ce {kind nm:ByteArray} {b:cG} {v:aC} {x:cX} (h:cN kind nm b v x) (line:Int):∀(l:List ByteArray),(∀k∈l,k∈aJ kind)→ fR x.known x.c.method line l ⟨0,0⟩=if l.any (gy v)=true then⟨6,line⟩ else⟨0,0⟩
 | [],_=>rfl
 | k::l,hl=>by
  have hk:=hl k (by simp);have hm:k=az→x.c.method=v.n aM:=fun e=>by
   subst e;by_cases hc:kind=af
   ·have:=(h.c hc).1;have h2:=congrArg ah.method this;exact h2
   ·exfalso
    rcases mE hk with⟨_,q⟩|⟨_,q⟩|⟨_,q⟩|⟨q,_⟩|⟨_,q⟩|⟨_,q⟩|⟨_,q⟩
    ·revert q;decide
    ·revert q;decide
    ·revert q;decide
    ·exact hc q
    ·revert q;decide
    ·revert q;decide
    ·revert q;decide
  have CE:(bF x.known k=true∨(k=az∧x.c.method≠2))↔gy v k=false:=by
   unfold gy;rw[h.kn k];by_cases hd:k=az
   ·rw[hm hd];cases (v.ln k).isSome<;>simp[hd]
   ·cases (v.ln k).isSome<;>simp[hd]
  unfold fR;rw[if_neg (by simp)];cases hp:gy v k with
  | true=>
   rw[if_neg (by rw[CE,hp];simp),bY];have h6:bz 6 line=⟨6,line⟩:=rfl;rw[h6];have eM:∀q:List ByteArray,fR x.known x.c.method line q ⟨6,line⟩=⟨6,line⟩:=fun q=>by
    cases q with
    | nil=>rfl
    | cons _ _=>unfold fR;rw[if_pos (by simp)]
   rw[eM,adh,hp];rfl
  | false=>
   rw[if_pos (CE.2 hp),bY,qW,Ce h line l (fun q hq=>hl q (by simp[hq])),adh,hp,adc]
theorem sx (v:aC) (line:Int) (e:eB):∀l:List ByteArray,sA v line e l=if l.any (gy v)=true then⟨6,line⟩ else e
 | []=>rfl
 | k::l=>by
  unfold sA;rw[adh];cases hp:gy v k with
  | true=>simp
  | false=>rw[if_neg (by simp),sx v line e l,adc]
theorem vG (k:ByteArray):mD k=if k=af then true else if k=aD then true else false:=rfl
structure pZ (b:cG) (t:eO):Prop where
 f:t.f=⟨0,0⟩
 e:t.e=b.e
 seen:∀k,bF t.seen k=decide (b.of k≠[])
 cs:b.of af=t.e.cont.map (·.name)
 ss:b.of aD=t.e.styl.map (·.name)
 lc:t.e.cont.length≤4
 ls:t.e.styl.length≤6
 names:t.names=b.vals.map fun v=>(v.s ae,v.s ay)
 lines:t.lines=b.vals.map fun v=>(v.l ae,v.l ay)
 z1:b.of aP=[]→t.e.dots=0∧t.e.blank=0∧t.e.marked=0
 z2:b.of au=[]→t.e.scan=0∧t.e.batch=0
 z3:b.of ae=[]→t.e.prec=[]
 z4:b.of aO=[]→t.e.risk=⟨false,[],[]⟩∧t.e.seed=⟨#[]⟩
 z5:b.of aW=[]→t.e.cell=0
theorem Pz (l:List ah) (nm:ByteArray):(l.any fun c=>decide (c.name=nm))=Lib.containsS (l.map (·.name)) nm:=by
 rw[ac3,Lib.containsS_iff,adE];simp only[ac1,decide_eq_true_eq]
theorem KJ (l:List aw) (nm:ByteArray):(l.any fun c=>decide (c.name=nm))=Lib.containsS (l.map (·.name)) nm:=by
 rw[ac3,Lib.containsS_iff,adE];simp only[ac1,decide_eq_true_eq]
theorem Pw {s:ByteArray}:s.data.toList=[]↔s=⟨#[]⟩:=by
 constructor
 ·intro h;obtain⟨⟨l⟩⟩:=s;have:l=[]:=h;rw[this]
 ·rintro rfl;rfl
theorem head_eq {b:cG} {t:eO} (h:pZ b t) (kind nm:ByteArray):jS t kind nm=gA kind nm (b.of kind):=by
 unfold jS gA;by_cases h0:aJ kind=[]
 ·rw[if_pos h0,if_pos h0]
 rw[if_neg h0,if_neg h0];have hm:mD kind=iQ kind:=by
  rw[vG];unfold iQ;by_cases h1:kind=af
  ·rw[if_pos h1,decide_eq_true h1];rfl
  ·rw[if_neg h1,decide_eq_false h1];by_cases h2:kind=aD
   ·rw[if_pos h2,decide_eq_true h2];rfl
   ·rw[if_neg h2,decide_eq_false h2];rfl
 rw[hm];cases P9:iQ kind with
 | false=>
  have tw:kind≠af:=fun e=>by rw[e] at P9;revert P9;decide
  have gR:kind≠aD:=fun e=>by rw[e] at P9;revert P9;decide
  have hs:=h.seen kind;rw[if_neg (by simp),if_neg (by simp),if_neg (by simp),if_neg (by rintro(⟨q,_⟩|⟨q,_⟩);exact tw q;exact gR q),if_pos rfl];by_cases hn:nm≠⟨#[]⟩
  ·rw[if_pos ⟨rfl,hn⟩,if_pos hn]
  ·rw[if_neg (fun q=>hn q.2),if_neg hn,hs];by_cases hl:b.of kind≠[]
   ·rw[if_pos ⟨rfl,decide_eq_true hl⟩,if_pos (List.length_pos_iff.2 hl)]
   ·rw[if_neg (fun q=>hl (of_decide_eq_true q.2)),if_neg (fun q=>hl (List.length_pos_iff.1 q))]
 | true=>
  rw[if_neg (by simp:¬(true=false))];by_cases hn:nm=⟨#[]⟩
  ·rw[if_pos ⟨rfl,hn⟩,if_pos hn]
  ·rw[if_neg (fun q=>hn q.2),if_neg hn];have hw:=Qn (l:=nm.data.toList) (fun e=>hn (Pw.1 e));by_cases h8:iz nm.data.toList=false∨((nm.data.toList[0]?).getD 0).toNat<97∨24<nm.size
   ·rw[if_pos h8,if_pos ⟨rfl,by rcases h8 with q|q|q;exact .inl (hw.2 (.inl q));exact .inl (hw.2 (.inr q));exact .inr q⟩]
   ·rw[if_neg h8,if_neg (by
     rintro⟨_,q|q⟩
     ·rcases hw.1 q with q|q
      ·exact h8 (.inl q)
      ·exact h8 (.inr (.inl q))
     ·exact h8 (.inr (.inr q)))]
    have abR:(kind=af∧(t.e.cont.any fun c=>decide (c.name=nm))=true)∨(kind=aD∧(t.e.styl.any fun c=>decide (c.name=nm))=true)↔Lib.containsS (b.of kind) nm=true:=by
     rw[Pz,KJ,←h.cs,←h.ss];constructor
     ·rintro(⟨q,r⟩|⟨q,r⟩)<;>rw[q]<;>exact r
     ·intro r;by_cases q:kind=af
      ·left;rw[q] at r;exact⟨q,r⟩
      ·have q2:kind=aD:=by
        unfold iQ at P9;rw[decide_eq_false q,adc,decide_eq_true_eq] at P9;exact P9
       right;rw[q2] at r;exact⟨q2,r⟩
    have nZ:(kind=af∧4≤t.e.cont.length)∨(kind=aD∧6≤t.e.styl.length)↔((b.of kind).length:Int)=eg kind:=by
     have c1:eg af=4:=by kernel_rfl
     have c2:eg aD=6:=by kernel_rfl
     have l1:(b.of af).length=t.e.cont.length:=by rw[h.cs,acn]
     have l2:(b.of aD).length=t.e.styl.length:=by rw[h.ss,acn]
     have b1:=h.lc;have b2:=h.ls;by_cases q:kind=af
     ·subst q;rw[c1,l1];constructor
      ·rintro(⟨_,r⟩|⟨r,_⟩)
       ·omega
       ·exact absurd r (by decide)
      ·intro r;left;exact⟨rfl,by omega⟩
     ·have q2:kind=aD:=by
       unfold iQ at P9;rw[decide_eq_false q,adc,decide_eq_true_eq] at P9;exact P9
      subst q2;rw[c2,l2];constructor
      ·rintro(⟨r,_⟩|⟨_,r⟩)
       ·exact absurd r (by decide)
       ·omega
      ·intro r;right;exact⟨rfl,by omega⟩
    by_cases h3:Lib.containsS (b.of kind) nm=true
    ·rw[if_pos ⟨rfl,abR.2 h3⟩,if_pos h3]
    ·rw[if_neg (fun q=>h3 (abR.1 q.2)),if_neg h3];by_cases h7:((b.of kind).length:Int)=eg kind
     ·rw[if_pos (nZ.2 h7),if_pos h7]
     ·rw[if_neg (fun q=>h7 (nZ.1 q)),if_neg h7,if_neg (fun q=>by cases q.1),if_neg (fun q=>by cases q.1)]
theorem Ey {b:cG} {t:eO} (h:pZ b t) (x:av) (h0:gA x.kind x.name (b.of x.kind)=0):cN x.kind x.name (b.named x.kind x.name) aC.zero (cX.start t x):=by
 have hh:=head_eq h x.kind x.name;rw[h0] at hh;have hd:gA x.kind x.name (b.of x.kind)=0:=h0;have hof:x.kind≠af→x.kind≠aD→b.of x.kind=[]:=fun h1 h2=>by
  unfold gA at hd;by_cases hk:aJ x.kind=[]
  ·rw[if_pos hk] at hd;cases hd
  rw[if_neg hk,if_pos (by rw[vG,if_neg h1,if_neg h2])] at hd;split at hd
  ·cases hd
  split at hd
  ·cases hd
  ·rename_i q;exact acp.1 fun r=>q (List.length_pos_iff.2 r)
 exact {
  f:=by show t.f.note (jS t x.kind x.name) x.line=_;rw[hh,eZ,h.f]
  kn:=fun k=>by show bF [] k=(none:Option Int).isSome;rfl
  only:=fun k hk=>by cases hk
  e:=fun h1 h2=>by
   have ho:=hof h1 h2;show t.e=_;have hb:(b.named x.kind x.name).e=b.e:=rfl;unfold bE;obtain⟨kind,nm,fields,line⟩:=x;simp only at ho h1 h2 hb ⊢;by_cases q1:kind=aP
   ·subst q1;obtain⟨z1,z2,z3⟩:=h.z1 ho;rw[if_pos rfl,hb,←h.e];exact(show t.e={ t.e with dots:=t.e.dots,blank:=t.e.blank,marked:=t.e.marked } from rfl).trans (by rw[z1,z2,z3];rfl)
   rw[if_neg q1];by_cases q2:kind=au
   ·subst q2;obtain⟨z1,z2⟩:=h.z2 ho;rw[if_pos rfl,hb,←h.e];exact(show t.e={ t.e with scan:=t.e.scan,batch:=t.e.batch } from rfl).trans (by rw[z1,z2];rfl)
   rw[if_neg q2];by_cases q3:kind=ae
   ·subst q3;have z1:=h.z3 ho;rw[if_pos rfl,hb,←h.e];exact(show t.e={ t.e with prec:=t.e.prec } from rfl).trans (by rw[z1];rfl)
   rw[if_neg q3,if_neg h1,if_neg h2];by_cases q4:kind=aO
   ·subst q4;obtain⟨z1,z2⟩:=h.z4 ho;rw[if_pos rfl,hb,←h.e];exact(show t.e={ t.e with risk:=t.e.risk,seed:=t.e.seed } from rfl).trans (by rw[z1,z2];rfl)
   rw[if_neg q4];by_cases q5:kind=aW
   ·subst q5;have z1:=h.z5 ho;rw[if_pos rfl,hb,←h.e];exact(show t.e={ t.e with cell:=t.e.cell } from rfl).trans (by rw[z1];rfl)
   rw[if_neg q5,hb,h.e]
  e':=fun _=>h.e
  c:=fun _=>⟨rfl,rfl,rfl⟩
  c':=fun _=>rfl
  s:=fun _=>⟨rfl,rfl,rfl,rfl⟩ }
theorem gT (b:cG) (kind nm k:ByteArray):(b.named kind nm).of k=if k=kind then b.of kind++[nm] else b.of k:=by
 unfold cG.named cG.of setF;simp only;by_cases h:k=kind
 ·rw[if_pos h,if_pos h];rfl
 ·rw[if_neg h,if_neg h]
theorem gS (kind nm:ByteArray) (v:aC) (b:cG) (k:ByteArray):(bE kind nm v b).of k=b.of k:=by
 unfold bE
 repeat' split
 all_goals rfl
theorem rT {b:cG} {t:eO} (h:pZ b t) (kind nm:ByteArray) (v:aC) (k:ByteArray):bF (t.seen++[kind]) k=decide ((bE kind nm v (b.named kind nm)).of k≠[]):=by
 rw[gS,gT,yH,h.seen];by_cases hk:k=kind
 ·rw[if_pos hk,decide_eq_true hk,decide_eq_true (show b.of kind++[nm]≠[] by simp),Bool.or_true]
 ·rw[if_neg hk,decide_eq_false hk];simp
theorem Ew {kind:ByteArray} {fs:List ao} {x:cX} (h:x.f.no≠0):dJ kind fs x=x:=by
 cases fs with
 | nil=>rfl
 | cons f l=>unfold dJ;rw[if_pos h]
theorem yg {known:List ByteArray} {m line:Int} {l:List ByteArray} {f:eB} (h:f.no≠0):fR known m line l f=f:=by
 cases l with
 | nil=>rfl
 | cons k l=>unfold fR;rw[if_pos h]
theorem wF {t:eO} {x:av} {y:cX} (h:(fR y.known y.c.method x.line (aJ x.kind) y.f).no≠0):(ta t x y).f=fR y.known y.c.method x.line (aJ x.kind) y.f:=by
 unfold ta;simp only;rw[if_pos h]
theorem Kf {t:eO} {x:av} {y:cX} (h:fR y.known y.c.method x.line (aJ x.kind) y.f=⟨0,0⟩):ta t x y= if x.kind=af then { t with e:={ y.e with cont:=y.e.cont++[{ y.c with name:=x.name }] },f:=((⟨0,0⟩:eB).note (if bF y.known az=true∧y.c.method≠2 then 5 else 0) y.digits).note (if y.c.method=1∧1<y.c.seats then 4 else 0) y.seats,seen:=t.seen++[x.kind] } else if x.kind=aD then { t with e:={ y.e with styl:=y.e.styl++[⟨x.name,[],[]⟩] },f:=⟨0,0⟩,seen:=t.seen++[x.kind],names:=t.names++[(y.n0,y.n1)],lines:=t.lines++[(y.l0,y.l1)] } else if x.kind=aP∧y.e.marked<y.e.blank then { t with e:=y.e,f:=(⟨0,0⟩:eB).note 4 x.line,seen:=t.seen++[x.kind] } else { t with e:=y.e,f:=⟨0,0⟩,seen:=t.seen++[x.kind] }:=by
 unfold ta;simp only[h];rw[if_neg (by simp)];rfl
theorem CB {kind nm:ByteArray} {ns:List ByteArray} (h:gA kind nm ns=0) (hk:kind=af∨kind=aD):(ns.length:Int)≠eg kind:=by
 intro e;unfold gA at h;split at h
 ·cases h
 split at h
 ·rename_i _ q;rcases hk with rfl|rfl
  ·revert q;decide
  ·revert q;decide
 split at h
 ·cases h
 split at h
 ·cases h
 split at h
 ·cases h
 first|(cases h;done)|(rw[if_pos e] at h;cases h)
theorem J2 {kind nm:ByteArray} {ns:List ByteArray} (h:gA kind nm ns=0):kind=aP∨kind=au∨kind=ae∨kind=af∨kind=aD∨kind=aO∨kind=aW:=by
 have h0:aJ kind≠[]:=fun e=>by
  unfold gA at h;rw[if_pos e] at h;cases h
 obtain⟨k,hk⟩:=List.exists_mem_of_ne_nil _ h0;rcases mE hk with⟨q,_⟩|⟨q,_⟩|⟨q,_⟩|⟨q,_⟩|⟨q,_⟩|⟨q,_⟩|⟨q,_⟩
 ·exact .inl q
 ·exact .inr (.inl q)
 ·exact .inr (.inr (.inl q))
 ·exact .inr (.inr (.inr (.inl q)))
 ·exact .inr (.inr (.inr (.inr (.inl q))))
 ·exact .inr (.inr (.inr (.inr (.inr (.inl q)))))
 ·exact .inr (.inr (.inr (.inr (.inr (.inr q)))))
theorem JB {kind nm:ByteArray} {b:cG} {v:aC} {x:cX} (h:cN kind nm b v x) (hk:kind≠af):(v.ln az).isSome=false:=by
 cases hs:(v.ln az).isSome with
 | false=>rfl
 | true=>
  exfalso
  rcases mE (h.only _ hs) with⟨_,q⟩|⟨_,q⟩|⟨_,q⟩|⟨q,_⟩|⟨_,q⟩|⟨_,q⟩|⟨_,q⟩
  ·revert q;decide
  ·revert q;decide
  ·revert q;decide
  ·exact hk q
  ·revert q;decide
  ·revert q;decide
  ·revert q;decide
theorem kz {b:cG} {t:eO} (h:pZ b t) {kind nm:ByteArray} {v:aC} {e':aa} (h1:kind≠af) (h2:kind≠aD) (he:e'=(bE kind nm v (b.named kind nm)).e) (hc:e'.cont=b.e.cont) (hs:e'.styl=b.e.styl) (Bc:(bE kind nm v (b.named kind nm)).vals=b.vals) (z1:kind≠aP→e'.dots=b.e.dots∧e'.blank=b.e.blank∧e'.marked=b.e.marked) (z2:kind≠au→e'.scan=b.e.scan∧e'.batch=b.e.batch) (z3:kind≠ae→e'.prec=b.e.prec) (z4:kind≠aO→e'.risk=b.e.risk∧e'.seed=b.e.seed) (z5:kind≠aW→e'.cell=b.e.cell) : pZ (bE kind nm v (b.named kind nm)) { t with e:=e',f:=⟨0,0⟩,seen:=t.seen++[kind] }:=by
 have hz:∀k,(bE kind nm v (b.named kind nm)).of k=[]→kind≠k∧b.of k=[]:=fun k hk=>by
  rw[gS,gT] at hk;by_cases q:k=kind
  ·rw[if_pos q] at hk;simp at hk
  ·rw[if_neg q] at hk;exact⟨acJ q,hk⟩
 exact {
  f:=rfl
  e:=he
  seen:=fun k=>rT h kind nm v k
  cs:=by
   rw[gS,gT,if_neg (acJ h1),h.cs];show _=e'.cont.map _;rw[hc,h.e]
  ss:=by
   rw[gS,gT,if_neg (acJ h2),h.ss];show _=e'.styl.map _;rw[hs,h.e]
  lc:=by show e'.cont.length≤4;rw[hc,←h.e];exact h.lc
  ls:=by show e'.styl.length≤6;rw[hs,←h.e];exact h.ls
  names:=by rw[Bc];exact h.names
  lines:=by rw[Bc];exact h.lines
  z1:=fun k=>by
   obtain⟨q1,q2⟩:=hz _ k;have q3:=h.z1 q2;rw[h.e] at q3;obtain⟨a1,a2,a3⟩:=z1 q1;exact⟨a1.trans q3.1,a2.trans q3.2.1,a3.trans q3.2.2⟩
  z2:=fun k=>by
   obtain⟨q1,q2⟩:=hz _ k;have q3:=h.z2 q2;rw[h.e] at q3;obtain⟨a1,a2⟩:=z2 q1;exact⟨a1.trans q3.1,a2.trans q3.2⟩
  z3:=fun k=>by
   obtain⟨q1,q2⟩:=hz _ k;have q3:=h.z3 q2;rw[h.e] at q3;exact(z3 q1).trans q3
  z4:=fun k=>by
   obtain⟨q1,q2⟩:=hz _ k;have q3:=h.z4 q2;rw[h.e] at q3;obtain⟨a1,a2⟩:=z4 q1;exact⟨a1.trans q3.1,a2.trans q3.2⟩
  z5:=fun k=>by
   obtain⟨q1,q2⟩:=hz _ k;have q3:=h.z5 q2;rw[h.e] at q3;exact(z5 q1).trans q3 }
theorem EN {kind:ByteArray} {line:Int} {v:aC} (h:(kf kind line v).no=0):kf kind line v=⟨0,0⟩:=by
 unfold kf at h ⊢;split
 ·rename_i q;rw[if_pos q] at h;cases h
 split
 ·rename_i q1 q;rw[if_neg q1,if_pos q] at h;cases h
 split
 ·rename_i q1 q2 q;rw[if_neg q1,if_neg q2,if_pos q] at h;cases h
 ·rfl
theorem X1 {b:cG} {t:eO} (h:pZ b t) {x:av} (h0:gA x.kind x.name (b.of x.kind)=0) {v:aC} {y:cX} (hv:cN x.kind x.name (b.named x.kind x.name) v y) (hm:fR y.known y.c.method x.line (aJ x.kind) y.f=⟨0,0⟩) : (ta t x y).f=kf x.kind x.line v∧((kf x.kind x.line v).no=0→pZ (bE x.kind x.name v (b.named x.kind x.name)) (ta t x y)):=by
 rw[Kf hm];obtain⟨kind,nm,fields,line⟩:=x;simp only at h0 hv hm ⊢;have hz:∀k,(bE kind nm v (b.named kind nm)).of k=[]→kind≠k∧b.of k=[]:=fun k hk=>by
  rw[gS,gT] at hk;by_cases q:k=kind
  ·rw[if_pos q] at hk;simp at hk
  ·rw[if_neg q] at hk;exact⟨acJ q,hk⟩
 by_cases hc:kind=af
 ·subst hc;obtain⟨c1,c2,c3⟩:=hv.c rfl;have m1:y.c.method=v.n aM:=congrArg ah.method c1;have m2:y.c.seats=v.n bc:=congrArg ah.seats c1;have he:y.e=b.e:=hv.e' (.inl rfl);have nZ:=CB h0 (.inl rfl);have hc4:eg af=4:=by kernel_rfl
  have bM:(b.of af).length=t.e.cont.length:=by rw[h.cs,acn]
  have hlc:=h.lc;have c1:(⟨nm,y.c.cands,y.c.method,y.c.seats,y.c.ranks,y.c.digits,y.c.ties,y.c.over,y.c.skip⟩:ah)=cU nm v:=c1;rw[if_pos rfl,c1,hv.kn,m1,m2,c2,c3,he];refine⟨?_,fun hr=>?_⟩
  ·show((⟨0,0⟩:eB).note _ _).note _ _=_;unfold kf;by_cases p5:(v.ln az).isSome=true∧v.n aM≠2
   ·rw[if_pos p5,if_pos p5,bY,rU (by rw[qX];omega)];rfl
   ·rw[if_neg p5,if_neg p5,bY,qW,bY];by_cases p4:v.n aM=1∧1<v.n bc
    ·rw[if_pos p4,if_pos ⟨rfl,p4⟩];rfl
    ·rw[if_neg p4,if_neg (fun q=>p4 q.2),if_neg (fun q=>by revert q;exact fun q=>absurd q.1 (by decide))];rfl
  ·have eM:bE af nm v (b.named af nm)={ b.named af nm with e:={ b.e with cont:=b.e.cont++[cU nm v] } }:=by
    unfold bE;rw[if_neg (by decide),if_neg (by decide),if_neg (by decide),if_pos rfl];rfl
   have hf:((⟨0,0⟩:eB).note (if(v.ln az).isSome=true∧v.n aM≠2 then 5 else 0) (v.l az)).note (if v.n aM=1∧1<v.n bc then 4 else 0) (v.l bc)=⟨0,0⟩:=by
    unfold kf at hr;by_cases p5:(v.ln az).isSome=true∧v.n aM≠2
    ·rw[if_pos p5] at hr;cases hr
    ·rw[if_neg p5] at hr;rw[if_neg p5,bY,qW,bY];by_cases p4:v.n aM=1∧1<v.n bc
     ·rw[if_pos ⟨rfl,p4⟩] at hr;cases hr
     ·rw[if_neg p4];rfl
   exact {
    f:=hf
    e:=by rw[eM]
    seen:=fun k=>rT h af nm v k
    cs:=by
     rw[gS,gT,if_pos rfl,h.cs,h.e];show _=(b.e.cont++[cU nm v]).map _;rw[adp];rfl
    ss:=by
     rw[gS,gT,if_neg (by decide),h.ss,h.e]
    lc:=by
     show(b.e.cont++[cU nm v]).length≤4;rw[aa8,ab2,←h.e];rw[hc4,bM] at nZ;omega
    ls:=by show b.e.styl.length≤6;rw[←h.e];exact h.ls
    names:=by rw[eM];exact h.names
    lines:=by rw[eM];exact h.lines
    z1:=fun k=>by have q:=h.z1 (hz _ k).2;rw[h.e] at q;exact q
    z2:=fun k=>by have q:=h.z2 (hz _ k).2;rw[h.e] at q;exact q
    z3:=fun k=>by have q:=h.z3 (hz _ k).2;rw[h.e] at q;exact q
    z4:=fun k=>by have q:=h.z4 (hz _ k).2;rw[h.e] at q;exact q
    z5:=fun k=>by have q:=h.z5 (hz _ k).2;rw[h.e] at q;exact q }
 rw[if_neg hc];have JZ:=JB hv hc;have Hn:kf kind line v=if kind=aP∧v.n aZ<v.n bp then⟨4,line⟩ else⟨0,0⟩:=by
  unfold kf;rw[if_neg (by rw[JZ];simp),if_neg (fun q=>hc q.1)]
 rw[Hn];by_cases hs:kind=aD
 ·subst hs;obtain⟨s1,s2,s3,s4⟩:=hv.s rfl;have he:y.e=b.e:=hv.e' (.inr rfl);have nZ:=CB h0 (.inr rfl);have hc4:eg aD=6:=by kernel_rfl
  have bM:(b.of aD).length=t.e.styl.length:=by rw[h.ss,acn]
  have hls:=h.ls;rw[if_pos rfl,if_neg (fun q=>absurd q.1 (by decide)),s1,s2,s3,s4,he];refine⟨rfl,fun _=>?_⟩;have eM:bE aD nm v (b.named aD nm)={ b.named aD nm with e:={ b.e with styl:=b.e.styl++[⟨nm,[],[]⟩] },vals:=b.vals++[v] }:=by
   unfold bE;rw[if_neg (by decide),if_neg (by decide),if_neg (by decide),if_neg (by decide),if_pos rfl];rfl
  exact {
   f:=rfl
   e:=by rw[eM]
   seen:=fun k=>rT h aD nm v k
   cs:=by
    rw[gS,gT,if_neg (by decide),h.cs,h.e]
   ss:=by
    rw[gS,gT,if_pos rfl,h.ss,h.e];show _=(b.e.styl++[(⟨nm,[],[]⟩:aw)]).map _;rw[adp];rfl
   lc:=by show b.e.cont.length≤4;rw[←h.e];exact h.lc
   ls:=by
    show(b.e.styl++[(⟨nm,[],[]⟩:aw)]).length≤6;rw[aa8,ab2,←h.e];rw[hc4,bM] at nZ;omega
   names:=by
    rw[eM];show t.names++_=(b.vals++[v]).map _;rw[h.names,adp];rfl
   lines:=by
    rw[eM];show t.lines++_=(b.vals++[v]).map _;rw[h.lines,adp];rfl
   z1:=fun k=>by have q:=h.z1 (hz _ k).2;rw[h.e] at q;exact q
   z2:=fun k=>by have q:=h.z2 (hz _ k).2;rw[h.e] at q;exact q
   z3:=fun k=>by have q:=h.z3 (hz _ k).2;rw[h.e] at q;exact q
   z4:=fun k=>by have q:=h.z4 (hz _ k).2;rw[h.e] at q;exact q
   z5:=fun k=>by have q:=h.z5 (hz _ k).2;rw[h.e] at q;exact q }
 rw[if_neg hs];have he:=hv.e hc hs;have hb:(b.named kind nm).e=b.e:=rfl;have KX:(b.named kind nm).vals=b.vals:=rfl;by_cases q1:kind=aP
 ·subst q1;have eM:(bE aP nm v (b.named aP nm)).e={ b.e with dots:=v.n cZ,blank:=v.n bp,marked:=v.n aZ }:=by
   unfold bE;rw[if_pos rfl];rfl
  have e1:y.e.marked=v.n aZ:=by rw[he,eM]
  have e2:y.e.blank=v.n bp:=by rw[he,eM]
  rw[e1,e2];by_cases q:v.n aZ<v.n bp
  ·rw[if_pos ⟨rfl,q⟩,if_pos ⟨rfl,q⟩];exact⟨rfl,fun k=>by cases k⟩
  ·rw[if_neg (fun k=>q k.2),if_neg (fun k=>q k.2)];refine⟨rfl,fun _=>kz h hc hs he ?_ ?_ ?_ (fun k=>absurd rfl k) (fun _=>?_) (fun _=>?_) (fun _=>?_) (fun _=>?_)⟩
   all_goals first|(rw[he,eM];exact⟨rfl,rfl⟩)|(rw[he,eM])|(unfold bE;rw[if_pos rfl];rfl)
 rw[if_neg (fun k=>q1 k.1),if_neg (fun k=>q1 k.1)];refine⟨rfl,fun _=>?_⟩;rcases J2 h0 with rfl|rfl|rfl|rfl|rfl|rfl|rfl
 ·exact absurd rfl q1
 ·have eM:bE au nm v (b.named au nm)={ b.named au nm with e:={ b.e with scan:=v.n bV,batch:=v.n bW } }:=by
   unfold bE;rw[if_neg (by decide),if_pos rfl];rfl
  refine kz h hc hs he ?_ ?_ ?_ (fun _=>?_) (fun k=>absurd rfl k) (fun _=>?_) (fun _=>?_) (fun _=>?_)
  all_goals first|(rw[he,eM];exact⟨rfl,rfl,rfl⟩)|(rw[he,eM];exact⟨rfl,rfl⟩)|(rw[he,eM])|(rw[eM];rfl)
 ·have eM:bE ae nm v (b.named ae nm)={ b.named ae nm with e:={ b.e with prec:=v.s bU } }:=by
   unfold bE;rw[if_neg (by decide),if_neg (by decide),if_pos rfl];rfl
  refine kz h hc hs he ?_ ?_ ?_ (fun _=>?_) (fun _=>?_) (fun k=>absurd rfl k) (fun _=>?_) (fun _=>?_)
  all_goals first|(rw[he,eM];exact⟨rfl,rfl,rfl⟩)|(rw[he,eM];exact⟨rfl,rfl⟩)|(rw[he,eM])|(rw[eM];rfl)
 ·exact absurd rfl hc
 ·exact absurd rfl hs
 ·have eM:bE aO nm v (b.named aO nm)={ b.named aO nm with e:={ b.e with risk:=v.risk,seed:=v.seed } }:=by
   unfold bE;rw[if_neg (by decide),if_neg (by decide),if_neg (by decide),if_neg (by decide),if_neg (by decide),if_pos rfl];rfl
  refine kz h hc hs he ?_ ?_ ?_ (fun _=>?_) (fun _=>?_) (fun _=>?_) (fun k=>absurd rfl k) (fun _=>?_)
  all_goals first|(rw[he,eM];exact⟨rfl,rfl,rfl⟩)|(rw[he,eM];exact⟨rfl,rfl⟩)|(rw[he,eM])|(rw[eM];rfl)
 ·have eM:bE aW nm v (b.named aW nm)={ b.named aW nm with e:={ b.e with cell:=v.n dB } }:=by
   unfold bE;rw[if_neg (by decide),if_neg (by decide),if_neg (by decide),if_neg (by decide),if_neg (by decide),if_neg (by decide),if_pos rfl];rfl
  refine kz h hc hs he ?_ ?_ ?_ (fun _=>?_) (fun _=>?_) (fun _=>?_) (fun _=>?_) (fun k=>absurd rfl k)
  all_goals first|(rw[he,eM];exact⟨rfl,rfl,rfl⟩)|(rw[he,eM];exact⟨rfl,rfl⟩)|(rw[he,eM])|(rw[eM];rfl)
theorem Pf {b:cG} {t:eO} (h:pZ b t) (x:av):(fZ t x).f=(ig x b).1∧((ig x b).1.no=0→pZ (ig x b).2 (fZ t x)):=by
 unfold ig fZ;have hh:=head_eq h x.kind x.name;by_cases h0:gA x.kind x.name (b.of x.kind)≠0
 ·rw[if_pos h0];have hs:(cX.start t x).f=⟨gA x.kind x.name (b.of x.kind),x.line⟩:=by
   show t.f.note (jS t x.kind x.name) x.line=_;rw[hh,h.f,bY];unfold bz;rw[if_neg h0]
  have hn:(cX.start t x).f.no≠0:=by rw[hs];exact h0
  rw[Ew hn];have hm:fR (cX.start t x).known (cX.start t x).c.method x.line (aJ x.kind) (cX.start t x).f=(cX.start t x).f:=yg hn;refine⟨?_,fun q=>absurd q h0⟩;rw[wF (by rw[hm];exact hn),hm,hs]
 ·have h0:=acp.1 h0;rw[if_neg (by rw[h0];simp)];have hv:=Ey h x h0;obtain⟨s1,s2⟩:=Bq x.fields hv;obtain⟨r,hr⟩:∃r,eY x.kind x.fields aC.zero=r:=⟨_,rfl⟩;obtain⟨y,hy⟩:∃y,dJ x.kind x.fields (cX.start t x)=y:=⟨_,rfl⟩;rw[hr,hy] at s1 s2;rw[hr,hy];by_cases h1:r.1.no≠0
  ·rw[if_pos h1];have hn:y.f.no≠0:=by rw[s1];exact h1
   have hm:fR y.known y.c.method x.line (aJ x.kind) y.f=y.f:=yg hn;exact⟨by rw[wF (by rw[hm];exact hn),hm,s1],fun q=>absurd q h1⟩
  ·have hv:=s2 (acp.1 h1);rw[if_neg h1];have hm:=Ce hv x.line (aJ x.kind) (fun _ h=>h);rw[←hv.f] at hm;have hc:eH x.kind x.line r.2=if(aJ x.kind).any (gy r.2)=true then⟨6,x.line⟩ else kf x.kind x.line r.2:=sx _ _ _ _
   by_cases h6:(aJ x.kind).any (gy r.2)=true
   ·rw[if_pos h6] at hm hc;rw[hc,if_pos (by simp)];exact⟨by rw[wF (by rw[hm];simp),hm],fun q=>by cases q⟩
   ·rw[if_neg h6] at hm hc;rw[hv.f] at hm;rw[hc];have he:=X1 h h0 hv (by rw[hv.f];exact hm);by_cases h7:(kf x.kind x.line r.2).no≠0
    ·rw[if_pos h7];exact⟨he.1,fun q=>absurd q h7⟩
    ·rw[if_neg h7];have h8:=EN (acp.1 h7);exact⟨he.1.trans h8,fun _=>he.2 (by rw[h8])⟩
theorem td:∀(l:List av) {b:cG} {t:eO},pZ b t→(cY l t).f=(dO l b).1∧((dO l b).1.no=0→pZ (dO l b).2 (cY l t))
 | [],b,t,h=>⟨h.f,fun _=>h⟩
 | x::l,b,t,h=>by
  have hs:=Pf h x;unfold cY dO;rw[if_neg (by rw[h.f];simp)];by_cases h0:(ig x b).1.no≠0
  ·rw[if_pos h0];have hn:(fZ t x).f.no≠0:=by rw[hs.1];exact h0
   have eM:cY l (fZ t x)=fZ t x:=by
    cases l with
    | nil=>rfl
    | cons y l=>unfold cY;rw[if_pos hn]
   rw[eM];exact⟨hs.1,fun q=>absurd q h0⟩
  ·rw[if_neg h0];exact td l (hs.2 (acp.1 h0))
theorem qN (s:ByteArray):∀(l:List ah) (i:Nat),cA s l i=Lib.idxFromS (l.map (·.name)) s i
 | [],_=>rfl
 | c::l,i=>by
  unfold cA;rw[acq];unfold Lib.idxFromS;rw[qN s l (i+1)]
theorem Ci (cont:List ah) (line:Int):∀(l:List ByteArray) (fw:List Int),pH (cont.map (·.name)) line l fw=fo cont line l fw
 | [],_=>rfl
 | s::l,fw=>by
  unfold pH fo;have e:cA s cont 0=Lib.idxOfS (cont.map (·.name)) s:=qN s cont 0;rw[e,Ci cont line l]
theorem yl (prec:List ByteArray) (cont:List ah):∀(vs:List aC) (ss:List aw) (used:List Bool) (done:List aw), jr prec (cont.map (·.name)) (vs.map fun v=>(v.s ae,v.s ay)) (vs.map fun v=>(v.l ae,v.l ay)) ss used done=gQ prec cont vs ss used done
 | [],ss,used,done=>by
  unfold gQ;simp only[List.map_nil,jr]
 | v::vs,[],used,done=>by
  unfold gQ;simp only[acq,jr]
 | v::vs,s::ss,used,done=>by
  rw[acq,acq,jr,gQ];simp only;cases eI prec (v.l ae) (v.s ae) used [] with
  | error e=>rfl
  | ok r=>
   obtain⟨u,ps⟩:=r;simp only;rw[Ci];cases fo cont (v.l ay) (v.s ay) [] with
   | error e=>rfl
   | ok cs=>exact yl prec cont vs ss u _
theorem RI {b:cG} {t:eO} (h:pZ b t):kR t=o9 b:=by
 unfold kR o9;rw[h.names,h.lines,h.e];exact yl _ _ _ _ _ _
theorem oG {seen:List ByteArray}:∀(l:List ByteArray) {f:eB},f.no≠0→l.foldl (fun f k=>f.note (if bF seen k=true then 0 else 6) 0) f=f
 | [],f,_=>rfl
 | k::l,f,h=>by
  rw[adx,rU h];exact oG l h
theorem wD {b:cG} {t:eO} (h:pZ b t):∀l:List ByteArray,l.foldl (fun f k=>f.note (if bF t.seen k=true then 0 else 6) 0) (⟨0,0⟩:eB)=if l.any (fun k=>decide (b.of k=[]))=true then⟨6,0⟩ else⟨0,0⟩
 | []=>rfl
 | k::l=>by
  rw[adx,adh,h.seen];by_cases hk:b.of k=[]
  ·rw[decide_eq_false (by simp[hk]:¬b.of k≠[]),if_neg (by simp),bY,oG l (by rw[qX];omega),decide_eq_true hk];rfl
  ·rw[decide_eq_true hk,if_pos rfl,bY,qW,wD h l,decide_eq_false hk,adc]
theorem uR (s:ByteArray):(60<s.size∨fE s.data.toList=false)↔dE s 0 60=false:=by
 unfold dE;rw[decide_eq_true (by omega:(0:Int)≤(s.size:Int)),acc];cases fE s.data.toList with
 | false=>simp
 | true=>
  rw[acc,decide_eq_false_iff_not];constructor
  ·rintro(h|h)
   ·omega
   ·cases h
  ·intro h;left;omega
theorem yv:iR=fa:=by kernel_rfl
theorem wM (s:cJ):gB s=dw s:=by
 unfold gB dw;by_cases h8:dE s.title 0 60=false
 ·rw[if_pos h8];have eM:(eO.start s.title).f=⟨8,0⟩:=by
   show(⟨0,0⟩:eB).note _ 0=_;rw[if_pos ((uR _).2 h8)];rfl
  have hb:cY s.blocks (eO.start s.title)=eO.start s.title:=by
   cases s.blocks with
   | nil=>rfl
   | cons x l=>unfold cY;rw[if_pos (by rw[eM];simp)]
  have hf:(cF s).f=⟨8,0⟩:=by
   unfold cF;simp only;rw[hb,eM];exact oG _ (by simp)
  rw[hf,if_pos (by simp)]
 ·rw[if_neg h8];have eM:(eO.start s.title).f=⟨0,0⟩:=by
   show(⟨0,0⟩:eB).note _ 0=_;rw[if_neg (fun q=>h8 ((uR _).1 q))];rfl
  have Om:pZ (cG.start s.title) (eO.start s.title):={
   f:=eM
   e:=rfl
   seen:=fun k=>rfl
   cs:=rfl
   ss:=rfl
   lc:=by show([]:List ah).length≤4;simp
   ls:=by show([]:List aw).length≤6;simp
   names:=rfl
   lines:=rfl
   z1:=fun _=>⟨rfl,rfl,rfl⟩
   z2:=fun _=>⟨rfl,rfl⟩
   z3:=fun _=>rfl
   z4:=fun _=>⟨rfl,rfl⟩
   z5:=fun _=>rfl }
  obtain⟨cI,bZ⟩:=td s.blocks Om;obtain⟨r,hr⟩:∃r,dO s.blocks (cG.start s.title)=r:=⟨_,rfl⟩;obtain⟨t,ht⟩:∃t,cY s.blocks (eO.start s.title)=t:=⟨_,rfl⟩;rw[hr,ht] at cI bZ;have Oq:(cF s)={ t with f:=iR.foldl (fun f k=>f.note (if bF t.seen k=true then 0 else 6) 0) t.f }:=by
   unfold cF;simp only;rw[ht]
  rw[hr,Oq];by_cases h1:r.1.no≠0
  ·rw[if_pos h1];have hf:iR.foldl (fun f k=>f.note (if bF t.seen k=true then 0 else 6) 0) t.f=r.1:=by
    rw[cI];exact oG _ h1
   simp only[hf];rw[if_pos h1]
  ·rw[if_neg h1];have hC:=bZ (acp.1 h1);have hf:=wD hC fa;rw[hC.f,yv,hf];by_cases h6:fa.any (fun k=>decide (r.2.of k=[]))=true
   ·rw[if_pos h6,if_pos h6];rfl
   ·rw[if_neg h6,if_neg h6];have hl:kR { t with f:=(⟨0,0⟩:eB) }=o9 r.2:=RI (t:=t) hC;rw[hl];simp only[ne_eq,not_true_eq_false,if_false];cases o9 r.2 with
    | error e=>rfl
    | ok l=>rw[←hC.e]
theorem yU (n:Nat):Lib.decDigits n=bG n:=by
 have hz:∀m:Nat,0<m→Lib.decDigits m=(gj m).reverse:=by
  intro m;induction m using Nat.strongRecOn with
  | ind m ih=>
   intro hm;have e1:gj m=D8 m::gj (m/10):=by rw[gj,dif_neg (by omega)]
   rw[e1,ab6];by_cases h:m<10
   ·rw[Lib.decDigits_one h,show m/10=0 by omega,gJ];unfold D8;rw[Nat.mod_eq_of_lt h];rfl
   ·rw[Lib.decDigits,dif_neg h,ih (m/10) (by omega) (by omega)];rfl
 unfold bG;by_cases h:n=0
 ·rw[if_pos h,h,Lib.decDigits_one (by omega)];rfl
 ·rw[if_neg h];exact hz n (by omega)
def Small (n:Int):Prop:=0≤n∧n≤999999
theorem Ns {n:Int} (h:Small n):qL n=Dc n:=by
 obtain⟨k,rfl⟩:∃k:Nat,n=(k:Int):=⟨n.toNat,by have:=h.1;omega⟩;unfold qL Dc;rw[if_neg (by have:=h.2;omega)];unfold Lib.itoa;rw[if_neg (by omega),aaf,yU]
theorem FI (n:Int):jK aM n=fU aM n ew:=by
 unfold jK fU jt o7;rw[show bb aM=ew from by kernel_rfl]
theorem O7 (n:Int):jK cV n=fU cV n iH:=by
 unfold jK fU jt o7;rw[show bb cV=iH from by kernel_rfl]
theorem O9 (n:Int):jK aU n=fU aU n iJ:=by
 unfold jK fU jt o7;rw[show bb aU=iJ from by kernel_rfl]
theorem O8 (n:Int):jK cW n=fU cW n iI:=by
 unfold jK fU jt o7;rw[show bb cW=iI from by kernel_rfl]
theorem jY {k:ByteArray} {n:Int} (h:Small n):gw k n=dZ k n:=by unfold gw dZ;rw[Ns h]
def Vt (c:ah):Prop:=Small c.seats∧Small c.ranks∧Small c.digits
structure PQ (e:aa):Prop where
 dots:Small e.dots
 blank:Small e.blank
 marked:Small e.marked
 scan:Small e.scan
 batch:Small e.batch
 cell:Small e.cell
 cont:∀c∈e.cont,Vt c
theorem De {c:ah} (h:Vt c):eW c=dV c:=by
 unfold eW dV;rw[FI,O7,O9,O8,jY h.1,jY h.2.1,jY h.2.2]
theorem xS {e:aa} (h:PQ e):eL e=eK e:=by
 unfold eL eK;rw[jY h.dots,jY h.blank,jY h.marked,jY h.scan,jY h.batch,jY h.cell];have hc:e.cont.map eW=e.cont.map dV:=List.map_congr_left fun c hc=>De (h.cont c hc);rw[hc]
structure Qk (v:aC):Prop where
 num:∀k n,v.num k=some n→Small n
 lst:∀k xs,v.lst k=some xs→(xs.length:Int)≤dd k
 risk:(v.ln bJ).isSome=true→∃a b:Nat,0<b∧a≤999999∧b≤999999∧v.risk=(ek false a b).raw
theorem Qk.n {v:aC} (h:Qk v) (k:ByteArray):Small (v.n k):=by
 unfold aC.n;cases hn:v.num k with
 | none=>exact⟨by simp,by simp⟩
 | some n=>exact h.num k n hn
theorem Qk.s {v:aC} (h:Qk v) (k:ByteArray) (h0:0≤dd k):((v.s k).length:Int)≤dd k:=by
 unfold aC.s;cases hn:v.lst k with
 | none=>simpa using h0
 | some xs=>exact h.lst k xs hn
theorem vO {j1:Int}:∀{l pre:List ByteArray},fI j1 pre l=0→(pre.length:Int)≤j1→((pre.length+l.length:Nat):Int)≤j1
 | [],pre,_,h=>by simpa using h
 | s::r,pre,h,hp=>by
  unfold fI at h;split at h
  ·cases h
  split at h
  ·cases h
  split at h
  ·cases h
  ·rename_i h1 _ _;have:=vO h (by rw[aa8,ab2];omega);rw[aa8,ab2] at this;rw[abs];omega
theorem JJ {l:List ByteArray} {j1:Int} (h:eD l j1=0) (h0:0≤j1):(l.length:Int)≤j1:=by
 unfold eD at h;split at h
 ·cases h
 ·have:=vO h (by simpa using h0);simpa using this
theorem z8:dd bJ=0:=by kernel_rfl
theorem xL:bb bJ=[]:=by kernel_rfl
theorem Mn {kind:ByteArray} {f:ao} {v:aC} (h:Qk v) (h0:(aY kind f v).1=0):Qk (aY kind f v).2:=by
 unfold aY at h0 ⊢;split at h0
 ·cases h0
 rename_i q1;rw[if_neg q1];split at h0
 ·cases h0
 rename_i q2;rw[if_neg q2];have tv:f.key≠bJ→∀line:Int,(setF v.ln f.key line bJ).isSome=true→(v.ln bJ).isSome=true:=fun hk line hs=>by
  unfold setF at hs;rw[if_neg (acJ hk)] at hs;exact hs
 split at h0
 ·rename_i q3;rw[if_pos q3];have hl:=JJ h0 (by omega);exact⟨h.num,fun k xs hk=>by
   have nY:setF v.lst f.key f.vals k=some xs:=hk;unfold setF at nY;split at nY
   ·rename_i e;injection nY with nY
    subst nY;rw[e];exact hl
   ·exact h.lst k xs nY,fun hs=>h.risk (tv (fun e=>by rw[e,z8] at q3;omega) _ hs)⟩
 rename_i q3;rw[if_neg q3];split at h0
 ·cases h0
 rename_i q4;rw[if_neg q4];unfold xy at h0 ⊢;have XC:∀k s:ByteArray,0≤Lib.idxOfS (bb k) s+1∧Lib.idxOfS (bb k) s+1≤11:=fun k s=>by
  have:=tr k s;omega
 split at h0
 ·rename_i q5;rw[if_pos q5];refine⟨fun k n hk=>?_,h.lst,fun hs=>h.risk (tv (fun e=>q5 (by rw[e];exact xL)) _ hs)⟩;have nY:setF v.num f.key (Lib.idxOfS (bb f.key) (f.vals.getD 0 ⟨#[]⟩)+1) k=some n:=hk;unfold setF at nY;split at nY
  ·injection nY with nY
   subst nY;have:=XC f.key (f.vals.getD 0 ⟨#[]⟩);exact⟨by omega,by omega⟩
  ·exact h.num k n nY
 rename_i q5;rw[if_neg q5];split at h0
 ·rename_i q6;rw[if_pos q6];have hr:=BD (f.vals.getD 0 ⟨#[]⟩).data.toList;have tu:=hr.2 h0;rw[tu];refine⟨h.num,h.lst,fun _=>?_⟩;show∃a b:Nat,0<b∧a≤999999∧b≤999999∧(dP (f.vals.getD 0 ⟨#[]⟩).data.toList).2=(ek false a b).raw;have h1:(iK (f.vals.getD 0 ⟨#[]⟩).data.toList).1=0:=h0;obtain⟨l,hl⟩:∃l,(f.vals.getD 0 ⟨#[]⟩).data.toList=l:=⟨_,rfl⟩;rw[hl] at h1 tu ⊢;unfold iK at h1 tu;split at h1
  ·cases h1
  rename_i r1;rw[if_neg r1] at tu;split at h1
  ·cases h1
  rename_i r2;rw[if_neg r2] at tu;injection tu with tu
  obtain⟨a,ha⟩:=qA (dU l);obtain⟨b,hb⟩:=qA (dH l);have ra:=(ia (dU l)).2;have rb:=(ia (dH l)).2;rw[ha] at ra;rw[hb] at rb;refine⟨a,b,?_,by omega,by omega,?_⟩
  ·rw[hb] at r2;have:¬(b:Int)=0:=fun e=>r2 (.inl e);omega
  ·rw[←tu,ha,hb,oF]
 rename_i q6;rw[if_neg q6];split at h0
 ·rename_i q7;rw[if_pos q7];split at h0
  ·rename_i q8;rw[if_pos q8];exact⟨h.num,h.lst,fun hs=>h.risk (tv q6 _ hs)⟩
  ·cases h0
 rename_i q7;rw[if_neg q7];split at h0
 ·cases h0
 rename_i q8;rw[if_neg q8];split at h0
 ·cases h0
 rename_i q9;rw[if_neg q9];refine⟨fun k n hk=>?_,h.lst,fun hs=>h.risk (tv q6 _ hs)⟩;have nY:setF v.num f.key (cm (f.vals.getD 0 ⟨#[]⟩).data.toList).1 k=some n:=hk;unfold setF at nY;split at nY
 ·injection nY with nY
  subst nY;exact ia _
 ·exact h.num k n nY
theorem u9 {kind:ByteArray}:∀{fs:List ao} {v:aC},Qk v→(eY kind fs v).1.no=0→Qk (eY kind fs v).2
 | [],v,h,_=>h
 | f::l,v,h,h0=>by
  unfold eY at h0 ⊢;split at h0
  ·rename_i q;exact absurd h0 q
  ·rename_i q;rw[if_neg q];exact u9 (Mn h (acp.1 q)) h0
structure ZD (b:cG):Prop where
 n:PQ b.e
 prec:b.e.prec.length≤12
 cont:∀c∈b.e.cont,c.cands.length≤7
 vals:∀v∈b.vals,(v.s ae).length≤12∧(v.s ay).length≤4
 risk:b.of aO≠[]→∃x y:Nat,0<y∧x≤999999∧y≤999999∧b.e.risk=(ek false x y).raw
theorem yp:dd bU=12:=by kernel_rfl
theorem yr:dd cz=7:=by kernel_rfl
theorem Ck:dd ae=12:=by kernel_rfl
theorem yq:dd ay=4:=by kernel_rfl
theorem Jg {kind:ByteArray} {line:Int} {v:aC} (h:(eH kind line v).no=0) (hk:kind=aO):(v.ln bJ).isSome=true:=by
 have hm:eH kind line v=if(aJ kind).any (gy v)=true then⟨6,line⟩ else kf kind line v:=sx _ _ _ _
 rw[hm] at h;split at h
 ·cases h
 ·rename_i q;cases hs:(v.ln bJ).isSome with
  | true=>rfl
  | false=>
   exfalso
   apply q;rw[adE];refine⟨bJ,by rw[hk,Cp];simp,?_⟩;unfold gy;rw[hs,decide_eq_true (by decide:bJ≠az)];rfl
theorem Ev {b:cG} (h:ZD b) {kind nm:ByteArray} {v:aC} (hv:Qk v) (hr:kind=aO→(v.ln bJ).isSome=true):ZD (bE kind nm v (b.named kind nm)):=by
 have hof:∀k,(bE kind nm v (b.named kind nm)).of k=if k=kind then b.of kind++[nm] else b.of k:=fun k=>(gS kind nm v (b.named kind nm) k).trans (gT b kind nm k)
 have tv:kind≠aO→(bE kind nm v (b.named kind nm)).e.risk=b.e.risk→((bE kind nm v (b.named kind nm)).of aO≠[]→∃x y:Nat,0<y∧x≤999999∧y≤999999∧(bE kind nm v (b.named kind nm)).e.risk=(ek false x y).raw):=fun hk he hn=>by
  rw[hof,if_neg (acJ hk)] at hn;rw[he];exact h.risk hn
 have n:=h.n;have l1:=hv.s bU (by rw[yp];omega);have l2:=hv.s cz (by rw[yr];omega);have l3:=hv.s ae (by rw[Ck];omega);have l4:=hv.s ay (by rw[yq];omega);rw[yp] at l1;rw[yr] at l2;rw[Ck] at l3;rw[yq] at l4;unfold bE at tv ⊢;by_cases q1:kind=aP
 ·rw[if_pos q1] at tv ⊢;exact⟨{ n with dots:=hv.n _,blank:=hv.n _,marked:=hv.n _ },h.prec,h.cont,h.vals,tv (by rw[q1];decide) rfl⟩
 rw[if_neg q1] at tv ⊢;by_cases q2:kind=au
 ·rw[if_pos q2] at tv ⊢;exact⟨{ n with scan:=hv.n _,batch:=hv.n _ },h.prec,h.cont,h.vals,tv (by rw[q2];decide) rfl⟩
 rw[if_neg q2] at tv ⊢;by_cases q3:kind=ae
 ·rw[if_pos q3] at tv ⊢;exact⟨{ n with },by show(v.s bU).length≤12;omega,h.cont,h.vals,tv (by rw[q3];decide) rfl⟩
 rw[if_neg q3] at tv ⊢;by_cases q4:kind=af
 ·rw[if_pos q4] at tv ⊢;refine⟨{ n with cont:=fun c hc=>?_ },h.prec,fun c hc=>?_,h.vals,tv (by rw[q4];decide) rfl⟩
  ·rcases acb.1 hc with hc|hc
   ·exact n.cont c hc
   ·rw[acB] at hc;subst hc;exact⟨hv.n _,hv.n _,hv.n _⟩
  ·rcases acb.1 hc with hc|hc
   ·exact h.cont c hc
   ·rw[acB] at hc;subst hc;show(v.s cz).length≤7;omega
 rw[if_neg q4] at tv ⊢;by_cases q5:kind=aD
 ·rw[if_pos q5] at tv ⊢;refine⟨{ n with },h.prec,h.cont,fun x hx=>?_,tv (by rw[q5];decide) rfl⟩;rcases acb.1 hx with hx|hx
  ·exact h.vals x hx
  ·rw[acB] at hx;subst hx;exact⟨by omega,by omega⟩
 rw[if_neg q5] at tv ⊢;by_cases q6:kind=aO
 ·rw[if_pos q6];refine⟨{ n with },h.prec,h.cont,h.vals,fun _=>hv.risk (hr q6)⟩
 rw[if_neg q6] at tv ⊢;by_cases q7:kind=aW
 ·rw[if_pos q7] at tv ⊢;exact⟨{ n with cell:=hv.n _ },h.prec,h.cont,h.vals,tv (by rw[q7];decide) rfl⟩
 rw[if_neg q7] at tv ⊢;exact⟨n,h.prec,h.cont,h.vals,tv q6 rfl⟩
theorem Lp:Qk aC.zero:=⟨fun _ _ h=>(by cases h),fun _ _ h=>(by cases h),fun h=>(by cases h)⟩
theorem FQ {b:cG} (h:ZD b) (x:av) (h0:(ig x b).1.no=0):ZD (ig x b).2:=by
 unfold ig at h0 ⊢;split at h0
 ·rename_i q;exact absurd h0 q
 rename_i q1;rw[if_neg q1];split at h0
 ·rename_i q;exact absurd h0 q
 rename_i q2;rw[if_neg q2];split at h0
 ·rename_i q;exact absurd h0 q
 rename_i q3;rw[if_neg q3];exact Ev h (u9 Lp (acp.1 q2)) (fun hk=>Jg (acp.1 q3) hk)
theorem tG:∀{l:List av} {b:cG},ZD b→(dO l b).1.no=0→ZD (dO l b).2
 | [],b,h,_=>h
 | x::l,b,h,h0=>by
  unfold dO at h0 ⊢;split at h0
  ·rename_i q;exact absurd h0 q
  ·rename_i q;rw[if_neg q];exact tG (FQ h x (acp.1 q)) h0
theorem qH {prec:List ByteArray} {line:Int}:∀{l:List ByteArray} {used:List Bool} {fw:List Int} {r:List Bool×List Int},eI prec line l used fw=.ok r→r.2.length=fw.length+l.length
 | [],used,fw,r,h=>by
  unfold eI at h;injection h with h
  subst h;rfl
 | s::l,used,fw,r,h=>by
  unfold eI at h;split at h
  ·cases h
  split at h
  ·cases h
  ·have:=qH h;rw[this,aa8,ab2,abs];omega
theorem qI {cont:List ah} {line:Int}:∀{l:List ByteArray} {fw r:List Int},fo cont line l fw=.ok r→r.length=fw.length+l.length
 | [],fw,r,h=>by
  unfold fo at h;injection h with h
  subst h;rfl
 | s::l,fw,r,h=>by
  unfold fo at h;split at h
  ·cases h
  ·have:=qI h;rw[this,aa8,ab2,abs];omega
def PE (s:aw):Prop:=s.prec.length≤12∧s.cont.length≤4
theorem vQ {prec:List ByteArray} {cont:List ah}:∀{vs:List aC} {ss:List aw} {used:List Bool} {done r:List aw},(∀v∈vs,(v.s ae).length≤12∧(v.s ay).length≤4)→(∀s∈done,PE s)→gQ prec cont vs ss used done=.ok r→ (∀s∈r,PE s)∧r.length≤done.length+ss.length
 | [],ss,used,done,r,hv,hd,h=>by
  unfold gQ at h;split at h
  ·cases h
  ·injection h with h
   subst h;exact⟨hd,by omega⟩
 | v::vs,[],used,done,r,hv,hd,h=>by
  unfold gQ at h;split at h
  ·cases h
  ·injection h with h
   subst h;exact⟨hd,by omega⟩
 | v::vs,s::ss,used,done,r,hv,hd,h=>by
  rw[gQ] at h;split at h
  ·cases h
  ·rename_i u ps hp;split at h
   ·cases h
   ·rename_i cs hc;have h1:=qH hp;have h2:=qI hc;have h3:=hv v (by simp);have h4:=vQ (fun x hx=>hv x (by simp[hx])) (fun x hx=>by
     rcases acb.1 hx with hx|hx
     ·exact hd x hx
     ·rw[acB] at hx;subst hx;have i9:ps.length=0+_:=h1;have Bg:cs.length=0+_:=h2;exact⟨by show ps.length≤12;omega,by show cs.length≤4;omega⟩) h
    refine⟨h4.1,?_⟩;have h5:=h4.2;rw[aa8,ab2] at h5;rw[abs];omega
theorem tp {prec:List ByteArray} {line:Int}:∀{l:List ByteArray} {used:List Bool} {fw:List Int} {e:eB},eI prec line l used fw=.error e→e.no≠0
 | [],used,fw,e,h=>by unfold eI at h;cases h
 | s::l,used,fw,e,h=>by
  unfold eI at h;split at h
  ·injection h with h;subst h;simp
  split at h
  ·injection h with h;subst h;simp
  ·exact tp h
theorem tq {cont:List ah} {line:Int}:∀{l:List ByteArray} {fw:List Int} {e:eB},fo cont line l fw=.error e→e.no≠0
 | [],fw,e,h=>by unfold fo at h;cases h
 | s::l,fw,e,h=>by
  unfold fo at h;split at h
  ·injection h with h;subst h;simp
  ·exact tq h
theorem yk {prec:List ByteArray} {cont:List ah}:∀{vs:List aC} {ss:List aw} {used:List Bool} {done:List aw} {e:eB},gQ prec cont vs ss used done=.error e→e.no≠0
 | [],ss,used,done,e,h=>by
  unfold gQ at h;split at h
  ·injection h with h;subst h;simp
  ·cases h
 | v::vs,[],used,done,e,h=>by
  unfold gQ at h;split at h
  ·injection h with h;subst h;simp
  ·cases h
 | v::vs,s::ss,used,done,e,h=>by
  rw[gQ] at h;split at h
  ·rename_i q hp;injection h with h
   subst h;exact tp hp
  ·split at h
   ·rename_i q hc;injection h with h
    subst h;exact tq hc
   ·exact yk h
structure adj (x:aa):Prop where
 n:PQ x
 prec:x.prec.length≤12
 cont:x.cont.length≤4
 styl:x.styl.length≤6
 cands:∀c∈x.cont,c.cands.length≤7
 sty:∀s∈x.styl,PE s
 risk:∃a b:Nat,0<b∧a≤999999∧b≤999999∧x.risk=(ek false a b).raw
theorem Ez {title:ByteArray} (h:dE title 0 60≠false):pZ (cG.start title) (eO.start title):=by
 have eM:(eO.start title).f=⟨0,0⟩:=by
  show(⟨0,0⟩:eB).note _ 0=_;rw[if_neg (fun q=>h ((uR _).1 q))];rfl
 exact {
  f:=eM
  e:=rfl
  seen:=fun k=>rfl
  cs:=rfl
  ss:=rfl
  lc:=by show([]:List ah).length≤4;simp
  ls:=by show([]:List aw).length≤6;simp
  names:=rfl
  lines:=rfl
  z1:=fun _=>⟨rfl,rfl,rfl⟩
  z2:=fun _=>⟨rfl,rfl⟩
  z3:=fun _=>rfl
  z4:=fun _=>⟨rfl,rfl⟩
  z5:=fun _=>rfl }
theorem ji:Small 0:=⟨by omega,by omega⟩
theorem ri {s:cJ} (h:(dw s).2.no=0):adj (dw s).1:=by
 unfold dw at h ⊢;split at h
 ·cases h
 rename_i h8;rw[if_neg h8];obtain⟨cI,bZ⟩:=td s.blocks (Ez h8);have kD:=tG (l:=s.blocks) (b:=cG.start s.title) ⟨⟨ji,ji,ji,ji,ji,ji,fun c hc=>by cases hc⟩,by show([]:List ByteArray).length≤12;simp,fun c hc=>(by cases hc),fun v hv=>(by cases hv),fun q=>absurd rfl q⟩;obtain⟨r,hr⟩:∃r,dO s.blocks (cG.start s.title)=r:=⟨_,rfl⟩;rw[hr] at cI bZ kD h ⊢;split at h
 ·rename_i q;exact absurd h q
 rename_i h1;rw[if_neg h1];have hC:=bZ (acp.1 h1);have hO:=kD (acp.1 h1);split at h
 ·cases h
 rename_i h6;rw[if_neg h6];have ahv:r.2.of aO≠[]:=fun e=>by
  apply h6;rw[adE];refine⟨aO,?_,decide_eq_true e⟩;show aO∈fa;rw[←yv];unfold iR;simp
 have fJ:r.2.e.styl.length≤6:=by rw[←hC.e];exact hC.ls
 have uh:r.2.e.cont.length≤4:=by rw[←hC.e];exact hC.lc
 cases hl:o9 r.2 with
 | error e=>rw[hl] at h;exact absurd h (yk hl)
 | ok l=>
  have hg:=vQ (prec:=r.2.e.prec) (cont:=r.2.e.cont) hO.vals (fun s hs=>by cases hs) hl;exact⟨{ hO.n with },hO.prec,uh,by show l.length≤6;have:=hg.2;simp at this;omega,hO.cont,hg.1,hO.risk ahv⟩
theorem rC {α:Type} {f:α→α→Bool} (hf:∀x y,f x y=true→x=y):∀{a b:List α},gW f a b=true→a=b
 | [],[],_=>rfl
 | [],_::_,h=>by cases h
 | _::_,[],h=>by cases h
 | x::a,y::b,h=>by
  unfold gW at h;rw[aaO] at h;rw[hf x y h.1,rC hf h.2]
theorem mb {α:Type} {f:α→α→Bool} (hf:∀x,f x x=true):∀a:List α,gW f a a=true
 | []=>rfl
 | x::a=>by unfold gW;rw[hf,mb hf a];rfl
theorem BC (x y:ah) (h:bh x y=true):x=y:=by
 unfold bh at h;simp only[aaO,decide_eq_true_eq] at h;obtain⟨h1,h2,h3,h4,h5,h6,h7,h8,h9⟩:=h;cases x;cases y
 simp only at h1 h2 h3 h4 h5 h6 h7 h8 h9;subst h1 h2 h3 h4 h5 h6 h7 h8 h9;rfl
theorem u4 (x:ah):bh x x=true:=by unfold bh;simp
theorem BB (x y:aw) (h:bA x y=true):x=y:=by
 unfold bA at h;simp only[aaO,decide_eq_true_eq] at h;obtain⟨h1,h2,h3⟩:=h;cases x;cases y
 simp only at h1 h2 h3;subst h1 h2 h3;rfl
theorem uZ (x:aw):bA x x=true:=by unfold bA;simp
theorem Cc {A B C D:Nat} (hB:0<B) (hD:0<D) (h:A*D=C*B):ek false A B=ek false C D:=by
 unfold ek;by_cases hA:A=0
 ·have hC:C=0:=by
   rw[hA,Nat.zero_mul] at h;rcases Nat.mul_eq_zero.1 h.symm with q|q
   ·exact q
   ·omega
  rw[if_pos (.inl hA),if_pos (.inl hC)]
 ·have hC:C≠0:=fun e=>by
   rw[e,Nat.zero_mul] at h;rcases Nat.mul_eq_zero.1 h with q|q
   ·exact hA q
   ·omega
  rw[if_neg (by omega),if_neg (by omega)];have hg1:0<Nat.gcd A B:=Nat.gcd_pos_of_pos_right _ hB;have hg2:0<Nat.gcd C D:=Nat.gcd_pos_of_pos_right _ hD;have c1:Nat.Coprime (A/Nat.gcd A B) (B/Nat.gcd A B):=Nat.coprime_div_gcd_div_gcd hg1;have c2:Nat.Coprime (C/Nat.gcd C D) (D/Nat.gcd C D):=Nat.coprime_div_gcd_div_gcd hg2;have e1:A=A/Nat.gcd A B*Nat.gcd A B:=(adL (Nat.gcd_dvd_left A B)).symm;have e2:B=B/Nat.gcd A B*Nat.gcd A B:=(adL (Nat.gcd_dvd_right A B)).symm;have e3:C=C/Nat.gcd C D*Nat.gcd C D:=(adL (Nat.gcd_dvd_left C D)).symm;have e4:D=D/Nat.gcd C D*Nat.gcd C D:=(adL (Nat.gcd_dvd_right C D)).symm;generalize A/Nat.gcd A B=a at*;generalize B/Nat.gcd A B=b at*;generalize C/Nat.gcd C D=c at*;generalize D/Nat.gcd C D=d at*;generalize Nat.gcd A B=g1 at*;generalize Nat.gcd C D=g2 at*;have hx:a*d=c*b:=by
   rw[e1,e2,e3,e4] at h;have:a*d*(g1*g2)=c*b*(g1*g2):=by
    calc a*d*(g1*g2)=a*g1*(d*g2):=by rw[adb]
     _=c*g2*(b*g1):=h
     _=c*b*(g2*g1):=by rw[adb]
     _=c*b*(g1*g2):=by rw[ady g2 g1]
   exact adC (Nat.mul_pos hg1 hg2) this
  have d1:a∣c:=c1.dvd_of_dvd_mul_right (hx▸Nat.dvd_mul_right a d);have d2:c∣a:=c2.dvd_of_dvd_mul_right (hx.symm▸Nat.dvd_mul_right c b);have ea:a=c:=Nat.dvd_antisymm d1 d2;have ha:0<a:=by
   rcases adg a with q|q
   ·rw[q,Nat.zero_mul] at e1;exact absurd e1 hA
   ·exact q
  subst ea;rw[Nat.eq_of_mul_eq_mul_left ha hx]
theorem zG {r:Raw} (h:r.valid=true):r=r.q.raw:=by
 unfold Raw.valid at h;simp only[aaO,decide_eq_true_eq,beq_iff_eq] at h;obtain⟨h1,h2,h3⟩:=h;obtain⟨neg,num,den⟩:=r;unfold Q.raw;simp only at h1 h2 h3;rw[←h1,←h2,←h3]
theorem Jf {A B:Nat} (hB:0<B) {r:Raw} (hv:r.valid=true) (hc:oe ((ek false A B).raw).q r.flip.q=0):r=(ek false A B).raw:=by
 have hr:=zG hv;have UJ:0<r.q.d:=by
  unfold Raw.q ek;split
  ·exact Nat.one_pos
  ·rename_i q;exact Nat.div_pos (Nat.gcd_le_right _ (by omega)) (Nat.gcd_pos_of_pos_right _ (by omega))
 have hd:val r.den=r.q.d:=by
  have h2:=congrArg Raw.den hr;rw[h2];exact bC _
 have hn:val r.num=r.q.n:=by
  have h2:=congrArg Raw.num hr;rw[h2];exact bC _
 have hD:0<val r.den:=by rw[hd];exact UJ
 cases Fi:r.neg with
 | false=>
  have hq:r.q=ek false (val r.num) (val r.den):=by unfold Raw.q;rw[Fi]
  have hf:r.flip.q=(ek false (val r.num) (val r.den)).raw.flip.q:=by
   rw[←hq,←hr]
  rw[hf] at hc;have h1:¬oZ (ek false A B) (ek false (val r.num) (val r.den))<0:=by unfold oZ;rw[hc];omega
  have h2:¬0<oZ (ek false A B) (ek false (val r.num) (val r.den)):=by unfold oZ;rw[hc];omega
  rw[(lV _ _ hB hD).1] at h1;rw[(lV _ _ hB hD).2] at h2;rw[Cc (A:=A) (C:=val r.num) hB hD (by omega),←hq];exact hr
 | true=>
  exfalso
  have hq:r.q=ek true (val r.num) (val r.den):=by unfold Raw.q;rw[Fi]
  have W7:r.q.neg=true:=by
   have h2:=congrArg Raw.neg hr;rw[Fi] at h2;exact h2.symm
  have hA0:val r.num≠0:=fun e=>by
   rw[hq,(fQ true hD).2,e] at W7;simp at W7
  have hfq:r.flip.q=ek false (val r.num) (val r.den):=by
   unfold Raw.flip Raw.q;simp only;rw[Fi];rfl
  rw[hfq] at hc;have p0:=iw false (A:=A) hB;have z0:=fQ false (A:=A) hB;have e1:((ek false A B).raw).q=ek (ek false A B).neg (ek false A B).n (ek false A B).d:=Q.raw_q _;rw[e1,z0.2] at hc;obtain⟨a,ha⟩:∃a,ek false A B=a:=⟨_,rfl⟩;rw[ha] at hc p0;have z1:=fQ false (A:=a.n) p0.1;have z2:=fQ false (A:=val r.num) hD;have p1:=iw false (A:=a.n) p0.1;have p2:=iw false (A:=val r.num) hD;simp only[acx] at hc z1 z2;obtain⟨p,hp⟩:∃p,ek false a.n a.d=p:=⟨_,rfl⟩;obtain⟨q,hqq⟩:∃q,ek false (val r.num) (val r.den)=q:=⟨_,rfl⟩;rw[hp] at z1 p1 hc;rw[hqq] at z2 p2 hc;have abm:0<q.n:=Nat.pos_of_ne_zero fun e=>hA0 (z2.1.1 e);unfold oe wZ at hc;rw[z1.2,z2.2] at hc;unfold pp at hc;rw[if_pos rfl] at hc;have hY:0<q.n*p.d:=Nat.mul_pos abm p1.1;have Sx:0<p.d*q.d:=Nat.mul_pos p1.1 p2.1;have z3:=fQ false (A:=p.n*q.d+q.n*p.d) Sx;rw[z3.2] at hc;simp only[acx,abC,if_false] at hc;rw[if_neg (fun e=>by have:=z3.1.1 e;omega)] at hc;cases hc
theorem Je {A B:Nat} (hB:0<B):oe ((ek false A B).raw).q ((ek false A B).raw).flip.q=0:=by
 have h1:=(lV A A hB hB).1;have h2:=(lV A A hB hB).2;unfold oZ at h1 h2;have h3:¬A*B<A*B:=acQ _;have h4:¬oe ((ek false A B).raw).q ((ek false A B).raw).flip.q<0:=fun h=>h3 (h1.1 h);have h5:¬0<oe ((ek false A B).raw).q ((ek false A B).raw).flip.q:=fun h=>h3 (h2.1 h);omega
theorem EK {A B:Nat} (hB:0<B):((ek false A B).raw).valid=true:=by
 have p0:=iw false (A:=A) hB;have z0:=fQ false (A:=A) hB;have e1:((ek false A B).raw).q=ek false A B:=by
  rw[Q.raw_q,z0.2,acx];exact Cc p0.1 hB p0.2
 unfold Raw.valid;rw[e1];unfold Q.raw;simp
theorem ux {n:Nat} (h:n≤999999):(dc n).length≤1:=fW (k:=1) (by simp;omega)
theorem EL {A B:Nat} (hA:A≤999999) (hB:B≤999999):((ek false A B).raw).num.length≤1∧((ek false A B).raw).den.length≤1:=by
 unfold Q.raw ek;split
 ·exact⟨ux (by show 0≤999999;omega),ux (by show 1≤999999;omega)⟩
 ·exact⟨ux (aa7 (Nat.div_le_self _ _) hA),ux (aa7 (Nat.div_le_self _ _) hB)⟩
theorem valid_eq (e:aa):nC e=jf e:=by
 rw[ac3];constructor
 ·intro h;unfold nC at h;rw[wM] at h;simp only[aaO,decide_eq_true_eq] at h;obtain⟨_,h1,h2⟩:=h;have hg:=ri h1;obtain⟨x,hx⟩:∃x,(dw (eK e)).1=x:=⟨_,rfl⟩;rw[hx] at h2 hg;have he:x=e:=by
   unfold Tc at h2;simp only[aaO,decide_eq_true_eq] at h2;obtain⟨a1,a2,a3,a4,a5,a6,a7,a8,a9,Yz,Yy,Yx,a13,a14⟩:=h2;have b1:=rC BC a13;have b2:=rC BB a14;obtain⟨t,d,bl,m,p,c,s,sc,ba,⟨rn,ru,rd⟩,ce,se⟩:=x;obtain⟨t',d',bl',m',p',c',s',sc',ba',⟨rn',ru',rd'⟩,ce',se'⟩:=e;simp only at a1 a2 a3 a4 a5 a6 a7 a8 a9 Yz Yy Yx b1 b2;subst a1 a2 a3 a4 a5 a6 a7 a8 a9 Yz Yy Yx b1 b2;rfl
  have hs:=xS (he▸hg.n);unfold jf;rw[hs,hx,h1];obtain⟨A,B,hB,_,_,hr⟩:=hg.risk;have hre:e.risk=(ek false A B).raw:=by rw[←he];exact hr
  rw[hre,EK hB];unfold lv;rw[he,hre,Je hB,mb u4,mb uZ];simp
 ·intro h;unfold jf at h;simp only[aaO,decide_eq_true_eq] at h;obtain⟨h1,h2,h3⟩:=h;have hg:=ri h1;obtain⟨x,hx⟩:∃x,(dw (eL e)).1=x:=⟨_,rfl⟩;rw[hx] at h3 hg;obtain⟨A,B,hB,hA9,hB9,hr⟩:=hg.risk;have he:x=e:=by
   unfold lv at h3;simp only[aaO,decide_eq_true_eq] at h3;obtain⟨a1,a2,a3,a4,a5,a6,a7,a8,a9,Yz,Yy,Yx⟩:=h3;have b1:=rC BC a6;have b2:=rC BB a7;rw[hr] at Yz;have b3:=Jf hB h2 Yz;rw[←hr] at b3;obtain⟨t,d,bl,m,p,c,s,sc,ba,r,ce,se⟩:=x;obtain⟨t',d',bl',m',p',c',s',sc',ba',r',ce',se'⟩:=e;simp only at a1 a2 a3 a4 a5 a8 a9 Yy Yx b1 b2 b3;subst a1 a2 a3 a4 a5 a8 a9 Yy Yx b1 b2 b3;rfl
  have hs:=xS (he▸hg.n);rw[hs] at h1 hx;unfold nC;rw[wM,hx,h1,he];rw[he] at hg hr;have hsm:ll e=true:=by
   have hl:=EL hA9 hB9;rw[←hr] at hl;unfold ll;simp only[aaO,decide_eq_true_eq,abq];exact⟨hg.prec,hg.cont,hg.styl,hl.1,hl.2,hg.cands,fun s hs=>hg.sty s hs⟩
  rw[hsm];unfold Tc;rw[mb u4,mb uZ];simp
def D9 (v:Int):Prop:= -9223372036854775808≤v∧v≤9223372036854775807
def ow (x:ah):Prop:=D9 x.method∧D9 x.seats∧D9 x.ranks∧D9 x.digits∧D9 x.ties∧D9 x.over∧D9 x.skip∧x.cands.length≤274877906944
structure ga (e:aa):Prop where
 dots:D9 e.dots
 blank:D9 e.blank
 marked:D9 e.marked
 scan:D9 e.scan
 batch:D9 e.batch
 cell:D9 e.cell
 conts:∀x∈e.cont,ow x
 styls:∀x∈e.styl,x.prec.length≤274877906944∧x.cont.length≤274877906944
 lc:e.cont.length≤34359738368
 ls:e.styl.length≤34359738367
 lp:e.prec.length≤274877906944
 short:e.risk.short 67108864
def II (f:ao):Prop:=dI f.key∧(∀s∈f.vals,dI s)∧f.vals.length≤1099511627776
def gZ (x:av):Prop:=dI x.kind∧dI x.name∧x.fields.length≤274877906944∧∀f∈x.fields,II f∧f.vals.length≤274877906944
def DO (s:cJ):Prop:=dI s.title∧s.blocks.length≤68719476736∧∀x∈s.blocks,gZ x
end Go.Proofs.YtjlhbfbdcfajfaaGreatDoor
