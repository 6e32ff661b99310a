/- Law3 Law4 Ref38 Tm18 -/
import Derived.Test.YtdbpbfglhbiadaaGreatDoorF00
import Derived.Test.YtdbpbfglhbiadaaGreatDoorF38
import Derived.Test.YtdbpbfglhbiadaaGreatDoorF34
import Derived.Test.YtdbpbfglhbiadaaGreatDoorF37
set_option maxHeartbeats 8000000
set_option maxRecDepth 100000
namespace Go.Proofs.YtdbpbfglhbiadaaGreatDoor
open Go.RowKit Go
theorem AY {kind nm:ByteArray} {b:cm} {v:aF} {x:dT} (h:mO kind nm b v x) (line:Int):∀(l:List ByteArray),(∀k∈l,k∈aJ kind)-> fh x.known x.c.method line l ⟨0,0⟩=if l.any (d9 v)=true then⟨6,line⟩ else⟨0,0⟩
 | [],_=>rfl
 | k::l,hl=>by
  have hk:=hl k (by simp);have hm:k=aC->x.c.method=v.n be:=λe=>by
   subst e;by_cases hc:kind=aj
   ·have:=(h.c hc).1;have h2:=congrArg ae.method this;exact h2
   ·exfalso
    rcases lh hk with⟨_,q⟩|⟨_,q⟩|⟨_,q⟩|⟨q,_⟩|⟨_,q⟩|⟨_,q⟩|⟨_,q⟩
    ·revert q;decide
    ·revert q;decide
    ·revert q;decide
    ·exact hc q
    ·revert q;decide
    ·revert q;decide
    ·revert q;decide
  have rA:(cW x.known k=true\/(k=aC/\x.c.method≠2))↔d9 v k=false:=by
   unfold d9;rw[h.kn k];by_cases hd:k=aC
   ·rw[hm hd];cases (v.ln k).isSome<;>simp[hd]
   ·cases (v.ln k).isSome<;>simp[hd]
  unfold fh;rw[if_neg (by simp)];cases hp:d9 v k with
  | true=>
   rw[if_neg (by rw[rA,hp];simp),fV];have h6:iZ 6 line=⟨6,line⟩:=rfl;rw[h6];have dV:∀q:List ByteArray,fh x.known x.c.method line q ⟨6,line⟩=⟨6,line⟩:=λq=>by
    cases q with
    | nil=>rfl
    | cons _ _=>unfold fh;rw[if_pos (by simp)]
   rw[dV,adh,hp];rfl
  | false=>
   rw[if_pos (rA.2 hp),fV,py,AY h line l (λq hq=>hl q (by simp[hq])),adh,hp,ada]
theorem qz (v:aF) (line:Int) (e:dH):∀l:List ByteArray,ml v line e l=if l.any (d9 v)=true then⟨6,line⟩ else e
 | []=>rfl
 | k::l=>by
  unfold ml;rw[adh];cases hp:d9 v k with
  | true=>simp
  | false=>rw[if_neg (by simp),qz v line e l,ada]
theorem tW (k:ByteArray):kb k=if k=aj then true else if k=aA then true else false:=rfl
structure oH (b:cm) (t:eh):Prop where
 f:t.f=⟨0,0⟩
 e:t.e=b.e
 seen:∀k,cW t.seen k=decide (b.of k≠[])
 cs:b.of aj=t.e.cont.map (·.name)
 ss:b.of aA=t.e.styl.map (·.name)
 lc:t.e.cont.length<=4
 ls:t.e.styl.length<=6
 names:t.names=b.vals.map λv=>(v.s af,v.s ax)
 lines:t.lines=b.vals.map λv=>(v.l af,v.l ax)
 z1:b.of bR=[]->t.e.dots=0/\t.e.blank=0/\t.e.marked=0
 z2:b.of aO=[]->t.e.scan=0/\t.e.batch=0
 z3:b.of af=[]->t.e.prec=[]
 z4:b.of bG=[]->t.e.risk=⟨false,[],[]⟩/\t.e.seed=⟨#[]⟩
 z5:b.of bo=[]->t.e.cell=0
theorem Pg (l:List ae) (nm:ByteArray):(l.any λc=>decide (c.name=nm))=Lib.containsS (l.map (·.name)) nm:=by
 rw[ady,Lib.containsS_iff,adG];simp only[acX,decide_eq_true_eq]
theorem J7 (l:List ai) (nm:ByteArray):(l.any λc=>decide (c.name=nm))=Lib.containsS (l.map (·.name)) nm:=by
 rw[ady,Lib.containsS_iff,adG];simp only[acX,decide_eq_true_eq]
theorem Pd {s:ByteArray}:s.data.toList=[]↔s=⟨#[]⟩:=by
 constructor
 ·intro h;obtain⟨⟨l⟩⟩:=s;have:l=[]:=h;rw[this]
 ·rintro rfl;rfl
theorem head_eq {b:cm} {t:eh} (h:oH b t) (kind nm:ByteArray):iX t kind nm=eR kind nm (b.of kind):=by
 unfold iX eR;by_cases h0:aJ kind=[]
 ·rw[if_pos h0,if_pos h0]
 rw[if_neg h0,if_neg h0];have hm:kb kind=gT kind:=by
  rw[tW];unfold gT;by_cases h1:kind=aj
  ·rw[if_pos h1,decide_eq_true h1];rfl
  ·rw[if_neg h1,decide_eq_false h1];by_cases h2:kind=aA
   ·rw[if_pos h2,decide_eq_true h2];rfl
   ·rw[if_neg h2,decide_eq_false h2];rfl
 rw[hm];cases PW:gT kind with
 | false=>
  have mC:kind≠aj:=λe=>by rw[e] at PW;revert PW;decide
  have gr:kind≠aA:=λe=>by rw[e] at PW;revert PW;decide
  have hs:=h.seen kind;rw[if_neg (by simp),if_neg (by simp),if_neg (by simp),if_neg (by rintro(⟨q,_⟩|⟨q,_⟩);exact mC q;exact gr q),if_pos rfl];by_cases hn:nm≠⟨#[]⟩
  ·rw[if_pos ⟨rfl,hn⟩,if_pos hn]
  ·rw[if_neg (λq=>hn q.2),if_neg hn,hs];by_cases hl:b.of kind≠[]
   ·rw[if_pos ⟨rfl,decide_eq_true hl⟩,if_pos (List.length_pos_iff.2 hl)]
   ·rw[if_neg (λq=>hl (of_decide_eq_true q.2)),if_neg (λq=>hl (List.length_pos_iff.1 q))]
 | true=>
  rw[if_neg (by simp:¬(true=false))];by_cases hn:nm=⟨#[]⟩
  ·rw[if_pos ⟨rfl,hn⟩,if_pos hn]
  ·rw[if_neg (λq=>hn q.2),if_neg hn];have hw:=Qd (l:=nm.data.toList) (λe=>hn (Pd.1 e));by_cases h8:gH nm.data.toList=false\/((nm.data.toList[0]?).getD 0).toNat<97\/24<nm.size
   ·rw[if_pos h8,if_pos ⟨rfl,by rcases h8 with q|q|q;exact .inl (hw.2 (.inl q));exact .inl (hw.2 (.inr q));exact .inr q⟩]
   ·rw[if_neg h8,if_neg (by
     rintro⟨_,q|q⟩
     ·rcases hw.1 q with q|q
      ·exact h8 (.inl q)
      ·exact h8 (.inr (.inl q))
     ·exact h8 (.inr (.inr q)))]
    have acY:(kind=aj/\(t.e.cont.any λc=>decide (c.name=nm))=true)\/(kind=aA/\(t.e.styl.any λc=>decide (c.name=nm))=true)↔Lib.containsS (b.of kind) nm=true:=by
     rw[Pg,J7,<-h.cs,<-h.ss];constructor
     ·rintro(⟨q,r⟩|⟨q,r⟩)<;>rw[q]<;>exact r
     ·intro r;by_cases q:kind=aj
      ·left;rw[q] at r;exact⟨q,r⟩
      ·have q2:kind=aA:=by
        unfold gT at PW;rw[decide_eq_false q,ada,decide_eq_true_eq] at PW;exact PW
       right;rw[q2] at r;exact⟨q2,r⟩
    have kf:(kind=aj/\4<=t.e.cont.length)\/(kind=aA/\6<=t.e.styl.length)↔((b.of kind).length:Int)=cE kind:=by
     have c1:cE aj=4:=by kernel_rfl
     have c2:cE aA=6:=by kernel_rfl
     have l1:(b.of aj).length=t.e.cont.length:=by rw[h.cs,abm]
     have l2:(b.of aA).length=t.e.styl.length:=by rw[h.ss,abm]
     have b1:=h.lc;have b2:=h.ls;by_cases q:kind=aj
     ·subst q;rw[c1,l1];constructor
      ·rintro(⟨_,r⟩|⟨r,_⟩)
       ·omega
       ·exact absurd r (by decide)
      ·intro r;left;exact⟨rfl,by omega⟩
     ·have q2:kind=aA:=by
       unfold gT at PW;rw[decide_eq_false q,ada,decide_eq_true_eq] at PW;exact PW
      subst q2;rw[c2,l2];constructor
      ·rintro(⟨r,_⟩|⟨_,r⟩)
       ·exact absurd r (by decide)
       ·omega
      ·intro r;right;exact⟨rfl,by omega⟩
    by_cases h3:Lib.containsS (b.of kind) nm=true
    ·rw[if_pos ⟨rfl,acY.2 h3⟩,if_pos h3]
    ·rw[if_neg (λq=>h3 (acY.1 q.2)),if_neg h3];by_cases h7:((b.of kind).length:Int)=cE kind
     ·rw[if_pos (kf.2 h7),if_pos h7]
     ·rw[if_neg (λq=>h7 (kf.1 q)),if_neg h7,if_neg (λq=>by cases q.1),if_neg (λq=>by cases q.1)]
theorem Dx {b:cm} {t:eh} (h:oH b t) (x:av) (h0:eR x.kind x.name (b.of x.kind)=0):mO x.kind x.name (b.named x.kind x.name) aF.zero (dT.start t x):=by
 have hh:=head_eq h x.kind x.name;rw[h0] at hh;have hd:eR x.kind x.name (b.of x.kind)=0:=h0;have Nt:x.kind≠aj->x.kind≠aA->b.of x.kind=[]:=λh1 h2=>by
  unfold eR at hd;by_cases hk:aJ x.kind=[]
  ·rw[if_pos hk] at hd;cases hd
  rw[if_neg hk,if_pos (by rw[tW,if_neg h1,if_neg h2])] at hd;split at hd
  ·cases hd
  split at hd
  ·cases hd
  ·rename_i q;exact aa2.1 λr=>q (List.length_pos_iff.2 r)
 exact {
  f:=by show t.f.note (iX t x.kind x.name) x.line=_;rw[hh,D5,h.f]
  kn:=λk=>by show cW [] k=(none:Option Int).isSome;rfl
  only:=λk hk=>by cases hk
  e:=λh1 h2=>by
   have ho:=Nt h1 h2;show t.e=_;have hb:(b.named x.kind x.name).e=b.e:=rfl;unfold aV;obtain⟨kind,nm,fields,line⟩:=x;simp only at ho h1 h2 hb ⊢;by_cases q1:kind=bR
   ·subst q1;obtain⟨z1,z2,z3⟩:=h.z1 ho;rw[if_pos rfl,hb,<-h.e];exact(show t.e={ t.e with dots:=t.e.dots,blank:=t.e.blank,marked:=t.e.marked } from rfl).trans (by rw[z1,z2,z3];rfl)
   rw[if_neg q1];by_cases q2:kind=aO
   ·subst q2;obtain⟨z1,z2⟩:=h.z2 ho;rw[if_pos rfl,hb,<-h.e];exact(show t.e={ t.e with scan:=t.e.scan,batch:=t.e.batch } from rfl).trans (by rw[z1,z2];rfl)
   rw[if_neg q2];by_cases q3:kind=af
   ·subst q3;have z1:=h.z3 ho;rw[if_pos rfl,hb,<-h.e];exact(show t.e={ t.e with prec:=t.e.prec } from rfl).trans (by rw[z1];rfl)
   rw[if_neg q3,if_neg h1,if_neg h2];by_cases q4:kind=bG
   ·subst q4;obtain⟨z1,z2⟩:=h.z4 ho;rw[if_pos rfl,hb,<-h.e];exact(show t.e={ t.e with risk:=t.e.risk,seed:=t.e.seed } from rfl).trans (by rw[z1,z2];rfl)
   rw[if_neg q4];by_cases q5:kind=bo
   ·subst q5;have z1:=h.z5 ho;rw[if_pos rfl,hb,<-h.e];exact(show t.e={ t.e with cell:=t.e.cell } from rfl).trans (by rw[z1];rfl)
   rw[if_neg q5,hb,h.e]
  e':=λ_=>h.e
  c:=λ_=>⟨rfl,rfl,rfl⟩
  c':=λ_=>rfl
  s:=λ_=>⟨rfl,rfl,rfl,rfl⟩ }
theorem gi (b:cm) (kind nm k:ByteArray):(b.named kind nm).of k=if k=kind then b.of kind++[nm] else b.of k:=by
 unfold cm.named cm.of setF;simp only;by_cases h:k=kind
 ·rw[if_pos h,if_pos h];rfl
 ·rw[if_neg h,if_neg h]
theorem gh (kind nm:ByteArray) (v:aF) (b:cm) (k:ByteArray):(aV kind nm v b).of k=b.of k:=by
 unfold aV
 repeat' split
 all_goals rfl
theorem qm {b:cm} {t:eh} (h:oH b t) (kind nm:ByteArray) (v:aF) (k:ByteArray):cW (t.seen++[kind]) k=decide ((aV kind nm v (b.named kind nm)).of k≠[]):=by
 rw[gh,gi,xy,h.seen];by_cases hk:k=kind
 ·rw[if_pos hk,decide_eq_true hk,decide_eq_true (show b.of kind++[nm]≠[] by simp),Bool.or_true]
 ·rw[if_neg hk,decide_eq_false hk];simp
theorem Du {kind:ByteArray} {fs:List ao} {x:dT} (h:x.f.no≠0):da kind fs x=x:=by
 cases fs with
 | nil=>rfl
 | cons f l=>unfold da;rw[if_pos h]
theorem wT {known:List ByteArray} {m line:Int} {l:List ByteArray} {f:dH} (h:f.no≠0):fh known m line l f=f:=by
 cases l with
 | nil=>rfl
 | cons k l=>unfold fh;rw[if_pos h]
theorem uM {t:eh} {x:av} {y:dT} (h:(fh y.known y.c.method x.line (aJ x.kind) y.f).no≠0):(qM t x y).f=fh y.known y.c.method x.line (aJ x.kind) y.f:=by
 unfold qM;simp only;rw[if_pos h]
theorem JE {t:eh} {x:av} {y:dT} (h:fh y.known y.c.method x.line (aJ x.kind) y.f=⟨0,0⟩):qM t x y= if x.kind=aj then { t with e:={ y.e with cont:=y.e.cont++[{ y.c with name:=x.name }] },f:=((⟨0,0⟩:dH).note (if cW y.known aC=true/\y.c.method≠2 then 5 else 0) y.digits).note (if y.c.method=1/\1<y.c.seats then 4 else 0) y.seats,seen:=t.seen++[x.kind] } else if x.kind=aA then { t with e:={ y.e with styl:=y.e.styl++[⟨x.name,[],[]⟩] },f:=⟨0,0⟩,seen:=t.seen++[x.kind],names:=t.names++[(y.n0,y.n1)],lines:=t.lines++[(y.l0,y.l1)] } else if x.kind=bR/\y.e.marked<y.e.blank then { t with e:=y.e,f:=(⟨0,0⟩:dH).note 4 x.line,seen:=t.seen++[x.kind] } else { t with e:=y.e,f:=⟨0,0⟩,seen:=t.seen++[x.kind] }:=by
 unfold qM;simp only[h];rw[if_neg (by simp)];rfl
theorem Bu {kind nm:ByteArray} {ns:List ByteArray} (h:eR kind nm ns=0) (hk:kind=aj\/kind=aA):(ns.length:Int)≠cE kind:=by
 intro e;unfold eR at h;split at h
 ·cases h
 split at h
 ·rename_i _ q;rcases hk with rfl|rfl
  ·revert q;decide
  ·revert q;decide
 split at h
 ·cases h
 split at h
 ·cases h
 split at h
 ·cases h
 first|(cases h;done)|(rw[if_pos e] at h;cases h)
theorem Jp {kind nm:ByteArray} {ns:List ByteArray} (h:eR kind nm ns=0):kind=bR\/kind=aO\/kind=af\/kind=aj\/kind=aA\/kind=bG\/kind=bo:=by
 have h0:aJ kind≠[]:=λe=>by
  unfold eR at h;rw[if_pos e] at h;cases h
 obtain⟨k,hk⟩:=List.exists_mem_of_ne_nil _ h0;rcases lh hk with⟨q,_⟩|⟨q,_⟩|⟨q,_⟩|⟨q,_⟩|⟨q,_⟩|⟨q,_⟩|⟨q,_⟩
 ·exact .inl q
 ·exact .inr (.inl q)
 ·exact .inr (.inr (.inl q))
 ·exact .inr (.inr (.inr (.inl q)))
 ·exact .inr (.inr (.inr (.inr (.inl q))))
 ·exact .inr (.inr (.inr (.inr (.inr (.inl q)))))
 ·exact .inr (.inr (.inr (.inr (.inr (.inr q)))))
theorem IU {kind nm:ByteArray} {b:cm} {v:aF} {x:dT} (h:mO kind nm b v x) (hk:kind≠aj):(v.ln aC).isSome=false:=by
 cases hs:(v.ln aC).isSome with
 | false=>rfl
 | true=>
  exfalso
  rcases lh (h.only _ hs) with⟨_,q⟩|⟨_,q⟩|⟨_,q⟩|⟨q,_⟩|⟨_,q⟩|⟨_,q⟩|⟨_,q⟩
  ·revert q;decide
  ·revert q;decide
  ·revert q;decide
  ·exact hk q
  ·revert q;decide
  ·revert q;decide
  ·revert q;decide
theorem jC {b:cm} {t:eh} (h:oH b t) {kind nm:ByteArray} {v:aF} {e':aa} (h1:kind≠aj) (h2:kind≠aA) (he:e'=(aV kind nm v (b.named kind nm)).e) (hc:e'.cont=b.e.cont) (hs:e'.styl=b.e.styl) (zJ:(aV kind nm v (b.named kind nm)).vals=b.vals) (z1:kind≠bR->e'.dots=b.e.dots/\e'.blank=b.e.blank/\e'.marked=b.e.marked) (z2:kind≠aO->e'.scan=b.e.scan/\e'.batch=b.e.batch) (z3:kind≠af->e'.prec=b.e.prec) (z4:kind≠bG->e'.risk=b.e.risk/\e'.seed=b.e.seed) (z5:kind≠bo->e'.cell=b.e.cell) : oH (aV kind nm v (b.named kind nm)) { t with e:=e',f:=⟨0,0⟩,seen:=t.seen++[kind] }:=by
 have hz:∀k,(aV kind nm v (b.named kind nm)).of k=[]->kind≠k/\b.of k=[]:=λk hk=>by
  rw[gh,gi] at hk;by_cases q:k=kind
  ·rw[if_pos q] at hk;simp at hk
  ·rw[if_neg q] at hk;exact⟨acj q,hk⟩
 exact {
  f:=rfl
  e:=he
  seen:=λk=>qm h kind nm v k
  cs:=by
   rw[gh,gi,if_neg (acj h1),h.cs];show _=e'.cont.map _;rw[hc,h.e]
  ss:=by
   rw[gh,gi,if_neg (acj h2),h.ss];show _=e'.styl.map _;rw[hs,h.e]
  lc:=by show e'.cont.length<=4;rw[hc,<-h.e];exact h.lc
  ls:=by show e'.styl.length<=6;rw[hs,<-h.e];exact h.ls
  names:=by rw[zJ];exact h.names
  lines:=by rw[zJ];exact h.lines
  z1:=λk=>by
   obtain⟨q1,q2⟩:=hz _ k;have q3:=h.z1 q2;rw[h.e] at q3;obtain⟨a1,a2,a3⟩:=z1 q1;exact⟨a1.trans q3.1,a2.trans q3.2.1,a3.trans q3.2.2⟩
  z2:=λk=>by
   obtain⟨q1,q2⟩:=hz _ k;have q3:=h.z2 q2;rw[h.e] at q3;obtain⟨a1,a2⟩:=z2 q1;exact⟨a1.trans q3.1,a2.trans q3.2⟩
  z3:=λk=>by
   obtain⟨q1,q2⟩:=hz _ k;have q3:=h.z3 q2;rw[h.e] at q3;exact(z3 q1).trans q3
  z4:=λk=>by
   obtain⟨q1,q2⟩:=hz _ k;have q3:=h.z4 q2;rw[h.e] at q3;obtain⟨a1,a2⟩:=z4 q1;exact⟨a1.trans q3.1,a2.trans q3.2⟩
  z5:=λk=>by
   obtain⟨q1,q2⟩:=hz _ k;have q3:=h.z5 q2;rw[h.e] at q3;exact(z5 q1).trans q3 }
theorem DW {kind:ByteArray} {line:Int} {v:aF} (h:(iK kind line v).no=0):iK kind line v=⟨0,0⟩:=by
 unfold iK at h ⊢;split
 ·rename_i q;rw[if_pos q] at h;cases h
 split
 ·rename_i q1 q;rw[if_neg q1,if_pos q] at h;cases h
 split
 ·rename_i q1 q2 q;rw[if_neg q1,if_neg q2,if_pos q] at h;cases h
 ·rfl
theorem YF {b:cm} {t:eh} (h:oH b t) {x:av} (h0:eR x.kind x.name (b.of x.kind)=0) {v:aF} {y:dT} (hv:mO x.kind x.name (b.named x.kind x.name) v y) (hm:fh y.known y.c.method x.line (aJ x.kind) y.f=⟨0,0⟩) : (qM t x y).f=iK x.kind x.line v/\((iK x.kind x.line v).no=0->oH (aV x.kind x.name v (b.named x.kind x.name)) (qM t x y)):=by
 rw[JE hm];obtain⟨kind,nm,fields,line⟩:=x;simp only at h0 hv hm ⊢;have hz:∀k,(aV kind nm v (b.named kind nm)).of k=[]->kind≠k/\b.of k=[]:=λk hk=>by
  rw[gh,gi] at hk;by_cases q:k=kind
  ·rw[if_pos q] at hk;simp at hk
  ·rw[if_neg q] at hk;exact⟨acj q,hk⟩
 by_cases hc:kind=aj
 ·subst hc;obtain⟨c1,c2,c3⟩:=hv.c rfl;have m1:y.c.method=v.n be:=congrArg ae.method c1;have m2:y.c.seats=v.n bz:=congrArg ae.seats c1;have he:y.e=b.e:=hv.e' (.inl rfl);have kf:=Bu h0 (.inl rfl);have hc4:cE aj=4:=by kernel_rfl
  have bm:(b.of aj).length=t.e.cont.length:=by rw[h.cs,abm]
  have hlc:=h.lc;have c1:(⟨nm,y.c.cands,y.c.method,y.c.seats,y.c.ranks,y.c.digits,y.c.ties,y.c.over,y.c.skip⟩:ae)=dC nm v:=c1;rw[if_pos rfl,c1,hv.kn,m1,m2,c2,c3,he];refine⟨?_,λhr=>?_⟩
  ·show((⟨0,0⟩:dH).note _ _).note _ _=_;unfold iK;by_cases p5:(v.ln aC).isSome=true/\v.n be≠2
   ·rw[if_pos p5,if_pos p5,fV,qp (by rw[pz];omega)];rfl
   ·rw[if_neg p5,if_neg p5,fV,py,fV];by_cases p4:v.n be=1/\1<v.n bz
    ·rw[if_pos p4,if_pos ⟨rfl,p4⟩];rfl
    ·rw[if_neg p4,if_neg (λq=>p4 q.2),if_neg (λq=>by revert q;exact λq=>absurd q.1 (by decide))];rfl
  ·have dV:aV aj nm v (b.named aj nm)={ b.named aj nm with e:={ b.e with cont:=b.e.cont++[dC nm v] } }:=by
    unfold aV;rw[if_neg (by decide),if_neg (by decide),if_neg (by decide),if_pos rfl];rfl
   have hf:((⟨0,0⟩:dH).note (if(v.ln aC).isSome=true/\v.n be≠2 then 5 else 0) (v.l aC)).note (if v.n be=1/\1<v.n bz then 4 else 0) (v.l bz)=⟨0,0⟩:=by
    unfold iK at hr;by_cases p5:(v.ln aC).isSome=true/\v.n be≠2
    ·rw[if_pos p5] at hr;cases hr
    ·rw[if_neg p5] at hr;rw[if_neg p5,fV,py,fV];by_cases p4:v.n be=1/\1<v.n bz
     ·rw[if_pos ⟨rfl,p4⟩] at hr;cases hr
     ·rw[if_neg p4];rfl
   exact {
    f:=hf
    e:=by rw[dV]
    seen:=λk=>qm h aj nm v k
    cs:=by
     rw[gh,gi,if_pos rfl,h.cs,h.e];show _=(b.e.cont++[dC nm v]).map _;rw[adz];rfl
    ss:=by
     rw[gh,gi,if_neg (by decide),h.ss,h.e]
    lc:=by
     show(b.e.cont++[dC nm v]).length<=4;rw[aaj,aaA,<-h.e];rw[hc4,bm] at kf;omega
    ls:=by show b.e.styl.length<=6;rw[<-h.e];exact h.ls
    names:=by rw[dV];exact h.names
    lines:=by rw[dV];exact h.lines
    z1:=λk=>by have q:=h.z1 (hz _ k).2;rw[h.e] at q;exact q
    z2:=λk=>by have q:=h.z2 (hz _ k).2;rw[h.e] at q;exact q
    z3:=λk=>by have q:=h.z3 (hz _ k).2;rw[h.e] at q;exact q
    z4:=λk=>by have q:=h.z4 (hz _ k).2;rw[h.e] at q;exact q
    z5:=λk=>by have q:=h.z5 (hz _ k).2;rw[h.e] at q;exact q }
 rw[if_neg hc];have GB:=IU hv hc;have Gz:iK kind line v=if kind=bR/\v.n bF<v.n ct then⟨4,line⟩ else⟨0,0⟩:=by
  unfold iK;rw[if_neg (by rw[GB];simp),if_neg (λq=>hc q.1)]
 rw[Gz];by_cases hs:kind=aA
 ·subst hs;obtain⟨s1,s2,s3,s4⟩:=hv.s rfl;have he:y.e=b.e:=hv.e' (.inr rfl);have kf:=Bu h0 (.inr rfl);have hc4:cE aA=6:=by kernel_rfl
  have bm:(b.of aA).length=t.e.styl.length:=by rw[h.ss,abm]
  have hls:=h.ls;rw[if_pos rfl,if_neg (λq=>absurd q.1 (by decide)),s1,s2,s3,s4,he];refine⟨rfl,λ_=>?_⟩;have dV:aV aA nm v (b.named aA nm)={ b.named aA nm with e:={ b.e with styl:=b.e.styl++[⟨nm,[],[]⟩] },vals:=b.vals++[v] }:=by
   unfold aV;rw[if_neg (by decide),if_neg (by decide),if_neg (by decide),if_neg (by decide),if_pos rfl];rfl
  exact {
   f:=rfl
   e:=by rw[dV]
   seen:=λk=>qm h aA nm v k
   cs:=by
    rw[gh,gi,if_neg (by decide),h.cs,h.e]
   ss:=by
    rw[gh,gi,if_pos rfl,h.ss,h.e];show _=(b.e.styl++[(⟨nm,[],[]⟩:ai)]).map _;rw[adz];rfl
   lc:=by show b.e.cont.length<=4;rw[<-h.e];exact h.lc
   ls:=by
    show(b.e.styl++[(⟨nm,[],[]⟩:ai)]).length<=6;rw[aaj,aaA,<-h.e];rw[hc4,bm] at kf;omega
   names:=by
    rw[dV];show t.names++_=(b.vals++[v]).map _;rw[h.names,adz];rfl
   lines:=by
    rw[dV];show t.lines++_=(b.vals++[v]).map _;rw[h.lines,adz];rfl
   z1:=λk=>by have q:=h.z1 (hz _ k).2;rw[h.e] at q;exact q
   z2:=λk=>by have q:=h.z2 (hz _ k).2;rw[h.e] at q;exact q
   z3:=λk=>by have q:=h.z3 (hz _ k).2;rw[h.e] at q;exact q
   z4:=λk=>by have q:=h.z4 (hz _ k).2;rw[h.e] at q;exact q
   z5:=λk=>by have q:=h.z5 (hz _ k).2;rw[h.e] at q;exact q }
 rw[if_neg hs];have he:=hv.e hc hs;have hb:(b.named kind nm).e=b.e:=rfl;have Kl:(b.named kind nm).vals=b.vals:=rfl;by_cases q1:kind=bR
 ·subst q1;have dV:(aV bR nm v (b.named bR nm)).e={ b.e with dots:=v.n il,blank:=v.n ct,marked:=v.n bF }:=by
   unfold aV;rw[if_pos rfl];rfl
  have e1:y.e.marked=v.n bF:=by rw[he,dV]
  have e2:y.e.blank=v.n ct:=by rw[he,dV]
  rw[e1,e2];by_cases q:v.n bF<v.n ct
  ·rw[if_pos ⟨rfl,q⟩,if_pos ⟨rfl,q⟩];exact⟨rfl,λk=>by cases k⟩
  ·rw[if_neg (λk=>q k.2),if_neg (λk=>q k.2)];refine⟨rfl,λ_=>jC h hc hs he ?_ ?_ ?_ (λk=>absurd rfl k) (λ_=>?_) (λ_=>?_) (λ_=>?_) (λ_=>?_)⟩
   all_goals first|(rw[he,dV];exact⟨rfl,rfl⟩)|(rw[he,dV])|(unfold aV;rw[if_pos rfl];rfl)
 rw[if_neg (λk=>q1 k.1),if_neg (λk=>q1 k.1)];refine⟨rfl,λ_=>?_⟩;rcases Jp h0 with rfl|rfl|rfl|rfl|rfl|rfl|rfl
 ·exact absurd rfl q1
 ·have dV:aV aO nm v (b.named aO nm)={ b.named aO nm with e:={ b.e with scan:=v.n fq,batch:=v.n fu } }:=by
   unfold aV;rw[if_neg (by decide),if_pos rfl];rfl
  refine jC h hc hs he ?_ ?_ ?_ (λ_=>?_) (λk=>absurd rfl k) (λ_=>?_) (λ_=>?_) (λ_=>?_)
  all_goals first|(rw[he,dV];exact⟨rfl,rfl,rfl⟩)|(rw[he,dV];exact⟨rfl,rfl⟩)|(rw[he,dV])|(rw[dV];rfl)
 ·have dV:aV af nm v (b.named af nm)={ b.named af nm with e:={ b.e with prec:=v.s ed } }:=by
   unfold aV;rw[if_neg (by decide),if_neg (by decide),if_pos rfl];rfl
  refine jC h hc hs he ?_ ?_ ?_ (λ_=>?_) (λ_=>?_) (λk=>absurd rfl k) (λ_=>?_) (λ_=>?_)
  all_goals first|(rw[he,dV];exact⟨rfl,rfl,rfl⟩)|(rw[he,dV];exact⟨rfl,rfl⟩)|(rw[he,dV])|(rw[dV];rfl)
 ·exact absurd rfl hc
 ·exact absurd rfl hs
 ·have dV:aV bG nm v (b.named bG nm)={ b.named bG nm with e:={ b.e with risk:=v.risk,seed:=v.seed } }:=by
   unfold aV;rw[if_neg (by decide),if_neg (by decide),if_neg (by decide),if_neg (by decide),if_neg (by decide),if_pos rfl];rfl
  refine jC h hc hs he ?_ ?_ ?_ (λ_=>?_) (λ_=>?_) (λ_=>?_) (λk=>absurd rfl k) (λ_=>?_)
  all_goals first|(rw[he,dV];exact⟨rfl,rfl,rfl⟩)|(rw[he,dV];exact⟨rfl,rfl⟩)|(rw[he,dV])|(rw[dV];rfl)
 ·have dV:aV bo nm v (b.named bo nm)={ b.named bo nm with e:={ b.e with cell:=v.n im } }:=by
   unfold aV;rw[if_neg (by decide),if_neg (by decide),if_neg (by decide),if_neg (by decide),if_neg (by decide),if_neg (by decide),if_pos rfl];rfl
  refine jC h hc hs he ?_ ?_ ?_ (λ_=>?_) (λ_=>?_) (λ_=>?_) (λ_=>?_) (λk=>absurd rfl k)
  all_goals first|(rw[he,dV];exact⟨rfl,rfl,rfl⟩)|(rw[he,dV];exact⟨rfl,rfl⟩)|(rw[he,dV])|(rw[dV];rfl)
theorem OW {b:cm} {t:eh} (h:oH b t) (x:av):(fv t x).f=(fw x b).1/\((fw x b).1.no=0->oH (fw x b).2 (fv t x)):=by
 unfold fw fv;have hh:=head_eq h x.kind x.name;by_cases h0:eR x.kind x.name (b.of x.kind)≠0
 ·rw[if_pos h0];have hs:(dT.start t x).f=⟨eR x.kind x.name (b.of x.kind),x.line⟩:=by
   show t.f.note (iX t x.kind x.name) x.line=_;rw[hh,h.f,fV];unfold iZ;rw[if_neg h0]
  have hn:(dT.start t x).f.no≠0:=by rw[hs];exact h0
  rw[Du hn];have hm:fh (dT.start t x).known (dT.start t x).c.method x.line (aJ x.kind) (dT.start t x).f=(dT.start t x).f:=wT hn;refine⟨?_,λq=>absurd q h0⟩;rw[uM (by rw[hm];exact hn),hm,hs]
 ·have h0:=aa2.1 h0;rw[if_neg (by rw[h0];simp)];have hv:=Dx h x h0;obtain⟨s1,s2⟩:=Ac x.fields hv;obtain⟨r,hr⟩:∃r,dM x.kind x.fields aF.zero=r:=⟨_,rfl⟩;obtain⟨y,hy⟩:∃y,da x.kind x.fields (dT.start t x)=y:=⟨_,rfl⟩;rw[hr,hy] at s1 s2;rw[hr,hy];by_cases h1:r.1.no≠0
  ·rw[if_pos h1];have hn:y.f.no≠0:=by rw[s1];exact h1
   have hm:fh y.known y.c.method x.line (aJ x.kind) y.f=y.f:=wT hn;exact⟨by rw[uM (by rw[hm];exact hn),hm,s1],λq=>absurd q h1⟩
  ·have hv:=s2 (aa2.1 h1);rw[if_neg h1];have hm:=AY hv x.line (aJ x.kind) (λ_ h=>h);rw[<-hv.f] at hm;have hc:dS x.kind x.line r.2=if(aJ x.kind).any (d9 r.2)=true then⟨6,x.line⟩ else iK x.kind x.line r.2:=qz _ _ _ _
   by_cases h6:(aJ x.kind).any (d9 r.2)=true
   ·rw[if_pos h6] at hm hc;rw[hc,if_pos (by simp)];exact⟨by rw[uM (by rw[hm];simp),hm],λq=>by cases q⟩
   ·rw[if_neg h6] at hm hc;rw[hv.f] at hm;rw[hc];have he:=YF h h0 hv (by rw[hv.f];exact hm);by_cases h7:(iK x.kind x.line r.2).no≠0
    ·rw[if_pos h7];exact⟨he.1,λq=>absurd q h7⟩
    ·rw[if_neg h7];have h8:=DW (aa2.1 h7);exact⟨he.1.trans h8,λ_=>he.2 (by rw[h8])⟩
theorem qP:∀(l:List av) {b:cm} {t:eh},oH b t->(cj l t).f=(ck l b).1/\((ck l b).1.no=0->oH (ck l b).2 (cj l t))
 | [],b,t,h=>⟨h.f,λ_=>h⟩
 | x::l,b,t,h=>by
  have hs:=OW h x;unfold cj ck;rw[if_neg (by rw[h.f];simp)];by_cases h0:(fw x b).1.no≠0
  ·rw[if_pos h0];have hn:(fv t x).f.no≠0:=by rw[hs.1];exact h0
   have dV:cj l (fv t x)=fv t x:=by
    cases l with
    | nil=>rfl
    | cons y l=>unfold cj;rw[if_pos hn]
   rw[dV];exact⟨hs.1,λq=>absurd q h0⟩
  ·rw[if_neg h0];exact qP l (hs.2 (aa2.1 h0))
theorem pe (s:ByteArray):∀(l:List ae) (i:Nat),bf s l i=Lib.idxFromS (l.map (·.name)) s i
 | [],_=>rfl
 | c::l,i=>by
  unfold bf;rw[abH];unfold Lib.idxFromS;rw[pe s l (i+1)]
theorem Bc (cont:List ae) (line:Int):∀(l:List ByteArray) (dy:List Int),oq (cont.map (·.name)) line l dy=dl cont line l dy
 | [],_=>rfl
 | s::l,dy=>by
  unfold oq dl;have e:bf s cont 0=Lib.idxOfS (cont.map (·.name)) s:=pe s cont 0;rw[e,Bc cont line l]
theorem xa (prec:List ByteArray) (cont:List ae):∀(vs:List aF) (ss:List ai) (used:List Bool) (done:List ai), iD prec (cont.map (·.name)) (vs.map λv=>(v.s af,v.s ax)) (vs.map λv=>(v.l af,v.l ax)) ss used done=dN prec cont vs ss used done
 | [],ss,used,done=>by
  unfold dN;simp only[List.map_nil,iD]
 | v::vs,[],used,done=>by
  unfold dN;simp only[abH,iD]
 | v::vs,s::ss,used,done=>by
  rw[abH,abH,iD,dN];simp only;cases cM prec (v.l af) (v.s af) used [] with
  | error e=>rfl
  | ok r=>
   obtain⟨u,ps⟩:=r;simp only;rw[Bc];cases dl cont (v.l ax) (v.s ax) [] with
   | error e=>rfl
   | ok cs=>exact xa prec cont vs ss u _
theorem Ry {b:cm} {t:eh} (h:oH b t):jP t=nM b:=by
 unfold jP nM;rw[h.names,h.lines,h.e];exact xa _ _ _ _ _ _
theorem m7 {seen:List ByteArray}:∀(l:List ByteArray) {f:dH},f.no≠0->l.foldl (λf k=>f.note (if cW seen k=true then 0 else 6) 0) f=f
 | [],f,_=>rfl
 | k::l,f,h=>by
  rw[adT,qp h];exact m7 l h
theorem uK {b:cm} {t:eh} (h:oH b t):∀l:List ByteArray,l.foldl (λf k=>f.note (if cW t.seen k=true then 0 else 6) 0) (⟨0,0⟩:dH)=if l.any (λk=>decide (b.of k=[]))=true then⟨6,0⟩ else⟨0,0⟩
 | []=>rfl
 | k::l=>by
  rw[adT,adh,h.seen];by_cases hk:b.of k=[]
  ·rw[decide_eq_false (by simp[hk]:¬b.of k≠[]),if_neg (by simp),fV,m7 l (by rw[pz];omega),decide_eq_true hk];rfl
  ·rw[decide_eq_true hk,if_pos rfl,fV,py,uK h l,decide_eq_false hk,ada]
theorem ti (s:ByteArray):(60<s.size\/eW s.data.toList=false)↔cU s 0 60=false:=by
 unfold cU;rw[decide_eq_true (by omega:(0:Int)<=(s.size:Int)),acW];cases eW s.data.toList with
 | false=>simp
 | true=>
  rw[acW,decide_eq_false_iff_not];constructor
  ·rintro(h|h)
   ·omega
   ·cases h
  ·intro h;left;omega
theorem xi:gU=dU:=by kernel_rfl
theorem uU (s:bP):fO s=bY s:=by
 unfold fO bY;by_cases h8:cU s.title 0 60=false
 ·rw[if_pos h8];have dV:(eh.start s.title).f=⟨8,0⟩:=by
   show(⟨0,0⟩:dH).note _ 0=_;rw[if_pos ((ti _).2 h8)];rfl
  have hb:cj s.blocks (eh.start s.title)=eh.start s.title:=by
   cases s.blocks with
   | nil=>rfl
   | cons x l=>unfold cj;rw[if_pos (by rw[dV];simp)]
  have hf:(bQ s).f=⟨8,0⟩:=by
   unfold bQ;simp only;rw[hb,dV];exact m7 _ (by simp)
  rw[hf,if_pos (by simp)]
 ·rw[if_neg h8];have dV:(eh.start s.title).f=⟨0,0⟩:=by
   show(⟨0,0⟩:dH).note _ 0=_;rw[if_neg (λq=>h8 ((ti _).1 q))];rfl
  have NY:oH (cm.start s.title) (eh.start s.title):={
   f:=dV
   e:=rfl
   seen:=λk=>rfl
   cs:=rfl
   ss:=rfl
   lc:=by show([]:List ae).length<=4;simp
   ls:=by show([]:List ai).length<=6;simp
   names:=rfl
   lines:=rfl
   z1:=λ_=>⟨rfl,rfl,rfl⟩
   z2:=λ_=>⟨rfl,rfl⟩
   z3:=λ_=>rfl
   z4:=λ_=>⟨rfl,rfl⟩
   z5:=λ_=>rfl }
  obtain⟨bS,bH⟩:=qP s.blocks NY;obtain⟨r,hr⟩:∃r,ck s.blocks (cm.start s.title)=r:=⟨_,rfl⟩;obtain⟨t,ht⟩:∃t,cj s.blocks (eh.start s.title)=t:=⟨_,rfl⟩;rw[hr,ht] at bS bH;have N4:(bQ s)={ t with f:=gU.foldl (λf k=>f.note (if cW t.seen k=true then 0 else 6) 0) t.f }:=by
   unfold bQ;simp only;rw[ht]
  rw[hr,N4];by_cases h1:r.1.no≠0
  ·rw[if_pos h1];have hf:gU.foldl (λf k=>f.note (if cW t.seen k=true then 0 else 6) 0) t.f=r.1:=by
    rw[bS];exact m7 _ h1
   simp only[hf];rw[if_pos h1]
  ·rw[if_neg h1];have hC:=bH (aa2.1 h1);have hf:=uK hC dU;rw[hC.f,xi,hf];by_cases h6:dU.any (λk=>decide (r.2.of k=[]))=true
   ·rw[if_pos h6,if_pos h6];rfl
   ·rw[if_neg h6,if_neg h6];have hl:jP { t with f:=(⟨0,0⟩:dH) }=nM r.2:=Ry (t:=t) hC;rw[hl];simp only[ne_eq,not_true_eq_false,if_false];cases nM r.2 with
    | error e=>rfl
    | ok l=>rw[<-hC.e]
theorem xL (n:Nat):Lib.decDigits n=bj n:=by
 have hz:∀m:Nat,0<m->Lib.decDigits m=(fE m).reverse:=by
  intro m;induction m using Nat.strongRecOn with
  | ind m ih=>
   intro hm;have e1:fE m=CX m::fE (m/10):=by rw[fE,dif_neg (by omega)]
   rw[e1,abc];by_cases h:m<10
   ·rw[Lib.decDigits_one h,show m/10=0 by omega,fX];unfold CX;rw[Nat.mod_eq_of_lt h];rfl
   ·rw[Lib.decDigits,dif_neg h,ih (m/10) (by omega) (by omega)];rfl
 unfold bj;by_cases h:n=0
 ·rw[if_pos h,h,Lib.decDigits_one (by omega)];rfl
 ·rw[if_neg h];exact hz n (by omega)
def Small (n:Int):Prop:=0<=n/\n<=999999
theorem MZ {n:Int} (h:Small n):o9 n=BR n:=by
 obtain⟨k,rfl⟩:∃k:Nat,n=(k:Int):=⟨n.toNat,by have:=h.1;omega⟩;unfold o9 BR;rw[if_neg (by have:=h.2;omega)];unfold Lib.itoa;rw[if_neg (by omega),aae,xL]
theorem ES (n:Int):iS be n=fj be n fR:=by
 unfold iS fj iF nJ;rw[show az be=fR from by kernel_rfl]
theorem OP (n:Int):iS gV n=fj gV n kq:=by
 unfold iS fj iF nJ;rw[show az gV=kq from by kernel_rfl]
theorem OS (n:Int):iS bV n=fj bV n ku:=by
 unfold iS fj iF nJ;rw[show az bV=ku from by kernel_rfl]
theorem OQ (n:Int):iS gW n=fj gW n kr:=by
 unfold iS fj iF nJ;rw[show az gW=kr from by kernel_rfl]
theorem jd {k:ByteArray} {n:Int} (h:Small n):fM k n=dB k n:=by unfold fM dB;rw[MZ h]
def Vs (c:ae):Prop:=Small c.seats/\Small c.ranks/\Small c.digits
structure Py (e:aa):Prop where
 dots:Small e.dots
 blank:Small e.blank
 marked:Small e.marked
 scan:Small e.scan
 batch:Small e.batch
 cell:Small e.cell
 cont:∀c∈e.cont,Vs c
theorem BV {c:ae} (h:Vs c):eu c=dp c:=by
 unfold eu dp;rw[ES,OP,OS,OQ,jd h.1,jd h.2.1,jd h.2.2]
theorem wE {e:aa} (h:Py e):dY e=dX e:=by
 unfold dY dX;rw[jd h.dots,jd h.blank,jd h.marked,jd h.scan,jd h.batch,jd h.cell];have hc:e.cont.map eu=e.cont.map dp:=List.map_congr_left λc hc=>BV (h.cont c hc);rw[hc]
structure P8 (v:aF):Prop where
 num:∀k n,v.num k=some n->Small n
 lst:∀k xs,v.lst k=some xs->(xs.length:Int)<=bB k
 risk:(v.ln dP).isSome=true->∃a b:Nat,0<b/\a<=999999/\b<=999999/\v.risk=(dE false a b).raw
theorem P8.n {v:aF} (h:P8 v) (k:ByteArray):Small (v.n k):=by
 unfold aF.n;cases hn:v.num k with
 | none=>exact⟨by simp,by simp⟩
 | some n=>exact h.num k n hn
theorem P8.s {v:aF} (h:P8 v) (k:ByteArray) (h0:0<=bB k):((v.s k).length:Int)<=bB k:=by
 unfold aF.s;cases hn:v.lst k with
 | none=>simpa using h0
 | some xs=>exact h.lst k xs hn
theorem ue {gl:Int}:∀{l pre:List ByteArray},ez gl pre l=0->(pre.length:Int)<=gl->((pre.length+l.length:Nat):Int)<=gl
 | [],pre,_,h=>by simpa using h
 | s::r,pre,h,hp=>by
  unfold ez at h;split at h
  ·cases h
  split at h
  ·cases h
  split at h
  ·cases h
  ·rename_i h1 _ _;have:=ue h (by rw[aaj,aaA];omega);rw[aaj,aaA] at this;rw[aar];omega
theorem I2 {l:List ByteArray} {gl:Int} (h:dc l gl=0) (h0:0<=gl):(l.length:Int)<=gl:=by
 unfold dc at h;split at h
 ·cases h
 ·have:=ue h (by simpa using h0);simpa using this
theorem yK:bB dP=0:=by kernel_rfl
theorem wv:az dP=[]:=by kernel_rfl
theorem LN {kind:ByteArray} {f:ao} {v:aF} (h:P8 v) (h0:(bN kind f v).1=0):P8 (bN kind f v).2:=by
 unfold bN at h0 ⊢;split at h0
 ·cases h0
 rename_i q1;rw[if_neg q1];split at h0
 ·cases h0
 rename_i q2;rw[if_neg q2];have rq:f.key≠dP->∀line:Int,(setF v.ln f.key line dP).isSome=true->(v.ln dP).isSome=true:=λhk line hs=>by
  unfold setF at hs;rw[if_neg (acj hk)] at hs;exact hs
 split at h0
 ·rename_i q3;rw[if_pos q3];have hl:=I2 h0 (by omega);exact⟨h.num,λk xs hk=>by
   have kC:setF v.lst f.key f.vals k=some xs:=hk;unfold setF at kC;split at kC
   ·rename_i e;injection kC with kC
    subst kC;rw[e];exact hl
   ·exact h.lst k xs kC,λhs=>h.risk (rq (λe=>by rw[e,yK] at q3;omega) _ hs)⟩
 rename_i q3;rw[if_neg q3];split at h0
 ·cases h0
 rename_i q4;rw[if_neg q4];unfold tN at h0 ⊢;have X5:∀k s:ByteArray,0<=Lib.idxOfS (az k) s+1/\Lib.idxOfS (az k) s+1<=11:=λk s=>by
  have:=rj k s;omega
 split at h0
 ·rename_i q5;rw[if_pos q5];refine⟨λk n hk=>?_,h.lst,λhs=>h.risk (rq (λe=>q5 (by rw[e];exact wv)) _ hs)⟩;have kC:setF v.num f.key (Lib.idxOfS (az f.key) (f.vals.getD 0 ⟨#[]⟩)+1) k=some n:=hk;unfold setF at kC;split at kC
  ·injection kC with kC
   subst kC;have:=X5 f.key (f.vals.getD 0 ⟨#[]⟩);exact⟨by omega,by omega⟩
  ·exact h.num k n kC
 rename_i q5;rw[if_neg q5];split at h0
 ·rename_i q6;rw[if_pos q6];have hr:=Az (f.vals.getD 0 ⟨#[]⟩).data.toList;have rp:=hr.2 h0;rw[rp];refine⟨h.num,h.lst,λ_=>?_⟩;show∃a b:Nat,0<b/\a<=999999/\b<=999999/\(dK (f.vals.getD 0 ⟨#[]⟩).data.toList).2=(dE false a b).raw;have h1:(gQ (f.vals.getD 0 ⟨#[]⟩).data.toList).1=0:=h0;obtain⟨l,hl⟩:∃l,(f.vals.getD 0 ⟨#[]⟩).data.toList=l:=⟨_,rfl⟩;rw[hl] at h1 rp ⊢;unfold gQ at h1 rp;split at h1
  ·cases h1
  rename_i r1;rw[if_neg r1] at rp;split at h1
  ·cases h1
  rename_i r2;rw[if_neg r2] at rp;injection rp with rp
  obtain⟨a,ha⟩:=oZ (dn l);obtain⟨b,hb⟩:=oZ (cY l);have ra:=(gy (dn l)).2;have rb:=(gy (cY l)).2;rw[ha] at ra;rw[hb] at rb;refine⟨a,b,?_,by omega,by omega,?_⟩
  ·rw[hb] at r2;have:¬(b:Int)=0:=λe=>r2 (.inl e);omega
  ·rw[<-rp,ha,hb,m6]
 rename_i q6;rw[if_neg q6];split at h0
 ·rename_i q7;rw[if_pos q7];split at h0
  ·rename_i q8;rw[if_pos q8];exact⟨h.num,h.lst,λhs=>h.risk (rq q6 _ hs)⟩
  ·cases h0
 rename_i q7;rw[if_neg q7];split at h0
 ·cases h0
 rename_i q8;rw[if_neg q8];split at h0
 ·cases h0
 rename_i q9;rw[if_neg q9];refine⟨λk n hk=>?_,h.lst,λhs=>h.risk (rq q6 _ hs)⟩;have kC:setF v.num f.key (bI (f.vals.getD 0 ⟨#[]⟩).data.toList).1 k=some n:=hk;unfold setF at kC;split at kC
 ·injection kC with kC
  subst kC;exact gy _
 ·exact h.num k n kC
theorem tG {kind:ByteArray}:∀{fs:List ao} {v:aF},P8 v->(dM kind fs v).1.no=0->P8 (dM kind fs v).2
 | [],v,h,_=>h
 | f::l,v,h,h0=>by
  unfold dM at h0 ⊢;split at h0
  ·rename_i q;exact absurd h0 q
  ·rename_i q;rw[if_neg q];exact tG (LN h (aa2.1 q)) h0
structure BOk (b:cm):Prop where
 n:Py b.e
 prec:b.e.prec.length<=12
 cont:∀c∈b.e.cont,c.cands.length<=7
 vals:∀v∈b.vals,(v.s af).length<=12/\(v.s ax).length<=4
 risk:b.of bG≠[]->∃x y:Nat,0<y/\x<=999999/\y<=999999/\b.e.risk=(dE false x y).raw
theorem xd:bB ed=12:=by kernel_rfl
theorem xf:bB ft=7:=by kernel_rfl
theorem Be:bB af=12:=by kernel_rfl
theorem xe:bB ax=4:=by kernel_rfl
theorem Iz {kind:ByteArray} {line:Int} {v:aF} (h:(dS kind line v).no=0) (hk:kind=bG):(v.ln dP).isSome=true:=by
 have hm:dS kind line v=if(aJ kind).any (d9 v)=true then⟨6,line⟩ else iK kind line v:=qz _ _ _ _
 rw[hm] at h;split at h
 ·cases h
 ·rename_i q;cases hs:(v.ln dP).isSome with
  | true=>rfl
  | false=>
   exfalso
   apply q;rw[adG];refine⟨dP,by rw[hk,Bj];simp,?_⟩;unfold d9;rw[hs,decide_eq_true (by decide:dP≠aC)];rfl
theorem Dt {b:cm} (h:BOk b) {kind nm:ByteArray} {v:aF} (hv:P8 v) (hr:kind=bG->(v.ln dP).isSome=true):BOk (aV kind nm v (b.named kind nm)):=by
 have Nt:∀k,(aV kind nm v (b.named kind nm)).of k=if k=kind then b.of kind++[nm] else b.of k:=λk=>(gh kind nm v (b.named kind nm) k).trans (gi b kind nm k)
 have rq:kind≠bG->(aV kind nm v (b.named kind nm)).e.risk=b.e.risk->((aV kind nm v (b.named kind nm)).of bG≠[]->∃x y:Nat,0<y/\x<=999999/\y<=999999/\(aV kind nm v (b.named kind nm)).e.risk=(dE false x y).raw):=λhk he hn=>by
  rw[Nt,if_neg (acj hk)] at hn;rw[he];exact h.risk hn
 have n:=h.n;have l1:=hv.s ed (by rw[xd];omega);have l2:=hv.s ft (by rw[xf];omega);have l3:=hv.s af (by rw[Be];omega);have l4:=hv.s ax (by rw[xe];omega);rw[xd] at l1;rw[xf] at l2;rw[Be] at l3;rw[xe] at l4;unfold aV at rq ⊢;by_cases q1:kind=bR
 ·rw[if_pos q1] at rq ⊢;exact⟨{ n with dots:=hv.n _,blank:=hv.n _,marked:=hv.n _ },h.prec,h.cont,h.vals,rq (by rw[q1];decide) rfl⟩
 rw[if_neg q1] at rq ⊢;by_cases q2:kind=aO
 ·rw[if_pos q2] at rq ⊢;exact⟨{ n with scan:=hv.n _,batch:=hv.n _ },h.prec,h.cont,h.vals,rq (by rw[q2];decide) rfl⟩
 rw[if_neg q2] at rq ⊢;by_cases q3:kind=af
 ·rw[if_pos q3] at rq ⊢;exact⟨{ n with },by show(v.s ed).length<=12;omega,h.cont,h.vals,rq (by rw[q3];decide) rfl⟩
 rw[if_neg q3] at rq ⊢;by_cases q4:kind=aj
 ·rw[if_pos q4] at rq ⊢;refine⟨{ n with cont:=λc hc=>?_ },h.prec,λc hc=>?_,h.vals,rq (by rw[q4];decide) rfl⟩
  ·rcases aaH.1 hc with hc|hc
   ·exact n.cont c hc
   ·rw[aa3] at hc;subst hc;exact⟨hv.n _,hv.n _,hv.n _⟩
  ·rcases aaH.1 hc with hc|hc
   ·exact h.cont c hc
   ·rw[aa3] at hc;subst hc;show(v.s ft).length<=7;omega
 rw[if_neg q4] at rq ⊢;by_cases q5:kind=aA
 ·rw[if_pos q5] at rq ⊢;refine⟨{ n with },h.prec,h.cont,λx hx=>?_,rq (by rw[q5];decide) rfl⟩;rcases aaH.1 hx with hx|hx
  ·exact h.vals x hx
  ·rw[aa3] at hx;subst hx;exact⟨by omega,by omega⟩
 rw[if_neg q5] at rq ⊢;by_cases q6:kind=bG
 ·rw[if_pos q6];refine⟨{ n with },h.prec,h.cont,h.vals,λ_=>hv.risk (hr q6)⟩
 rw[if_neg q6] at rq ⊢;by_cases q7:kind=bo
 ·rw[if_pos q7] at rq ⊢;exact⟨{ n with cell:=hv.n _ },h.prec,h.cont,h.vals,rq (by rw[q7];decide) rfl⟩
 rw[if_neg q7] at rq ⊢;exact⟨n,h.prec,h.cont,h.vals,rq q6 rfl⟩
theorem KM:P8 aF.zero:=⟨λ_ _ h=>(by cases h),λ_ _ h=>(by cases h),λh=>(by cases h)⟩
theorem E3 {b:cm} (h:BOk b) (x:av) (h0:(fw x b).1.no=0):BOk (fw x b).2:=by
 unfold fw at h0 ⊢;split at h0
 ·rename_i q;exact absurd h0 q
 rename_i q1;rw[if_neg q1];split at h0
 ·rename_i q;exact absurd h0 q
 rename_i q2;rw[if_neg q2];split at h0
 ·rename_i q;exact absurd h0 q
 rename_i q3;rw[if_neg q3];exact Dt h (tG KM (aa2.1 q2)) (λhk=>Iz (aa2.1 q3) hk)
theorem rJ:∀{l:List av} {b:cm},BOk b->(ck l b).1.no=0->BOk (ck l b).2
 | [],b,h,_=>h
 | x::l,b,h,h0=>by
  unfold ck at h0 ⊢;split at h0
  ·rename_i q;exact absurd h0 q
  ·rename_i q;rw[if_neg q];exact rJ (E3 h x (aa2.1 q)) h0
theorem o4 {prec:List ByteArray} {line:Int}:∀{l:List ByteArray} {used:List Bool} {dy:List Int} {r:List Bool×List Int},cM prec line l used dy=.ok r->r.2.length=dy.length+l.length
 | [],used,dy,r,h=>by
  unfold cM at h;injection h with h
  subst h;rfl
 | s::l,used,dy,r,h=>by
  unfold cM at h;split at h
  ·cases h
  split at h
  ·cases h
  ·have:=o4 h;rw[this,aaj,aaA,aar];omega
theorem o5 {cont:List ae} {line:Int}:∀{l:List ByteArray} {dy r:List Int},dl cont line l dy=.ok r->r.length=dy.length+l.length
 | [],dy,r,h=>by
  unfold dl at h;injection h with h
  subst h;rfl
 | s::l,dy,r,h=>by
  unfold dl at h;split at h
  ·cases h
  ·have:=o5 h;rw[this,aaj,aaA,aar];omega
def Pm (s:ai):Prop:=s.prec.length<=12/\s.cont.length<=4
theorem uf {prec:List ByteArray} {cont:List ae}:∀{vs:List aF} {ss:List ai} {used:List Bool} {done r:List ai},(∀v∈vs,(v.s af).length<=12/\(v.s ax).length<=4)->(∀s∈done,Pm s)->dN prec cont vs ss used done=.ok r-> (∀s∈r,Pm s)/\r.length<=done.length+ss.length
 | [],ss,used,done,r,hv,hd,h=>by
  unfold dN at h;split at h
  ·cases h
  ·injection h with h
   subst h;exact⟨hd,by omega⟩
 | v::vs,[],used,done,r,hv,hd,h=>by
  unfold dN at h;split at h
  ·cases h
  ·injection h with h
   subst h;exact⟨hd,by omega⟩
 | v::vs,s::ss,used,done,r,hv,hd,h=>by
  rw[dN] at h;split at h
  ·cases h
  ·rename_i u ps hp;split at h
   ·cases h
   ·rename_i cs hc;have h1:=o4 hp;have h2:=o5 hc;have h3:=hv v (by simp);have h4:=uf (λx hx=>hv x (by simp[hx])) (λx hx=>by
     rcases aaH.1 hx with hx|hx
     ·exact hd x hx
     ·rw[aa3] at hx;subst hx;have ib:ps.length=0+_:=h1;have zP:cs.length=0+_:=h2;exact⟨by show ps.length<=12;omega,by show cs.length<=4;omega⟩) h
    refine⟨h4.1,?_⟩;have h5:=h4.2;rw[aaj,aaA] at h5;rw[aar];omega
theorem qZ {prec:List ByteArray} {line:Int}:∀{l:List ByteArray} {used:List Bool} {dy:List Int} {e:dH},cM prec line l used dy=.error e->e.no≠0
 | [],used,dy,e,h=>by unfold cM at h;cases h
 | s::l,used,dy,e,h=>by
  unfold cM at h;split at h
  ·injection h with h;subst h;simp
  split at h
  ·injection h with h;subst h;simp
  ·exact qZ h
theorem ri {cont:List ae} {line:Int}:∀{l:List ByteArray} {dy:List Int} {e:dH},dl cont line l dy=.error e->e.no≠0
 | [],dy,e,h=>by unfold dl at h;cases h
 | s::l,dy,e,h=>by
  unfold dl at h;split at h
  ·injection h with h;subst h;simp
  ·exact ri h
theorem wZ {prec:List ByteArray} {cont:List ae}:∀{vs:List aF} {ss:List ai} {used:List Bool} {done:List ai} {e:dH},dN prec cont vs ss used done=.error e->e.no≠0
 | [],ss,used,done,e,h=>by
  unfold dN at h;split at h
  ·injection h with h;subst h;simp
  ·cases h
 | v::vs,[],used,done,e,h=>by
  unfold dN at h;split at h
  ·injection h with h;subst h;simp
  ·cases h
 | v::vs,s::ss,used,done,e,h=>by
  rw[dN] at h;split at h
  ·rename_i q hp;injection h with h
   subst h;exact qZ hp
  ·split at h
   ·rename_i q hc;injection h with h
    subst h;exact ri hc
   ·exact wZ h
structure aem (x:aa):Prop where
 n:Py x
 prec:x.prec.length<=12
 cont:x.cont.length<=4
 styl:x.styl.length<=6
 cands:∀c∈x.cont,c.cands.length<=7
 sty:∀s∈x.styl,Pm s
 risk:∃a b:Nat,0<b/\a<=999999/\b<=999999/\x.risk=(dE false a b).raw
theorem Dy {title:ByteArray} (h:cU title 0 60≠false):oH (cm.start title) (eh.start title):=by
 have dV:(eh.start title).f=⟨0,0⟩:=by
  show(⟨0,0⟩:dH).note _ 0=_;rw[if_neg (λq=>h ((ti _).1 q))];rfl
 exact {
  f:=dV
  e:=rfl
  seen:=λk=>rfl
  cs:=rfl
  ss:=rfl
  lc:=by show([]:List ae).length<=4;simp
  ls:=by show([]:List ai).length<=6;simp
  names:=rfl
  lines:=rfl
  z1:=λ_=>⟨rfl,rfl,rfl⟩
  z2:=λ_=>⟨rfl,rfl⟩
  z3:=λ_=>rfl
  z4:=λ_=>⟨rfl,rfl⟩
  z5:=λ_=>rfl }
theorem iA:Small 0:=⟨by omega,by omega⟩
theorem pG {s:bP} (h:(bY s).2.no=0):aem (bY s).1:=by
 unfold bY at h ⊢;split at h
 ·cases h
 rename_i h8;rw[if_neg h8];obtain⟨bS,bH⟩:=qP s.blocks (Dy h8);have jF:=rJ (l:=s.blocks) (b:=cm.start s.title) ⟨⟨iA,iA,iA,iA,iA,iA,λc hc=>by cases hc⟩,by show([]:List ByteArray).length<=12;simp,λc hc=>(by cases hc),λv hv=>(by cases hv),λq=>absurd rfl q⟩;obtain⟨r,hr⟩:∃r,ck s.blocks (cm.start s.title)=r:=⟨_,rfl⟩;rw[hr] at bS bH jF h ⊢;split at h
 ·rename_i q;exact absurd h q
 rename_i h1;rw[if_neg h1];have hC:=bH (aa2.1 h1);have hO:=jF (aa2.1 h1);split at h
 ·cases h
 rename_i h6;rw[if_neg h6];have aio:r.2.of bG≠[]:=λe=>by
  apply h6;rw[adG];refine⟨bG,?_,decide_eq_true e⟩;show bG∈dU;rw[<-xi];unfold gU;simp
 have eX:r.2.e.styl.length<=6:=by rw[<-hC.e];exact hC.ls
 have rY:r.2.e.cont.length<=4:=by rw[<-hC.e];exact hC.lc
 cases hl:nM r.2 with
 | error e=>rw[hl] at h;exact absurd h (wZ hl)
 | ok l=>
  have hg:=uf (prec:=r.2.e.prec) (cont:=r.2.e.cont) hO.vals (λs hs=>by cases hs) hl;exact⟨{ hO.n with },hO.prec,rY,by show l.length<=6;have:=hg.2;simp at this;omega,hO.cont,hg.1,hO.risk aio⟩
theorem pT {α:Type} {f:α->α->Bool} (hf:∀x y,f x y=true->x=y):∀{a b:List α},fY f a b=true->a=b
 | [],[],_=>rfl
 | [],_::_,h=>by cases h
 | _::_,[],h=>by cases h
 | x::a,y::b,h=>by
  unfold fY at h;rw[aal] at h;rw[hf x y h.1,pT hf h.2]
theorem kP {α:Type} {f:α->α->Bool} (hf:∀x,f x x=true):∀a:List α,fY f a a=true
 | []=>rfl
 | x::a=>by unfold fY;rw[hf,kP hf a];rfl
theorem Aw (x y:ae) (h:aK x y=true):x=y:=by
 unfold aK at h;simp only[aal,decide_eq_true_eq] at h;obtain⟨h1,h2,h3,h4,h5,h6,h7,h8,h9⟩:=h;cases x;cases y
 simp only at h1 h2 h3 h4 h5 h6 h7 h8 h9;subst h1 h2 h3 h4 h5 h6 h7 h8 h9;rfl
theorem tB (x:ae):aK x x=true:=by unfold aK;simp
theorem Ar (x y:ai) (h:aZ x y=true):x=y:=by
 unfold aZ at h;simp only[aal,decide_eq_true_eq] at h;obtain⟨h1,h2,h3⟩:=h;cases x;cases y
 simp only at h1 h2 h3;subst h1 h2 h3;rfl
theorem tw (x:ai):aZ x x=true:=by unfold aZ;simp
theorem AW {A B C D:Nat} (hB:0<B) (hD:0<D) (h:A*D=C*B):dE false A B=dE false C D:=by
 unfold dE;by_cases hA:A=0
 ·have hC:C=0:=by
   rw[hA,aej] at h;rcases Nat.mul_eq_zero.1 h.symm with q|q
   ·exact q
   ·omega
  rw[if_pos (.inl hA),if_pos (.inl hC)]
 ·have hC:C≠0:=λe=>by
   rw[e,aej] at h;rcases Nat.mul_eq_zero.1 h with q|q
   ·exact hA q
   ·omega
  rw[if_neg (by omega),if_neg (by omega)];have hg1:0<Nat.gcd A B:=Nat.gcd_pos_of_pos_right _ hB;have hg2:0<Nat.gcd C D:=Nat.gcd_pos_of_pos_right _ hD;have c1:Nat.Coprime (A/Nat.gcd A B) (B/Nat.gcd A B):=Nat.coprime_div_gcd_div_gcd hg1;have c2:Nat.Coprime (C/Nat.gcd C D) (D/Nat.gcd C D):=Nat.coprime_div_gcd_div_gcd hg2;have e1:A=A/Nat.gcd A B*Nat.gcd A B:=(aeh (Nat.gcd_dvd_left A B)).symm;have e2:B=B/Nat.gcd A B*Nat.gcd A B:=(aeh (Nat.gcd_dvd_right A B)).symm;have e3:C=C/Nat.gcd C D*Nat.gcd C D:=(aeh (Nat.gcd_dvd_left C D)).symm;have e4:D=D/Nat.gcd C D*Nat.gcd C D:=(aeh (Nat.gcd_dvd_right C D)).symm;generalize A/Nat.gcd A B=a at*;generalize B/Nat.gcd A B=b at*;generalize C/Nat.gcd C D=c at*;generalize D/Nat.gcd C D=d at*;generalize Nat.gcd A B=g1 at*;generalize Nat.gcd C D=g2 at*;have hx:a*d=c*b:=by
   rw[e1,e2,e3,e4] at h;have:a*d*(g1*g2)=c*b*(g1*g2):=by
    calc a*d*(g1*g2)=a*g1*(d*g2):=by rw[ac4]
     _=c*g2*(b*g1):=h
     _=c*b*(g2*g1):=by rw[ac4]
     _=c*b*(g1*g2):=by rw[adU g2 g1]
   exact ad1 (Nat.mul_pos hg1 hg2) this
  have d1:a∣c:=c1.dvd_of_dvd_mul_right (hx▸Nat.dvd_mul_right a d);have d2:c∣a:=c2.dvd_of_dvd_mul_right (hx.symm▸Nat.dvd_mul_right c b);have ea:a=c:=Nat.dvd_antisymm d1 d2;have ha:0<a:=by
   rcases adg a with q|q
   ·rw[q,aej] at e1;exact absurd e1 hA
   ·exact q
  subst ea;rw[Nat.eq_of_mul_eq_mul_left ha hx]
theorem yr {r:Raw} (h:r.valid=true):r=r.q.raw:=by
 unfold Raw.valid at h;simp only[aal,decide_eq_true_eq,beq_iff_eq] at h;obtain⟨h1,h2,h3⟩:=h;obtain⟨neg,num,den⟩:=r;unfold Q.raw;simp only at h1 h2 h3;rw[<-h1,<-h2,<-h3]
theorem Iy {A B:Nat} (hB:0<B) {r:Raw} (hv:r.valid=true) (hc:mG ((dE false A B).raw).q r.flip.q=0):r=(dE false A B).raw:=by
 have hr:=yr hv;have UG:0<r.q.d:=by
  unfold Raw.q dE;split
  ·exact Nat.one_pos
  ·rename_i q;exact Nat.div_pos (Nat.gcd_le_right _ (by omega)) (Nat.gcd_pos_of_pos_right _ (by omega))
 have hd:val r.den=r.q.d:=by
  have h2:=congrArg Raw.den hr;rw[h2];exact bi _
 have hn:val r.num=r.q.n:=by
  have h2:=congrArg Raw.num hr;rw[h2];exact bi _
 have hD:0<val r.den:=by rw[hd];exact UG
 cases Ew:r.neg with
 | false=>
  have hq:r.q=dE false (val r.num) (val r.den):=by unfold Raw.q;rw[Ew]
  have hf:r.flip.q=(dE false (val r.num) (val r.den)).raw.flip.q:=by
   rw[<-hq,<-hr]
  rw[hf] at hc;have h1:¬nE (dE false A B) (dE false (val r.num) (val r.den))<0:=by unfold nE;rw[hc];omega
  have h2:¬0<nE (dE false A B) (dE false (val r.num) (val r.den)):=by unfold nE;rw[hc];omega
  rw[(kJ _ _ hB hD).1] at h1;rw[(kJ _ _ hB hD).2] at h2;rw[AW (A:=A) (C:=val r.num) hB hD (by omega),<-hq];exact hr
 | true=>
  exfalso
  have hq:r.q=dE true (val r.num) (val r.den):=by unfold Raw.q;rw[Ew]
  have Xv:r.q.neg=true:=by
   have h2:=congrArg Raw.neg hr;rw[Ew] at h2;exact h2.symm
  have hA0:val r.num≠0:=λe=>by
   rw[hq,(fg true hD).2,e] at Xv;simp at Xv
  have hfq:r.flip.q=dE false (val r.num) (val r.den):=by
   unfold Raw.flip Raw.q;simp only;rw[Ew];rfl
  rw[hfq] at hc;have p0:=gF false (A:=A) hB;have z0:=fg false (A:=A) hB;have e1:((dE false A B).raw).q=dE (dE false A B).neg (dE false A B).n (dE false A B).d:=Q.raw_q _;rw[e1,z0.2] at hc;obtain⟨a,ha⟩:∃a,dE false A B=a:=⟨_,rfl⟩;rw[ha] at hc p0;have z1:=fg false (A:=a.n) p0.1;have z2:=fg false (A:=val r.num) hD;have p1:=gF false (A:=a.n) p0.1;have p2:=gF false (A:=val r.num) hD;simp only[adK] at hc z1 z2;obtain⟨p,hp⟩:∃p,dE false a.n a.d=p:=⟨_,rfl⟩;obtain⟨q,hqq⟩:∃q,dE false (val r.num) (val r.den)=q:=⟨_,rfl⟩;rw[hp] at z1 p1 hc;rw[hqq] at z2 p2 hc;have acy:0<q.n:=Nat.pos_of_ne_zero λe=>hA0 (z2.1.1 e);unfold mG vh at hc;rw[z1.2,z2.2] at hc;unfold nX at hc;rw[if_pos rfl] at hc;have hY:0<q.n*p.d:=Nat.mul_pos acy p1.1;have Sl:0<p.d*q.d:=Nat.mul_pos p1.1 p2.1;have z3:=fg false (A:=p.n*q.d+q.n*p.d) Sl;rw[z3.2] at hc;simp only[adK,acg,if_false] at hc;rw[if_neg (λe=>by have:=z3.1.1 e;omega)] at hc;cases hc
theorem Ix {A B:Nat} (hB:0<B):mG ((dE false A B).raw).q ((dE false A B).raw).flip.q=0:=by
 have h1:=(kJ A A hB hB).1;have h2:=(kJ A A hB hB).2;unfold nE at h1 h2;have h3:¬A*B<A*B:=acM _;have h4:¬mG ((dE false A B).raw).q ((dE false A B).raw).flip.q<0:=λh=>h3 (h1.1 h);have h5:¬0<mG ((dE false A B).raw).q ((dE false A B).raw).flip.q:=λh=>h3 (h2.1 h);omega
theorem DT {A B:Nat} (hB:0<B):((dE false A B).raw).valid=true:=by
 have p0:=gF false (A:=A) hB;have z0:=fg false (A:=A) hB;have e1:((dE false A B).raw).q=dE false A B:=by
  rw[Q.raw_q,z0.2,adK];exact AW p0.1 hB p0.2
 unfold Raw.valid;rw[e1];unfold Q.raw;simp
theorem sr {n:Nat} (h:n<=999999):(cF n).length<=1:=fl (k:=1) (by simp;omega)
theorem DU {A B:Nat} (hA:A<=999999) (hB:B<=999999):((dE false A B).raw).num.length<=1/\((dE false A B).raw).den.length<=1:=by
 unfold Q.raw dE;split
 ·exact⟨sr (by show 0<=999999;omega),sr (by show 1<=999999;omega)⟩
 ·exact⟨sr (aao (Nat.div_le_self _ _) hA),sr (aao (Nat.div_le_self _ _) hB)⟩
theorem valid_eq (e:aa):j2 e=fp e:=by
 rw[ady];constructor
 ·intro h;unfold j2 at h;rw[uU] at h;simp only[aal,decide_eq_true_eq] at h;obtain⟨_,h1,h2⟩:=h;have hg:=pG h1;obtain⟨x,hx⟩:∃x,(bY (dX e)).1=x:=⟨_,rfl⟩;rw[hx] at h2 hg;have he:x=e:=by
   unfold SL at h2;simp only[aal,decide_eq_true_eq] at h2;obtain⟨a1,a2,a3,a4,a5,a6,a7,a8,a9,Zi,Zh,Zg,a13,a14⟩:=h2;have b1:=pT Aw a13;have b2:=pT Ar a14;obtain⟨t,d,bl,m,p,c,s,sc,ba,⟨rn,ru,rd⟩,ce,se⟩:=x;obtain⟨t',d',bl',m',p',c',s',sc',ba',⟨rn',ru',rd'⟩,ce',se'⟩:=e;simp only at a1 a2 a3 a4 a5 a6 a7 a8 a9 Zi Zh Zg b1 b2;subst a1 a2 a3 a4 a5 a6 a7 a8 a9 Zi Zh Zg b1 b2;rfl
  have hs:=wE (he▸hg.n);unfold fp;rw[hs,hx,h1];obtain⟨A,B,hB,_,_,hr⟩:=hg.risk;have hre:e.risk=(dE false A B).raw:=by rw[<-he];exact hr
  rw[hre,DT hB];unfold jz;rw[he,hre,Ix hB,kP tB,kP tw];simp
 ·intro h;unfold fp at h;simp only[aal,decide_eq_true_eq] at h;obtain⟨h1,h2,h3⟩:=h;have hg:=pG h1;obtain⟨x,hx⟩:∃x,(bY (dY e)).1=x:=⟨_,rfl⟩;rw[hx] at h3 hg;obtain⟨A,B,hB,hA9,hB9,hr⟩:=hg.risk;have he:x=e:=by
   unfold jz at h3;simp only[aal,decide_eq_true_eq] at h3;obtain⟨a1,a2,a3,a4,a5,a6,a7,a8,a9,Zi,Zh,Zg⟩:=h3;have b1:=pT Aw a6;have b2:=pT Ar a7;rw[hr] at Zi;have b3:=Iy hB h2 Zi;rw[<-hr] at b3;obtain⟨t,d,bl,m,p,c,s,sc,ba,r,ce,se⟩:=x;obtain⟨t',d',bl',m',p',c',s',sc',ba',r',ce',se'⟩:=e;simp only at a1 a2 a3 a4 a5 a8 a9 Zh Zg b1 b2 b3;subst a1 a2 a3 a4 a5 a8 a9 Zh Zg b1 b2 b3;rfl
  have hs:=wE (he▸hg.n);rw[hs] at h1 hx;unfold j2;rw[uU,hx,h1,he];rw[he] at hg hr;have hsm:j6 e=true:=by
   have hl:=DU hA9 hB9;rw[<-hr] at hl;unfold j6;simp only[aal,decide_eq_true_eq,aau];exact⟨hg.prec,hg.cont,hg.styl,hl.1,hl.2,hg.cands,λs hs=>hg.sty s hs⟩
  rw[hsm];unfold SL;rw[kP tB,kP tw];simp
theorem JO {n:Int}:cZ (BR n):=by
 unfold BR;split
 ·exact aY (by decide)
 ·rename_i h;refine aY ?_;show(bj n.toNat).toArray.size<=1000;rw[aa5,<-xL,Lib.decDigits_length];have:=Lib.nDigits_le20 n.toNat (by omega);omega
theorem Dg {n:Int} {l:List ByteArray} (h:∀s∈l,s.size<=1000):cZ (nJ n l):=by
 refine aY ?_;unfold nJ;split
 ·decide
 ·rw[aac];cases hh:l[n.toNat-1]? with
  | none=>decide
  | some s=>exact h s (abL hh)
theorem fU {k:ByteArray} {n:Int} (hk:k.size<=1000):vk (dB k n):=mg hk JO
theorem nh {k:ByteArray} {n:Int} {l:List ByteArray} (hk:k.size<=1000) (h:∀s∈l,s.size<=1000):vk (fj k n l):=mg hk (Dg h)
theorem zn {x:ae} (h8:x.cands.length<=274877906944) (hn:cZ x.name) (hc:∀s∈x.cands,cZ s):gv (dp x):=by
 refine eK (aaz rfl) hn ?_ ?_
 ·show([fj be x.method fR,dB bz x.seats,dB gg x.ranks]++(if x.method=2 then[dB aC x.digits] else[])++[fj gV x.ties kq,fj bV x.over ku,fj gW x.skip kr,(⟨ft,x.cands,0⟩:ao)]).length<=1000;split<;>simp
 ·intro f hf;have hf':f∈[fj be x.method fR,dB bz x.seats,dB gg x.ranks]++(if x.method=2 then[dB aC x.digits] else[])++[fj gV x.ties kq,fj bV x.over ku,fj gW x.skip kr,(⟨ft,x.cands,0⟩:ao)]:=hf;rcases aaH.1 hf' with hf'|hf'
  ·rcases aaH.1 hf' with hf'|hf'
   ·simp only[aas,aaC,or_false] at hf';rcases hf' with rfl|rfl|rfl
    ·exact nh (by decide) (by decide)
    ·exact fU (by decide)
    ·exact fU (by decide)
   ·split at hf'
    ·simp only[aas,aaC,or_false] at hf';subst hf';exact fU (by decide)
    ·cases hf'
  ·simp only[aas,aaC,or_false] at hf';rcases hf' with rfl|rfl|rfl|rfl
   ·exact nh (by decide) (by decide)
   ·exact nh (by decide) (by decide)
   ·exact nh (by decide) (by decide)
   ·exact mZ (by decide) hc h8
theorem Ig {e:aa} (h:du e) (hs:cf e):CC (dX e):=by
 refine⟨hs.title,?_,λx hx=>?_⟩
 ·have:=hs.len;simp only[dX,aaj,abm,aar,aa1];omega
 ·have hx':x∈([(⟨bR,⟨#[]⟩,[dB il e.dots,dB ct e.blank,dB bF e.marked],0⟩:av),⟨aO,⟨#[]⟩,[dB fq e.scan,dB fu e.batch],0⟩,⟨af,⟨#[]⟩,[⟨ed,e.prec,0⟩],0⟩]
   ++e.cont.map dp++e.styl.map (eG e.prec (e.cont.map (·.name)))
   ++[⟨bG,⟨#[]⟩,[⟨dP,[⟨(gD e.risk.q).toArray⟩],0⟩,⟨gm,[e.seed],0⟩],0⟩,⟨bo,⟨#[]⟩,[dB im e.cell],0⟩]):=hx
  rcases aaH.1 hx' with hx'|hx'
  ·rcases aaH.1 hx' with hx'|hx'
   ·rcases aaH.1 hx' with hx'|hx'
    ·simp only[aas,aaC,or_false] at hx';rcases hx' with rfl|rfl|rfl
     ·refine eK (aaz rfl) (aY (aaz rfl)) (by simp) λf hf=>?_;simp only[aas,aaC,or_false] at hf;rcases hf with rfl|rfl|rfl
      ·exact fU (by decide)
      ·exact fU (by decide)
      ·exact fU (by decide)
     ·refine eK (aaz rfl) (aY (aaz rfl)) (by simp) λf hf=>?_;simp only[aas,aaC,or_false] at hf;rcases hf with rfl|rfl
      ·exact fU (by decide)
      ·exact fU (by decide)
     ·refine eK (aaz rfl) (aY (aaz rfl)) (by simp) λf hf=>?_;simp only[aas,aaC,or_false] at hf;subst hf;exact mZ (by decide) hs.prec h.lp
    ·obtain⟨c,hc,rfl⟩:=acX.1 hx';obtain⟨_,_,_,_,_,_,_,h8⟩:=h.conts c hc;exact zn h8 (hs.cont c hc).1 (hs.cont c hc).2
   ·obtain⟨c,hc,rfl⟩:=acX.1 hx';refine tp (h.styls c hc) (hs.styl c hc) hs.prec λs Xq=>?_;obtain⟨d,hd,rfl⟩:=acX.1 Xq;exact(hs.cont d hd).1
  ·simp only[aas,aaC,or_false] at hx';rcases hx' with rfl|rfl
   ·refine eK (aaz rfl) (aY (aaz rfl)) (by simp) λf hf=>?_;simp only[aas,aaC,or_false] at hf;rcases hf with rfl|rfl
    ·exact mg (by decide) (tm h.short)
    ·exact mg (by decide) hs.seed
   ·refine eK (aaz rfl) (aY (aaz rfl)) (by simp) λf hf=>?_;simp only[aas,aaC,or_false] at hf;subst hf;exact fU (by decide)
noncomputable def C13:gb Tryz.prog:=ci Ud [⟨_,_,_,Ik⟩,⟨_,_,_,DF⟩,⟨_,_,_,Cc⟩,⟨_,_,_,Yy⟩] []
def vlT (e:aa):T XV:=.br (!(j6 e)) (.lf (aB false)) (.nd (GQ e) (.nd (Dz (dX e)) (.br (decide ((fO (dX e)).2.no=0)) (.br true (.lf (aB (SL (fO (dX e)).1 e))) (.lf (aB false))) (.br ((fO (dX e)).2.no==0) (.lf (aB (SL .zero e))) (.lf (aB false))))))
theorem YI {e:aa} (h:j6 e=true):GQ e:=by
 unfold j6 at h;simp only[aal,decide_eq_true_eq,aau] at h;obtain⟨h1,h2,h3,h4,h5,h6,h7⟩:=h;have hn:val e.risk.num<4294967296:=aay (dL _) (by rw[show(4294967296:Nat)=4294967296^1 from rfl];exact ac0 (by decide) h4);have hd:val e.risk.den<4294967296:=aay (dL _) (by rw[show(4294967296:Nat)=4294967296^1 from rfl];exact ac0 (by decide) h5);obtain⟨q1,q2⟩:=Mp e.risk.neg (val e.risk.num) (val e.risk.den);have hb:(4294967296:Nat)<=2^200:=by decide
 exact⟨by omega,by omega,by omega,λc hc=>aao (h6 c hc) (by decide),λy hy=>⟨aao (h7 y hy).1 (by decide),aao (h7 y hy).2 (by decide)⟩,⟨aao h4 (by decide),aao h5 (by decide)⟩,
  aay (Nat.lt_of_le_of_lt q1 hn) hb,aay (Nat.lt_of_le_of_lt q2 (by omega)) hb⟩
theorem Qt {s:bP} (h:CC s):Dz s:=by
 obtain⟨h1,h2,h3⟩:=h;refine⟨aao h1 (by decide),aao h2 (by decide),λb hb=>?_⟩;obtain⟨g1,g2,g3,g4⟩:=h3 b hb;exact⟨aao g2 (by decide),aao g3 (by decide),λf hf=>⟨⟨λs hs=>aao ((g4 f hf).1.2.1 s hs) (by decide),(g4 f hf).1.2.2⟩,aao g1 (by decide),aao (g4 f hf).1.1 (by decide)⟩⟩
theorem wy:au Tryz.prog 17 false (aD [(0,sE)] λ((e:aa),_)=>.nd (du e/\cf e) (.lf (aB (j2 e)))):=
 bg (C:=C13) (nL _ _) false 99 [(0,sE)] (λ((e:aa),_)=>vlT e)
  (λ⟨(e:aa),_⟩ r _ ⟨⟨h1,h2⟩,h⟩=>by
   obtain rfl:aB (j2 e)=r:=h;refine⟨?_,.inr rfl⟩;show(vlT e).hit _;unfold vlT j2;cases hs:j6 e with
   | false=>exact aH rfl rfl
   | true=>
    rw[acW];refine aP rfl ⟨YI hs,Qt (Ig h1 h2),?_⟩;by_cases hn:(fO (dX e)).2.no=0
    ·rw[decide_eq_true hn,acW];exact aH rfl (aH rfl rfl)
    ·rw[decide_eq_false hn,adK];exact aP rfl (aP (beq_eq_false_iff_ne.2 hn) rfl)) Tryz.func17
end Go.Proofs.YtdbpbfglhbiadaaGreatDoor
