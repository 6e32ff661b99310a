/- Law3 Law4 Ref38 Tm18 -/
import Derived.Test.YtdbpbfglhbiadaaGreatDoorH00
import Derived.Test.YtdbpbfglhbiadaaGreatDoorH39
import Derived.Test.YtdbpbfglhbiadaaGreatDoorH35
import Derived.Test.YtdbpbfglhbiadaaGreatDoorH38
set_option maxHeartbeats 4000000
set_option maxRecDepth 100000
namespace Go.Proofs.YtdbpbfglhbiadaaGreatDoor
open Go.RowKit Go
theorem CC {kind nm:ByteArray} {b:cE} {v:aJ} {x:em} (h:nr kind nm b v x) (line:Int):∀(l:List ByteArray),(∀k∈l,k∈aO kind)-> fx x.known x.c.method line l ⟨0,0⟩=if l.any (ey v)=true then⟨6,line⟩ else⟨0,0⟩
 | [],_=>rfl
 | k::l,hl=>by
  have hk:=hl k (by simp);have hm:k=aH->x.c.method=v.n bg:=λe=>by
   subst e;by_cases hc:kind=ar
   ·have:=(h.c hc).1;have h2:=congrArg ae.method this;exact h2
   ·exfalso
    rcases lF hk with⟨_,q⟩|⟨_,q⟩|⟨_,q⟩|⟨q,_⟩|⟨_,q⟩|⟨_,q⟩|⟨_,q⟩
    ·revert q;decide
    ·revert q;decide
    ·revert q;decide
    ·exact hc q
    ·revert q;decide
    ·revert q;decide
    ·revert q;decide
  have j7:(dc x.known k=true\/(k=aH/\x.c.method≠2))↔ey v k=false:=by
   unfold ey;rw[h.kn k];by_cases hd:k=aH
   ·rw[hm hd];cases (v.ln k).isSome<;>simp[hd]
   ·cases (v.ln k).isSome<;>simp[hd]
  unfold fx;rw[if_neg (by simp)];cases hp:ey v k with
  | true=>
   rw[if_neg (by rw[j7,hp];simp),gm];have h6:jr 6 line=⟨6,line⟩:=rfl;rw[h6];have eu:∀q:List ByteArray,fx x.known x.c.method line q ⟨6,line⟩=⟨6,line⟩:=λq=>by
    cases q with
    | nil=>rfl
    | cons _ _=>unfold fx;rw[if_pos (by simp)]
   rw[eu,ac1,hp];rfl
  | false=>
   rw[if_pos (j7.2 hp),gm,qA,CC h line l (λq hq=>hl q (by simp[hq])),ac1,hp,acY]
theorem rO (v:aJ) (line:Int) (e:dG):∀l:List ByteArray,mU v line e l=if l.any (ey v)=true then⟨6,line⟩ else e
 | []=>rfl
 | k::l=>by
  unfold mU;rw[ac1];cases hp:ey v k with
  | true=>simp
  | false=>rw[if_neg (by simp),rO v line e l,acY]
theorem vB (k:ByteArray):kr k=if k=ar then true else if k=aG then true else false:=rfl
structure pv (b:cE) (t:eD):Prop where
 f:t.f=⟨0,0⟩
 e:t.e=b.e
 seen:∀k,dc t.seen k=decide (b.of k≠[])
 cs:b.of ar=t.e.cont.map (·.name)
 ss:b.of aG=t.e.styl.map (·.name)
 lc:t.e.cont.length<=4
 ls:t.e.styl.length<=6
 names:t.names=b.vals.map λv=>(v.s af,v.s ay)
 lines:t.lines=b.vals.map λv=>(v.l af,v.l ay)
 z1:b.of bZ=[]->t.e.dots=0/\t.e.blank=0/\t.e.marked=0
 z2:b.of aX=[]->t.e.scan=0/\t.e.batch=0
 z3:b.of af=[]->t.e.prec=[]
 z4:b.of bP=[]->t.e.risk=⟨false,[],[]⟩/\t.e.seed=⟨#[]⟩
 z5:b.of bB=[]->t.e.cell=0
theorem RF (l:List ae) (nm:ByteArray):(l.any λc=>decide (c.name=nm))=Lib.containsS (l.map (·.name)) nm:=by
 rw[acD,Lib.containsS_iff,adf];simp only[acu,decide_eq_true_eq]
theorem Md (l:List aj) (nm:ByteArray):(l.any λc=>decide (c.name=nm))=Lib.containsS (l.map (·.name)) nm:=by
 rw[acD,Lib.containsS_iff,adf];simp only[acu,decide_eq_true_eq]
theorem RB {s:ByteArray}:s.data.toList=[]↔s=⟨#[]⟩:=by
 constructor
 ·intro h;obtain⟨⟨l⟩⟩:=s;have:l=[]:=h;rw[this]
 ·rintro rfl;rfl
theorem head_eq {b:cE} {t:eD} (h:pv b t) (kind nm:ByteArray):jq t kind nm=fg kind nm (b.of kind):=by
 unfold jq fg;by_cases h0:aO kind=[]
 ·rw[if_pos h0,if_pos h0]
 rw[if_neg h0,if_neg h0];have hm:kr kind=ij kind:=by
  rw[vB];unfold ij;by_cases h1:kind=ar
  ·rw[if_pos h1,decide_eq_true h1];rfl
  ·rw[if_neg h1,decide_eq_false h1];by_cases h2:kind=aG
   ·rw[if_pos h2,decide_eq_true h2];rfl
   ·rw[if_neg h2,decide_eq_false h2];rfl
 rw[hm];cases Sp:ij kind with
 | false=>
  have nR:kind≠ar:=λe=>by rw[e] at Sp;revert Sp;decide
  have gM:kind≠aG:=λe=>by rw[e] at Sp;revert Sp;decide
  have hs:=h.seen kind;rw[if_neg (by simp),if_neg (by simp),if_neg (by simp),if_neg (by rintro(⟨q,_⟩|⟨q,_⟩);exact nR q;exact gM q),if_pos rfl];by_cases hn:nm≠⟨#[]⟩
  ·rw[if_pos ⟨rfl,hn⟩,if_pos hn]
  ·rw[if_neg (λq=>hn q.2),if_neg hn,hs];by_cases hl:b.of kind≠[]
   ·rw[if_pos ⟨rfl,decide_eq_true hl⟩,if_pos (acF.2 hl)]
   ·rw[if_neg (λq=>hl (of_decide_eq_true q.2)),if_neg (λq=>hl (acF.1 q))]
 | true=>
  rw[if_neg (by simp:¬(true=false))];by_cases hn:nm=⟨#[]⟩
  ·rw[if_pos ⟨rfl,hn⟩,if_pos hn]
  ·rw[if_neg (λq=>hn q.2),if_neg hn];have hw:=SO (l:=nm.data.toList) (λe=>hn (RB.1 e));by_cases h8:iD nm.data.toList=false\/((nm.data.toList[0]?).getD 0).toNat<97\/24<nm.size
   ·rw[if_pos h8,if_pos ⟨rfl,by rcases h8 with q|q|q;exact .inl (hw.2 (.inl q));exact .inl (hw.2 (.inr q));exact .inr q⟩]
   ·rw[if_neg h8,if_neg (by
     rintro⟨_,q|q⟩
     ·rcases hw.1 q with q|q
      ·exact h8 (.inl q)
      ·exact h8 (.inr (.inl q))
     ·exact h8 (.inr (.inr q)))]
    have afX:(kind=ar/\(t.e.cont.any λc=>decide (c.name=nm))=true)\/(kind=aG/\(t.e.styl.any λc=>decide (c.name=nm))=true)↔Lib.containsS (b.of kind) nm=true:=by
     rw[RF,Md,<-h.cs,<-h.ss];constructor
     ·rintro(⟨q,r⟩|⟨q,r⟩)<;>rw[q]<;>exact r
     ·intro r;by_cases q:kind=ar
      ·left;rw[q] at r;exact⟨q,r⟩
      ·have q2:kind=aG:=by
        unfold ij at Sp;rw[decide_eq_false q,acY,decide_eq_true_eq] at Sp;exact Sp
       right;rw[q2] at r;exact⟨q2,r⟩
    have kw:(kind=ar/\4<=t.e.cont.length)\/(kind=aG/\6<=t.e.styl.length)↔((b.of kind).length:Int)=cI kind:=by
     have c1:cI ar=4:=by kernel_rfl
     have c2:cI aG=6:=by kernel_rfl
     have l1:(b.of ar).length=t.e.cont.length:=by rw[h.cs,acf]
     have l2:(b.of aG).length=t.e.styl.length:=by rw[h.ss,acf]
     have b1:=h.lc;have b2:=h.ls;by_cases q:kind=ar
     ·subst q;rw[c1,l1];constructor
      ·rintro(⟨_,r⟩|⟨r,_⟩)
       ·omega
       ·exact absurd r (by decide)
      ·intro r;left;exact⟨rfl,by omega⟩
     ·have q2:kind=aG:=by
       unfold ij at Sp;rw[decide_eq_false q,acY,decide_eq_true_eq] at Sp;exact Sp
      subst q2;rw[c2,l2];constructor
      ·rintro(⟨r,_⟩|⟨_,r⟩)
       ·exact absurd r (by decide)
       ·omega
      ·intro r;right;exact⟨rfl,by omega⟩
    by_cases h3:Lib.containsS (b.of kind) nm=true
    ·rw[if_pos ⟨rfl,afX.2 h3⟩,if_pos h3]
    ·rw[if_neg (λq=>h3 (afX.1 q.2)),if_neg h3];by_cases h7:((b.of kind).length:Int)=cI kind
     ·rw[if_pos (kw.2 h7),if_pos h7]
     ·rw[if_neg (λq=>h7 (kw.1 q)),if_neg h7,if_neg (λq=>by cases q.1),if_neg (λq=>by cases q.1)]
theorem Fg {b:cE} {t:eD} (h:pv b t) (x:ak) (h0:fg x.kind x.name (b.of x.kind)=0):nr x.kind x.name (b.named x.kind x.name) aJ.zero (em.start t x):=by
 have hh:=head_eq h x.kind x.name;rw[h0] at hh;have hd:fg x.kind x.name (b.of x.kind)=0:=h0;have PK:x.kind≠ar->x.kind≠aG->b.of x.kind=[]:=λh1 h2=>by
  unfold fg at hd;by_cases hk:aO x.kind=[]
  ·rw[if_pos hk] at hd;cases hd
  rw[if_neg hk,if_pos (by rw[vB,if_neg h1,if_neg h2])] at hd;split at hd
  ·cases hd
  split at hd
  ·cases hd
  ·rename_i q;exact aca.1 λr=>q (acF.2 r)
 exact {
  f:=by show t.f.note (jq t x.kind x.name) x.line=_;rw[hh,FH,h.f]
  kn:=λk=>by show dc [] k=(none:Option Int).isSome;rfl
  only:=λk hk=>by cases hk
  e:=λh1 h2=>by
   have ho:=PK h1 h2;show t.e=_;have hb:(b.named x.kind x.name).e=b.e:=rfl;unfold bb;obtain⟨kind,nm,fields,line⟩:=x;simp only at ho h1 h2 hb ⊢;by_cases q1:kind=bZ
   ·subst q1;obtain⟨z1,z2,z3⟩:=h.z1 ho;rw[if_pos rfl,hb,<-h.e];exact(show t.e={ t.e with dots:=t.e.dots,blank:=t.e.blank,marked:=t.e.marked } from rfl).trans (by rw[z1,z2,z3];rfl)
   rw[if_neg q1];by_cases q2:kind=aX
   ·subst q2;obtain⟨z1,z2⟩:=h.z2 ho;rw[if_pos rfl,hb,<-h.e];exact(show t.e={ t.e with scan:=t.e.scan,batch:=t.e.batch } from rfl).trans (by rw[z1,z2];rfl)
   rw[if_neg q2];by_cases q3:kind=af
   ·subst q3;have z1:=h.z3 ho;rw[if_pos rfl,hb,<-h.e];exact(show t.e={ t.e with prec:=t.e.prec } from rfl).trans (by rw[z1];rfl)
   rw[if_neg q3,if_neg h1,if_neg h2];by_cases q4:kind=bP
   ·subst q4;obtain⟨z1,z2⟩:=h.z4 ho;rw[if_pos rfl,hb,<-h.e];exact(show t.e={ t.e with risk:=t.e.risk,seed:=t.e.seed } from rfl).trans (by rw[z1,z2];rfl)
   rw[if_neg q4];by_cases q5:kind=bB
   ·subst q5;have z1:=h.z5 ho;rw[if_pos rfl,hb,<-h.e];exact(show t.e={ t.e with cell:=t.e.cell } from rfl).trans (by rw[z1];rfl)
   rw[if_neg q5,hb,h.e]
  e':=λ_=>h.e
  c:=λ_=>⟨rfl,rfl,rfl⟩
  c':=λ_=>rfl
  s:=λ_=>⟨rfl,rfl,rfl,rfl⟩ }
theorem gG (b:cE) (kind nm k:ByteArray):(b.named kind nm).of k=if k=kind then b.of kind++[nm] else b.of k:=by
 unfold cE.named cE.of setF;simp only;by_cases h:k=kind
 ·rw[if_pos h,if_pos h];rfl
 ·rw[if_neg h,if_neg h]
theorem gF (kind nm:ByteArray) (v:aJ) (b:cE) (k:ByteArray):(bb kind nm v b).of k=b.of k:=by
 unfold bb
 repeat' split
 all_goals rfl
theorem rD {b:cE} {t:eD} (h:pv b t) (kind nm:ByteArray) (v:aJ) (k:ByteArray):dc (t.seen++[kind]) k=decide ((bb kind nm v (b.named kind nm)).of k≠[]):=by
 rw[gF,gG,yL,h.seen];by_cases hk:k=kind
 ·rw[if_pos hk,decide_eq_true hk,decide_eq_true (show b.of kind++[nm]≠[] by simp),Bool.or_true]
 ·rw[if_neg hk,decide_eq_false hk];simp
theorem Fc {kind:ByteArray} {fs:List ai} {x:em} (h:x.f.no≠0):dj kind fs x=x:=by
 cases fs with
 | nil=>rfl
 | cons f l=>unfold dj;rw[if_pos h]
theorem yi {known:List ByteArray} {m line:Int} {l:List ByteArray} {f:dG} (h:f.no≠0):fx known m line l f=f:=by
 cases l with
 | nil=>rfl
 | cons k l=>unfold fx;rw[if_pos h]
theorem wE {t:eD} {x:ak} {y:em} (h:(fx y.known y.c.method x.line (aO x.kind) y.f).no≠0):(sk t x y).f=fx y.known y.c.method x.line (aO x.kind) y.f:=by
 unfold sk;simp only;rw[if_pos h]
theorem LH {t:eD} {x:ak} {y:em} (h:fx y.known y.c.method x.line (aO x.kind) y.f=⟨0,0⟩):sk t x y= if x.kind=ar then { t with e:={ y.e with cont:=y.e.cont++[{ y.c with name:=x.name }] },f:=((⟨0,0⟩:dG).note (if dc y.known aH=true/\y.c.method≠2 then 5 else 0) y.digits).note (if y.c.method=1/\1<y.c.seats then 4 else 0) y.seats,seen:=t.seen++[x.kind] } else if x.kind=aG then { t with e:={ y.e with styl:=y.e.styl++[⟨x.name,[],[]⟩] },f:=⟨0,0⟩,seen:=t.seen++[x.kind],names:=t.names++[(y.n0,y.n1)],lines:=t.lines++[(y.l0,y.l1)] } else if x.kind=bZ/\y.e.marked<y.e.blank then { t with e:=y.e,f:=(⟨0,0⟩:dG).note 4 x.line,seen:=t.seen++[x.kind] } else { t with e:=y.e,f:=⟨0,0⟩,seen:=t.seen++[x.kind] }:=by
 unfold sk;simp only[h];rw[if_neg (by simp)];rfl
theorem Df {kind nm:ByteArray} {ns:List ByteArray} (h:fg kind nm ns=0) (hk:kind=ar\/kind=aG):(ns.length:Int)≠cI kind:=by
 intro e;unfold fg at h;split at h
 ·cases h
 split at h
 ·rename_i _ q;rcases hk with rfl|rfl
  ·revert q;decide
  ·revert q;decide
 split at h
 ·cases h
 split at h
 ·cases h
 split at h
 ·cases h
 first|(cases h;done)|(rw[if_pos e] at h;cases h)
theorem Ll {kind nm:ByteArray} {ns:List ByteArray} (h:fg kind nm ns=0):kind=bZ\/kind=aX\/kind=af\/kind=ar\/kind=aG\/kind=bP\/kind=bB:=by
 have h0:aO kind≠[]:=λe=>by
  unfold fg at h;rw[if_pos e] at h;cases h
 obtain⟨k,hk⟩:=List.exists_mem_of_ne_nil _ h0;rcases lF hk with⟨q,_⟩|⟨q,_⟩|⟨q,_⟩|⟨q,_⟩|⟨q,_⟩|⟨q,_⟩|⟨q,_⟩
 ·exact .inl q
 ·exact .inr (.inl q)
 ·exact .inr (.inr (.inl q))
 ·exact .inr (.inr (.inr (.inl q)))
 ·exact .inr (.inr (.inr (.inr (.inl q))))
 ·exact .inr (.inr (.inr (.inr (.inr (.inl q)))))
 ·exact .inr (.inr (.inr (.inr (.inr (.inr q)))))
theorem KN {kind nm:ByteArray} {b:cE} {v:aJ} {x:em} (h:nr kind nm b v x) (hk:kind≠ar):(v.ln aH).isSome=false:=by
 cases hs:(v.ln aH).isSome with
 | false=>rfl
 | true=>
  exfalso
  rcases lF (h.only _ hs) with⟨_,q⟩|⟨_,q⟩|⟨_,q⟩|⟨q,_⟩|⟨_,q⟩|⟨_,q⟩|⟨_,q⟩
  ·revert q;decide
  ·revert q;decide
  ·revert q;decide
  ·exact hk q
  ·revert q;decide
  ·revert q;decide
  ·revert q;decide
theorem jP {b:cE} {t:eD} (h:pv b t) {kind nm:ByteArray} {v:aJ} {e':aa} (h1:kind≠ar) (h2:kind≠aG) (he:e'=(bb kind nm v (b.named kind nm)).e) (hc:e'.cont=b.e.cont) (hs:e'.styl=b.e.styl) (Bu:(bb kind nm v (b.named kind nm)).vals=b.vals) (z1:kind≠bZ->e'.dots=b.e.dots/\e'.blank=b.e.blank/\e'.marked=b.e.marked) (z2:kind≠aX->e'.scan=b.e.scan/\e'.batch=b.e.batch) (z3:kind≠af->e'.prec=b.e.prec) (z4:kind≠bP->e'.risk=b.e.risk/\e'.seed=b.e.seed) (z5:kind≠bB->e'.cell=b.e.cell) : pv (bb kind nm v (b.named kind nm)) { t with e:=e',f:=⟨0,0⟩,seen:=t.seen++[kind] }:=by
 have hz:∀k,(bb kind nm v (b.named kind nm)).of k=[]->kind≠k/\b.of k=[]:=λk hk=>by
  rw[gF,gG] at hk;by_cases q:k=kind
  ·rw[if_pos q] at hk;simp at hk
  ·rw[if_neg q] at hk;exact⟨acE q,hk⟩
 exact {
  f:=rfl
  e:=he
  seen:=λk=>rD h kind nm v k
  cs:=by
   rw[gF,gG,if_neg (acE h1),h.cs];show _=e'.cont.map _;rw[hc,h.e]
  ss:=by
   rw[gF,gG,if_neg (acE h2),h.ss];show _=e'.styl.map _;rw[hs,h.e]
  lc:=by show e'.cont.length<=4;rw[hc,<-h.e];exact h.lc
  ls:=by show e'.styl.length<=6;rw[hs,<-h.e];exact h.ls
  names:=by rw[Bu];exact h.names
  lines:=by rw[Bu];exact h.lines
  z1:=λk=>by
   obtain⟨q1,q2⟩:=hz _ k;have q3:=h.z1 q2;rw[h.e] at q3;obtain⟨a1,a2,a3⟩:=z1 q1;exact⟨a1.trans q3.1,a2.trans q3.2.1,a3.trans q3.2.2⟩
  z2:=λk=>by
   obtain⟨q1,q2⟩:=hz _ k;have q3:=h.z2 q2;rw[h.e] at q3;obtain⟨a1,a2⟩:=z2 q1;exact⟨a1.trans q3.1,a2.trans q3.2⟩
  z3:=λk=>by
   obtain⟨q1,q2⟩:=hz _ k;have q3:=h.z3 q2;rw[h.e] at q3;exact(z3 q1).trans q3
  z4:=λk=>by
   obtain⟨q1,q2⟩:=hz _ k;have q3:=h.z4 q2;rw[h.e] at q3;obtain⟨a1,a2⟩:=z4 q1;exact⟨a1.trans q3.1,a2.trans q3.2⟩
  z5:=λk=>by
   obtain⟨q1,q2⟩:=hz _ k;have q3:=h.z5 q2;rw[h.e] at q3;exact(z5 q1).trans q3 }
theorem Fv {kind:ByteArray} {line:Int} {v:aJ} (h:(i9 kind line v).no=0):i9 kind line v=⟨0,0⟩:=by
 unfold i9 at h ⊢;split
 ·rename_i q;rw[if_pos q] at h;cases h
 split
 ·rename_i q1 q;rw[if_neg q1,if_pos q] at h;cases h
 split
 ·rename_i q1 q2 q;rw[if_neg q1,if_neg q2,if_pos q] at h;cases h
 ·rfl
theorem aba {b:cE} {t:eD} (h:pv b t) {x:ak} (h0:fg x.kind x.name (b.of x.kind)=0) {v:aJ} {y:em} (hv:nr x.kind x.name (b.named x.kind x.name) v y) (hm:fx y.known y.c.method x.line (aO x.kind) y.f=⟨0,0⟩) : (sk t x y).f=i9 x.kind x.line v/\((i9 x.kind x.line v).no=0->pv (bb x.kind x.name v (b.named x.kind x.name)) (sk t x y)):=by
 rw[LH hm];obtain⟨kind,nm,fields,line⟩:=x;simp only at h0 hv hm ⊢;have hz:∀k,(bb kind nm v (b.named kind nm)).of k=[]->kind≠k/\b.of k=[]:=λk hk=>by
  rw[gF,gG] at hk;by_cases q:k=kind
  ·rw[if_pos q] at hk;simp at hk
  ·rw[if_neg q] at hk;exact⟨acE q,hk⟩
 by_cases hc:kind=ar
 ·subst hc;obtain⟨c1,c2,c3⟩:=hv.c rfl;have m1:y.c.method=v.n bg:=congrArg ae.method c1;have m2:y.c.seats=v.n bH:=congrArg ae.seats c1;have he:y.e=b.e:=hv.e' (.inl rfl);have kw:=Df h0 (.inl rfl);have hc4:cI ar=4:=by kernel_rfl
  have bJ:(b.of ar).length=t.e.cont.length:=by rw[h.cs,acf]
  have hlc:=h.lc;have c1:(⟨nm,y.c.cands,y.c.method,y.c.seats,y.c.ranks,y.c.digits,y.c.ties,y.c.over,y.c.skip⟩:ae)=dK nm v:=c1;rw[if_pos rfl,c1,hv.kn,m1,m2,c2,c3,he];refine⟨?_,λhr=>?_⟩
  ·show((⟨0,0⟩:dG).note _ _).note _ _=_;unfold i9;by_cases p5:(v.ln aH).isSome=true/\v.n bg≠2
   ·rw[if_pos p5,if_pos p5,gm,rF (by rw[qC];omega)];rfl
   ·rw[if_neg p5,if_neg p5,gm,qA,gm];by_cases p4:v.n bg=1/\1<v.n bH
    ·rw[if_pos p4,if_pos ⟨rfl,p4⟩];rfl
    ·rw[if_neg p4,if_neg (λq=>p4 q.2),if_neg (λq=>by revert q;exact λq=>absurd q.1 (by decide))];rfl
  ·have eu:bb ar nm v (b.named ar nm)={ b.named ar nm with e:={ b.e with cont:=b.e.cont++[dK nm v] } }:=by
    unfold bb;rw[if_neg (by decide),if_neg (by decide),if_neg (by decide),if_pos rfl];rfl
   have hf:((⟨0,0⟩:dG).note (if(v.ln aH).isSome=true/\v.n bg≠2 then 5 else 0) (v.l aH)).note (if v.n bg=1/\1<v.n bH then 4 else 0) (v.l bH)=⟨0,0⟩:=by
    unfold i9 at hr;by_cases p5:(v.ln aH).isSome=true/\v.n bg≠2
    ·rw[if_pos p5] at hr;cases hr
    ·rw[if_neg p5] at hr;rw[if_neg p5,gm,qA,gm];by_cases p4:v.n bg=1/\1<v.n bH
     ·rw[if_pos ⟨rfl,p4⟩] at hr;cases hr
     ·rw[if_neg p4];rfl
   exact {
    f:=hf
    e:=by rw[eu]
    seen:=λk=>rD h ar nm v k
    cs:=by
     rw[gF,gG,if_pos rfl,h.cs,h.e];show _=(b.e.cont++[dK nm v]).map _;rw[ac9];rfl
    ss:=by
     rw[gF,gG,if_neg (by decide),h.ss,h.e]
    lc:=by
     show(b.e.cont++[dK nm v]).length<=4;rw[aaM,abA,<-h.e];rw[hc4,bJ] at kw;omega
    ls:=by show b.e.styl.length<=6;rw[<-h.e];exact h.ls
    names:=by rw[eu];exact h.names
    lines:=by rw[eu];exact h.lines
    z1:=λk=>by have q:=h.z1 (hz _ k).2;rw[h.e] at q;exact q
    z2:=λk=>by have q:=h.z2 (hz _ k).2;rw[h.e] at q;exact q
    z3:=λk=>by have q:=h.z3 (hz _ k).2;rw[h.e] at q;exact q
    z4:=λk=>by have q:=h.z4 (hz _ k).2;rw[h.e] at q;exact q
    z5:=λk=>by have q:=h.z5 (hz _ k).2;rw[h.e] at q;exact q }
 rw[if_neg hc];have EE:=KN hv hc;have IZ:i9 kind line v=if kind=bZ/\v.n bO<v.n cF then⟨4,line⟩ else⟨0,0⟩:=by
  unfold i9;rw[if_neg (by rw[EE];simp),if_neg (λq=>hc q.1)]
 rw[IZ];by_cases hs:kind=aG
 ·subst hs;obtain⟨s1,s2,s3,s4⟩:=hv.s rfl;have he:y.e=b.e:=hv.e' (.inr rfl);have kw:=Df h0 (.inr rfl);have hc4:cI aG=6:=by kernel_rfl
  have bJ:(b.of aG).length=t.e.styl.length:=by rw[h.ss,acf]
  have hls:=h.ls;rw[if_pos rfl,if_neg (λq=>absurd q.1 (by decide)),s1,s2,s3,s4,he];refine⟨rfl,λ_=>?_⟩;have eu:bb aG nm v (b.named aG nm)={ b.named aG nm with e:={ b.e with styl:=b.e.styl++[⟨nm,[],[]⟩] },vals:=b.vals++[v] }:=by
   unfold bb;rw[if_neg (by decide),if_neg (by decide),if_neg (by decide),if_neg (by decide),if_pos rfl];rfl
  exact {
   f:=rfl
   e:=by rw[eu]
   seen:=λk=>rD h aG nm v k
   cs:=by
    rw[gF,gG,if_neg (by decide),h.cs,h.e]
   ss:=by
    rw[gF,gG,if_pos rfl,h.ss,h.e];show _=(b.e.styl++[(⟨nm,[],[]⟩:aj)]).map _;rw[ac9];rfl
   lc:=by show b.e.cont.length<=4;rw[<-h.e];exact h.lc
   ls:=by
    show(b.e.styl++[(⟨nm,[],[]⟩:aj)]).length<=6;rw[aaM,abA,<-h.e];rw[hc4,bJ] at kw;omega
   names:=by
    rw[eu];show t.names++_=(b.vals++[v]).map _;rw[h.names,ac9];rfl
   lines:=by
    rw[eu];show t.lines++_=(b.vals++[v]).map _;rw[h.lines,ac9];rfl
   z1:=λk=>by have q:=h.z1 (hz _ k).2;rw[h.e] at q;exact q
   z2:=λk=>by have q:=h.z2 (hz _ k).2;rw[h.e] at q;exact q
   z3:=λk=>by have q:=h.z3 (hz _ k).2;rw[h.e] at q;exact q
   z4:=λk=>by have q:=h.z4 (hz _ k).2;rw[h.e] at q;exact q
   z5:=λk=>by have q:=h.z5 (hz _ k).2;rw[h.e] at q;exact q }
 rw[if_neg hs];have he:=hv.e hc hs;have hb:(b.named kind nm).e=b.e:=rfl;have Mt:(b.named kind nm).vals=b.vals:=rfl;by_cases q1:kind=bZ
 ·subst q1;have eu:(bb bZ nm v (b.named bZ nm)).e={ b.e with dots:=v.n iK,blank:=v.n cF,marked:=v.n bO }:=by
   unfold bb;rw[if_pos rfl];rfl
  have e1:y.e.marked=v.n bO:=by rw[he,eu]
  have e2:y.e.blank=v.n cF:=by rw[he,eu]
  rw[e1,e2];by_cases q:v.n bO<v.n cF
  ·rw[if_pos ⟨rfl,q⟩,if_pos ⟨rfl,q⟩];exact⟨rfl,λk=>by cases k⟩
  ·rw[if_neg (λk=>q k.2),if_neg (λk=>q k.2)];refine⟨rfl,λ_=>jP h hc hs he ?_ ?_ ?_ (λk=>absurd rfl k) (λ_=>?_) (λ_=>?_) (λ_=>?_) (λ_=>?_)⟩
   all_goals first|(rw[he,eu];exact⟨rfl,rfl⟩)|(rw[he,eu])|(unfold bb;rw[if_pos rfl];rfl)
 rw[if_neg (λk=>q1 k.1),if_neg (λk=>q1 k.1)];refine⟨rfl,λ_=>?_⟩;rcases Ll h0 with rfl|rfl|rfl|rfl|rfl|rfl|rfl
 ·exact absurd rfl q1
 ·have eu:bb aX nm v (b.named aX nm)={ b.named aX nm with e:={ b.e with scan:=v.n fJ,batch:=v.n fL } }:=by
   unfold bb;rw[if_neg (by decide),if_pos rfl];rfl
  refine jP h hc hs he ?_ ?_ ?_ (λ_=>?_) (λk=>absurd rfl k) (λ_=>?_) (λ_=>?_) (λ_=>?_)
  all_goals first|(rw[he,eu];exact⟨rfl,rfl,rfl⟩)|(rw[he,eu];exact⟨rfl,rfl⟩)|(rw[he,eu])|(rw[eu];rfl)
 ·have eu:bb af nm v (b.named af nm)={ b.named af nm with e:={ b.e with prec:=v.s eA } }:=by
   unfold bb;rw[if_neg (by decide),if_neg (by decide),if_pos rfl];rfl
  refine jP h hc hs he ?_ ?_ ?_ (λ_=>?_) (λ_=>?_) (λk=>absurd rfl k) (λ_=>?_) (λ_=>?_)
  all_goals first|(rw[he,eu];exact⟨rfl,rfl,rfl⟩)|(rw[he,eu];exact⟨rfl,rfl⟩)|(rw[he,eu])|(rw[eu];rfl)
 ·exact absurd rfl hc
 ·exact absurd rfl hs
 ·have eu:bb bP nm v (b.named bP nm)={ b.named bP nm with e:={ b.e with risk:=v.risk,seed:=v.seed } }:=by
   unfold bb;rw[if_neg (by decide),if_neg (by decide),if_neg (by decide),if_neg (by decide),if_neg (by decide),if_pos rfl];rfl
  refine jP h hc hs he ?_ ?_ ?_ (λ_=>?_) (λ_=>?_) (λ_=>?_) (λk=>absurd rfl k) (λ_=>?_)
  all_goals first|(rw[he,eu];exact⟨rfl,rfl,rfl⟩)|(rw[he,eu];exact⟨rfl,rfl⟩)|(rw[he,eu])|(rw[eu];rfl)
 ·have eu:bb bB nm v (b.named bB nm)={ b.named bB nm with e:={ b.e with cell:=v.n iL } }:=by
   unfold bb;rw[if_neg (by decide),if_neg (by decide),if_neg (by decide),if_neg (by decide),if_neg (by decide),if_neg (by decide),if_pos rfl];rfl
  refine jP h hc hs he ?_ ?_ ?_ (λ_=>?_) (λ_=>?_) (λ_=>?_) (λ_=>?_) (λk=>absurd rfl k)
  all_goals first|(rw[he,eu];exact⟨rfl,rfl,rfl⟩)|(rw[he,eu];exact⟨rfl,rfl⟩)|(rw[he,eu])|(rw[eu];rfl)
theorem Rm {b:cE} {t:eD} (h:pv b t) (x:ak):(fM t x).f=(fN x b).1/\((fN x b).1.no=0->pv (fN x b).2 (fM t x)):=by
 unfold fN fM;have hh:=head_eq h x.kind x.name;by_cases h0:fg x.kind x.name (b.of x.kind)≠0
 ·rw[if_pos h0];have hs:(em.start t x).f=⟨fg x.kind x.name (b.of x.kind),x.line⟩:=by
   show t.f.note (jq t x.kind x.name) x.line=_;rw[hh,h.f,gm];unfold jr;rw[if_neg h0]
  have hn:(em.start t x).f.no≠0:=by rw[hs];exact h0
  rw[Fc hn];have hm:fx (em.start t x).known (em.start t x).c.method x.line (aO x.kind) (em.start t x).f=(em.start t x).f:=yi hn;refine⟨?_,λq=>absurd q h0⟩;rw[wE (by rw[hm];exact hn),hm,hs]
 ·have h0:=aca.1 h0;rw[if_neg (by rw[h0];simp)];have hv:=Fg h x h0;obtain⟨s1,s2⟩:=BP x.fields hv;obtain⟨r,hr⟩:∃r,dU x.kind x.fields aJ.zero=r:=⟨_,rfl⟩;obtain⟨y,hy⟩:∃y,dj x.kind x.fields (em.start t x)=y:=⟨_,rfl⟩;rw[hr,hy] at s1 s2;rw[hr,hy];by_cases h1:r.1.no≠0
  ·rw[if_pos h1];have hn:y.f.no≠0:=by rw[s1];exact h1
   have hm:fx y.known y.c.method x.line (aO x.kind) y.f=y.f:=yi hn;exact⟨by rw[wE (by rw[hm];exact hn),hm,s1],λq=>absurd q h1⟩
  ·have hv:=s2 (aca.1 h1);rw[if_neg h1];have hm:=CC hv x.line (aO x.kind) (λ_ h=>h);rw[<-hv.f] at hm;have hc:ek x.kind x.line r.2=if(aO x.kind).any (ey r.2)=true then⟨6,x.line⟩ else i9 x.kind x.line r.2:=rO _ _ _ _
   by_cases h6:(aO x.kind).any (ey r.2)=true
   ·rw[if_pos h6] at hm hc;rw[hc,if_pos (by simp)];exact⟨by rw[wE (by rw[hm];simp),hm],λq=>by cases q⟩
   ·rw[if_neg h6] at hm hc;rw[hv.f] at hm;rw[hc];have he:=aba h h0 hv (by rw[hv.f];exact hm);by_cases h7:(i9 x.kind x.line r.2).no≠0
    ·rw[if_pos h7];exact⟨he.1,λq=>absurd q h7⟩
    ·rw[if_neg h7];have h8:=Fv (aca.1 h7);exact⟨he.1.trans h8,λ_=>he.2 (by rw[h8])⟩
theorem sw:∀(l:List ak) {b:cE} {t:eD},pv b t->(cz l t).f=(cA l b).1/\((cA l b).1.no=0->pv (cA l b).2 (cz l t))
 | [],b,t,h=>⟨h.f,λ_=>h⟩
 | x::l,b,t,h=>by
  have hs:=Rm h x;unfold cz cA;rw[if_neg (by rw[h.f];simp)];by_cases h0:(fN x b).1.no≠0
  ·rw[if_pos h0];have hn:(fM t x).f.no≠0:=by rw[hs.1];exact h0
   have eu:cz l (fM t x)=fM t x:=by
    cases l with
    | nil=>rfl
    | cons y l=>unfold cz;rw[if_pos hn]
   rw[eu];exact⟨hs.1,λq=>absurd q h0⟩
  ·rw[if_neg h0];exact sw l (hs.2 (aca.1 h0))
theorem qj (s:ByteArray):∀(l:List ae) (i:Nat),bh s l i=Lib.idxFromS (l.map (·.name)) s i
 | [],_=>rfl
 | c::l,i=>by
  unfold bh;rw[aco];unfold Lib.idxFromS;rw[qj s l (i+1)]
theorem CH (cont:List ae) (line:Int):∀(l:List ByteArray) (cY:List Int),o0 (cont.map (·.name)) line l cY=dC cont line l cY
 | [],_=>rfl
 | s::l,cY=>by
  unfold o0 dC;have e:bh s cont 0=Lib.idxOfS (cont.map (·.name)) s:=qj s cont 0;rw[e,CH cont line l]
theorem yq (prec:List ByteArray) (cont:List ae):∀(vs:List aJ) (ss:List aj) (used:List Bool) (done:List aj), iW prec (cont.map (·.name)) (vs.map λv=>(v.s af,v.s ay)) (vs.map λv=>(v.l af,v.l ay)) ss used done=dV prec cont vs ss used done
 | [],ss,used,done=>by
  unfold dV;simp only[List.map_nil,iW]
 | v::vs,[],used,done=>by
  unfold dV;simp only[aco,iW]
 | v::vs,s::ss,used,done=>by
  rw[aco,aco,iW,dV];simp only;cases cR prec (v.l af) (v.s af) used [] with
  | error e=>rfl
  | ok r=>
   obtain⟨u,ps⟩:=r;simp only;rw[CH];cases dC cont (v.l ay) (v.s ay) [] with
   | error e=>rfl
   | ok cs=>exact yq prec cont vs ss u _
theorem UB {b:cE} {t:eD} (h:pv b t):j3 t=oE b:=by
 unfold j3 oE;rw[h.names,h.lines,h.e];exact yq _ _ _ _ _ _
theorem nW {seen:List ByteArray}:∀(l:List ByteArray) {f:dG},f.no≠0->l.foldl (λf k=>f.note (if dc seen k=true then 0 else 6) 0) f=f
 | [],f,_=>rfl
 | k::l,f,h=>by
  rw[adl,rF h];exact nW l h
theorem wA {b:cE} {t:eD} (h:pv b t):∀l:List ByteArray,l.foldl (λf k=>f.note (if dc t.seen k=true then 0 else 6) 0) (⟨0,0⟩:dG)=if l.any (λk=>decide (b.of k=[]))=true then⟨6,0⟩ else⟨0,0⟩
 | []=>rfl
 | k::l=>by
  rw[adl,ac1,h.seen];by_cases hk:b.of k=[]
  ·rw[decide_eq_false (by simp[hk]:¬b.of k≠[]),if_neg (by simp),gm,nW l (by rw[qC];omega),decide_eq_true hk];rfl
  ·rw[decide_eq_true hk,if_pos rfl,gm,qA,wA h l,decide_eq_false hk,acY]
theorem uL (s:ByteArray):(60<s.size\/fY s.data.toList=false)↔da s 0 60=false:=by
 unfold da;rw[decide_eq_true (by omega:(0:Int)<=(s.size:Int)),acO];cases fY s.data.toList with
 | false=>simp
 | true=>
  rw[acO,decide_eq_false_iff_not];constructor
  ·rintro(h|h)
   ·omega
   ·cases h
  ·intro h;left;omega
theorem yy:ik=et:=by kernel_rfl
theorem lM (s:aF):eJ s=bj s:=by
 unfold eJ bj;by_cases h8:da s.title 0 60=false
 ·rw[if_pos h8];have eu:(eD.start s.title).f=⟨8,0⟩:=by
   show(⟨0,0⟩:dG).note _ 0=_;rw[if_pos ((uL _).2 h8)];rfl
  have hb:cz s.blocks (eD.start s.title)=eD.start s.title:=by
   cases s.blocks with
   | nil=>rfl
   | cons x l=>unfold cz;rw[if_pos (by rw[eu];simp)]
  have hf:(bY s).f=⟨8,0⟩:=by
   unfold bY;simp only;rw[hb,eu];exact nW _ (by simp)
  rw[hf,if_pos (by simp)]
 ·rw[if_neg h8];have eu:(eD.start s.title).f=⟨0,0⟩:=by
   show(⟨0,0⟩:dG).note _ 0=_;rw[if_neg (λq=>h8 ((uL _).1 q))];rfl
  have Qd:pv (cE.start s.title) (eD.start s.title):={
   f:=eu
   e:=rfl
   seen:=λk=>rfl
   cs:=rfl
   ss:=rfl
   lc:=by show([]:List ae).length<=4;simp
   ls:=by show([]:List aj).length<=6;simp
   names:=rfl
   lines:=rfl
   z1:=λ_=>⟨rfl,rfl,rfl⟩
   z2:=λ_=>⟨rfl,rfl⟩
   z3:=λ_=>rfl
   z4:=λ_=>⟨rfl,rfl⟩
   z5:=λ_=>rfl }
  obtain⟨ci,bX⟩:=sw s.blocks Qd;obtain⟨r,hr⟩:∃r,cA s.blocks (cE.start s.title)=r:=⟨_,rfl⟩;obtain⟨t,ht⟩:∃t,cz s.blocks (eD.start s.title)=t:=⟨_,rfl⟩;rw[hr,ht] at ci bX;have hbf:(bY s)={ t with f:=ik.foldl (λf k=>f.note (if dc t.seen k=true then 0 else 6) 0) t.f }:=by
   unfold bY;simp only;rw[ht]
  rw[hr,hbf];by_cases h1:r.1.no≠0
  ·rw[if_pos h1];have hf:ik.foldl (λf k=>f.note (if dc t.seen k=true then 0 else 6) 0) t.f=r.1:=by
    rw[ci];exact nW _ h1
   simp only[hf];rw[if_pos h1]
  ·rw[if_neg h1];have hC:=bX (aca.1 h1);have hf:=wA hC et;rw[hC.f,yy,hf];by_cases h6:et.any (λk=>decide (r.2.of k=[]))=true
   ·rw[if_pos h6,if_pos h6];rfl
   ·rw[if_neg h6,if_neg h6];have hl:j3 { t with f:=(⟨0,0⟩:dG) }=oE r.2:=UB (t:=t) hC;rw[hl];simp only[ne_eq,not_true_eq_false,if_false];cases oE r.2 with
    | error e=>rfl
    | ok l=>rw[<-hC.e]
theorem yZ (n:Nat):Lib.decDigits n=bq n:=by
 have hz:∀m:Nat,0<m->Lib.decDigits m=(fT m).reverse:=by
  intro m;induction m using Nat.strongRecOn with
  | ind m ih=>
   intro hm;have e1:fT m=EL m::fT (m/10):=by rw[fT,dif_neg (by omega)]
   rw[e1,ab8];by_cases h:m<10
   ·rw[Lib.decDigits_one h,show m/10=0 by omega,gr];unfold EL;rw[Nat.mod_eq_of_lt h];rfl
   ·rw[Lib.decDigits,dif_neg h,ih (m/10) (by omega) (by omega)];rfl
 unfold bq;by_cases h:n=0
 ·rw[if_pos h,h,Lib.decDigits_one (by omega)];rfl
 ·rw[if_neg h];exact hz n (by omega)
def Small (n:Int):Prop:=0<=n/\n<=999999
theorem Pk {n:Int} (h:Small n):tj n=DD n:=by
 obtain⟨k,rfl⟩:∃k:Nat,n=(k:Int):=⟨n.toNat,by have:=h.1;omega⟩;unfold tj DD;rw[if_neg (by have:=h.2;omega)];unfold Lib.itoa;rw[if_neg (by omega),aae,yZ]
theorem GA (n:Int):jj bg n=fB bg n gg:=by
 unfold jj fB iY oz;rw[show aD bg=gg from by kernel_rfl]
theorem Rb (n:Int):jj il n=fB il n kF:=by
 unfold jj fB iY oz;rw[show aD il=kF from by kernel_rfl]
theorem Rf (n:Int):jj ck n=fB ck n kH:=by
 unfold jj fB iY oz;rw[show aD ck=kH from by kernel_rfl]
theorem Rc (n:Int):jj im n=fB im n kG:=by
 unfold jj fB iY oz;rw[show aD im=kG from by kernel_rfl]
theorem jx {k:ByteArray} {n:Int} (h:Small n):ga k n=dJ k n:=by unfold ga dJ;rw[Pk h]
def Yc (c:ae):Prop:=Small c.seats/\Small c.ranks/\Small c.digits
structure RY (e:aa):Prop where
 dots:Small e.dots
 blank:Small e.blank
 marked:Small e.marked
 scan:Small e.scan
 batch:Small e.batch
 cell:Small e.cell
 cont:∀c∈e.cont,Yc c
theorem DN {c:ae} (h:Yc c):eI c=dE c:=by
 unfold eI dE;rw[GA,Rb,Rf,Rc,jx h.1,jx h.2.1,jx h.2.2]
theorem rz {e:aa} (h:RY e):dt e=dp e:=by
 unfold dt dp;rw[jx h.dots,jx h.blank,jx h.marked,jx h.scan,jx h.batch,jx h.cell];have hc:e.cont.map eI=e.cont.map dE:=adB λc hc=>DN (h.cont c hc);rw[hc]
structure SK (v:aJ):Prop where
 num:∀k n,v.num k=some n->Small n
 lst:∀k xs,v.lst k=some xs->(xs.length:Int)<=bL k
 risk:(v.ln dZ).isSome=true->∃a b:Nat,0<b/\a<=999999/\b<=999999/\v.risk=(dN false a b).raw
theorem SK.n {v:aJ} (h:SK v) (k:ByteArray):Small (v.n k):=by
 unfold aJ.n;cases hn:v.num k with
 | none=>exact⟨by simp,by simp⟩
 | some n=>exact h.num k n hn
theorem SK.s {v:aJ} (h:SK v) (k:ByteArray) (h0:0<=bL k):((v.s k).length:Int)<=bL k:=by
 unfold aJ.s;cases hn:v.lst k with
 | none=>simpa using h0
 | some xs=>exact h.lst k xs hn
theorem vK {kN:Int}:∀{l pre:List ByteArray},fI kN pre l=0->(pre.length:Int)<=kN->((pre.length+l.length:Nat):Int)<=kN
 | [],pre,_,h=>by simpa using h
 | s::r,pre,h,hp=>by
  unfold fI at h;split at h
  ·cases h
  split at h
  ·cases h
  split at h
  ·cases h
  ·rename_i h1 _ _;have:=vK h (by rw[aaM,abA];omega);rw[aaM,abA] at this;rw[aaJ];omega
theorem KV {l:List ByteArray} {kN:Int} (h:dl l kN=0) (h0:0<=kN):(l.length:Int)<=kN:=by
 unfold dl at h;split at h
 ·cases h
 ·have:=vK h (by simpa using h0);simpa using this
theorem Aw:bL dZ=0:=by kernel_rfl
theorem xI:aD dZ=[]:=by kernel_rfl
theorem N4 {kind:ByteArray} {f:ai} {v:aJ} (h:SK v) (h0:(bV kind f v).1=0):SK (bV kind f v).2:=by
 unfold bV at h0 ⊢;split at h0
 ·cases h0
 rename_i q1;rw[if_neg q1];split at h0
 ·cases h0
 rename_i q2;rw[if_neg q2];have tq:f.key≠dZ->∀line:Int,(setF v.ln f.key line dZ).isSome=true->(v.ln dZ).isSome=true:=λhk line hs=>by
  unfold setF at hs;rw[if_neg (acE hk)] at hs;exact hs
 split at h0
 ·rename_i q3;rw[if_pos q3];have hl:=KV h0 (by omega);exact⟨h.num,λk xs hk=>by
   have lq:setF v.lst f.key f.vals k=some xs:=hk;unfold setF at lq;split at lq
   ·rename_i e;injection lq with lq
    subst lq;rw[e];exact hl
   ·exact h.lst k xs lq,λhs=>h.risk (tq (λe=>by rw[e,Aw] at q3;omega) _ hs)⟩
 rename_i q3;rw[if_neg q3];split at h0
 ·cases h0
 rename_i q4;rw[if_neg q4];unfold vi at h0 ⊢;have hch:∀k s:ByteArray,0<=Lib.idxOfS (aD k) s+1/\Lib.idxOfS (aD k) s+1<=11:=λk s=>by
  have:=tl k s;omega
 split at h0
 ·rename_i q5;rw[if_pos q5];refine⟨λk n hk=>?_,h.lst,λhs=>h.risk (tq (λe=>q5 (by rw[e];exact xI)) _ hs)⟩;have lq:setF v.num f.key (Lib.idxOfS (aD f.key) (f.vals.getD 0 ⟨#[]⟩)+1) k=some n:=hk;unfold setF at lq;split at lq
  ·injection lq with lq
   subst lq;have:=hch f.key (f.vals.getD 0 ⟨#[]⟩);exact⟨by omega,by omega⟩
  ·exact h.num k n lq
 rename_i q5;rw[if_neg q5];split at h0
 ·rename_i q6;rw[if_pos q6];have hr:=Ca (f.vals.getD 0 ⟨#[]⟩).data.toList;have tp:=hr.2 h0;rw[tp];refine⟨h.num,h.lst,λ_=>?_⟩;show∃a b:Nat,0<b/\a<=999999/\b<=999999/\(dR (f.vals.getD 0 ⟨#[]⟩).data.toList).2=(dN false a b).raw;have h1:(ig (f.vals.getD 0 ⟨#[]⟩).data.toList).1=0:=h0;obtain⟨l,hl⟩:∃l,(f.vals.getD 0 ⟨#[]⟩).data.toList=l:=⟨_,rfl⟩;rw[hl] at h1 tp ⊢;unfold ig at h1 tp;split at h1
  ·cases h1
  rename_i r1;rw[if_neg r1] at tp;split at h1
  ·cases h1
  rename_i r2;rw[if_neg r2] at tp;injection tp with tp
  obtain⟨a,ha⟩:=pW (dy l);obtain⟨b,hb⟩:=pW (dw l);have ra:=(gR (dy l)).2;have rb:=(gR (dw l)).2;rw[ha] at ra;rw[hb] at rb;refine⟨a,b,?_,by omega,by omega,?_⟩
  ·rw[hb] at r2;have:¬(b:Int)=0:=λe=>r2 (.inl e);omega
  ·rw[<-tp,ha,hb,nV]
 rename_i q6;rw[if_neg q6];split at h0
 ·rename_i q7;rw[if_pos q7];split at h0
  ·rename_i q8;rw[if_pos q8];exact⟨h.num,h.lst,λhs=>h.risk (tq q6 _ hs)⟩
  ·cases h0
 rename_i q7;rw[if_neg q7];split at h0
 ·cases h0
 rename_i q8;rw[if_neg q8];split at h0
 ·cases h0
 rename_i q9;rw[if_neg q9];refine⟨λk n hk=>?_,h.lst,λhs=>h.risk (tq q6 _ hs)⟩;have lq:setF v.num f.key (bQ (f.vals.getD 0 ⟨#[]⟩).data.toList).1 k=some n:=hk;unfold setF at lq;split at lq
 ·injection lq with lq
  subst lq;exact gR _
 ·exact h.num k n lq
theorem u9 {kind:ByteArray}:∀{fs:List ai} {v:aJ},SK v->(dU kind fs v).1.no=0->SK (dU kind fs v).2
 | [],v,h,_=>h
 | f::l,v,h,h0=>by
  unfold dU at h0 ⊢;split at h0
  ·rename_i q;exact absurd h0 q
  ·rename_i q;rw[if_neg q];exact u9 (N4 h (aca.1 q)) h0
structure BOk (b:cE):Prop where
 n:RY b.e
 prec:b.e.prec.length<=12
 cont:∀c∈b.e.cont,c.cands.length<=7
 vals:∀v∈b.vals,(v.s af).length<=12/\(v.s ay).length<=4
 risk:b.of bP≠[]->∃x y:Nat,0<y/\x<=999999/\y<=999999/\b.e.risk=(dN false x y).raw
theorem yu:bL eA=12:=by kernel_rfl
theorem yw:bL fK=7:=by kernel_rfl
theorem CM:bL af=12:=by kernel_rfl
theorem yv:bL ay=4:=by kernel_rfl
theorem Kk {kind:ByteArray} {line:Int} {v:aJ} (h:(ek kind line v).no=0) (hk:kind=bP):(v.ln dZ).isSome=true:=by
 have hm:ek kind line v=if(aO kind).any (ey v)=true then⟨6,line⟩ else i9 kind line v:=rO _ _ _ _
 rw[hm] at h;split at h
 ·cases h
 ·rename_i q;cases hs:(v.ln dZ).isSome with
  | true=>rfl
  | false=>
   exfalso
   apply q;rw[adf];refine⟨dZ,by rw[hk,CU];simp,?_⟩;unfold ey;rw[hs,decide_eq_true (by decide:dZ≠aH)];rfl
theorem Fb {b:cE} (h:BOk b) {kind nm:ByteArray} {v:aJ} (hv:SK v) (hr:kind=bP->(v.ln dZ).isSome=true):BOk (bb kind nm v (b.named kind nm)):=by
 have PK:∀k,(bb kind nm v (b.named kind nm)).of k=if k=kind then b.of kind++[nm] else b.of k:=λk=>(gF kind nm v (b.named kind nm) k).trans (gG b kind nm k)
 have tq:kind≠bP->(bb kind nm v (b.named kind nm)).e.risk=b.e.risk->((bb kind nm v (b.named kind nm)).of bP≠[]->∃x y:Nat,0<y/\x<=999999/\y<=999999/\(bb kind nm v (b.named kind nm)).e.risk=(dN false x y).raw):=λhk he hn=>by
  rw[PK,if_neg (acE hk)] at hn;rw[he];exact h.risk hn
 have n:=h.n;have l1:=hv.s eA (by rw[yu];omega);have l2:=hv.s fK (by rw[yw];omega);have l3:=hv.s af (by rw[CM];omega);have l4:=hv.s ay (by rw[yv];omega);rw[yu] at l1;rw[yw] at l2;rw[CM] at l3;rw[yv] at l4;unfold bb at tq ⊢;by_cases q1:kind=bZ
 ·rw[if_pos q1] at tq ⊢;exact⟨{ n with dots:=hv.n _,blank:=hv.n _,marked:=hv.n _ },h.prec,h.cont,h.vals,tq (by rw[q1];decide) rfl⟩
 rw[if_neg q1] at tq ⊢;by_cases q2:kind=aX
 ·rw[if_pos q2] at tq ⊢;exact⟨{ n with scan:=hv.n _,batch:=hv.n _ },h.prec,h.cont,h.vals,tq (by rw[q2];decide) rfl⟩
 rw[if_neg q2] at tq ⊢;by_cases q3:kind=af
 ·rw[if_pos q3] at tq ⊢;exact⟨{ n with },by show(v.s eA).length<=12;omega,h.cont,h.vals,tq (by rw[q3];decide) rfl⟩
 rw[if_neg q3] at tq ⊢;by_cases q4:kind=ar
 ·rw[if_pos q4] at tq ⊢;refine⟨{ n with cont:=λc hc=>?_ },h.prec,λc hc=>?_,h.vals,tq (by rw[q4];decide) rfl⟩
  ·rcases ab7.1 hc with hc|hc
   ·exact n.cont c hc
   ·rw[acb] at hc;subst hc;exact⟨hv.n _,hv.n _,hv.n _⟩
  ·rcases ab7.1 hc with hc|hc
   ·exact h.cont c hc
   ·rw[acb] at hc;subst hc;show(v.s fK).length<=7;omega
 rw[if_neg q4] at tq ⊢;by_cases q5:kind=aG
 ·rw[if_pos q5] at tq ⊢;refine⟨{ n with },h.prec,h.cont,λx hx=>?_,tq (by rw[q5];decide) rfl⟩;rcases ab7.1 hx with hx|hx
  ·exact h.vals x hx
  ·rw[acb] at hx;subst hx;exact⟨by omega,by omega⟩
 rw[if_neg q5] at tq ⊢;by_cases q6:kind=bP
 ·rw[if_pos q6];refine⟨{ n with },h.prec,h.cont,h.vals,λ_=>hv.risk (hr q6)⟩
 rw[if_neg q6] at tq ⊢;by_cases q7:kind=bB
 ·rw[if_pos q7] at tq ⊢;exact⟨{ n with cell:=hv.n _ },h.prec,h.cont,h.vals,tq (by rw[q7];decide) rfl⟩
 rw[if_neg q7] at tq ⊢;exact⟨n,h.prec,h.cont,h.vals,tq q6 rfl⟩
theorem MR:SK aJ.zero:=⟨λ_ _ h=>(by cases h),λ_ _ h=>(by cases h),λh=>(by cases h)⟩
theorem GK {b:cE} (h:BOk b) (x:ak) (h0:(fN x b).1.no=0):BOk (fN x b).2:=by
 unfold fN at h0 ⊢;split at h0
 ·rename_i q;exact absurd h0 q
 rename_i q1;rw[if_neg q1];split at h0
 ·rename_i q;exact absurd h0 q
 rename_i q2;rw[if_neg q2];split at h0
 ·rename_i q;exact absurd h0 q
 rename_i q3;rw[if_neg q3];exact Fb h (u9 MR (aca.1 q2)) (λhk=>Kk (aca.1 q3) hk)
theorem tF:∀{l:List ak} {b:cE},BOk b->(cA l b).1.no=0->BOk (cA l b).2
 | [],b,h,_=>h
 | x::l,b,h,h0=>by
  unfold cA at h0 ⊢;split at h0
  ·rename_i q;exact absurd h0 q
  ·rename_i q;rw[if_neg q];exact tF (GK h x (aca.1 q)) h0
theorem pZ {prec:List ByteArray} {line:Int}:∀{l:List ByteArray} {used:List Bool} {cY:List Int} {r:List Bool×List Int},cR prec line l used cY=.ok r->r.2.length=cY.length+l.length
 | [],used,cY,r,h=>by
  unfold cR at h;injection h with h
  subst h;rfl
 | s::l,used,cY,r,h=>by
  unfold cR at h;split at h
  ·cases h
  split at h
  ·cases h
  ·have:=pZ h;rw[this,aaM,abA,aaJ];omega
theorem p9 {cont:List ae} {line:Int}:∀{l:List ByteArray} {cY r:List Int},dC cont line l cY=.ok r->r.length=cY.length+l.length
 | [],cY,r,h=>by
  unfold dC at h;injection h with h
  subst h;rfl
 | s::l,cY,r,h=>by
  unfold dC at h;split at h
  ·cases h
  ·have:=p9 h;rw[this,aaM,abA,aaJ];omega
def RJ (s:aj):Prop:=s.prec.length<=12/\s.cont.length<=4
theorem vL {prec:List ByteArray} {cont:List ae}:∀{vs:List aJ} {ss:List aj} {used:List Bool} {done r:List aj},(∀v∈vs,(v.s af).length<=12/\(v.s ay).length<=4)->(∀s∈done,RJ s)->dV prec cont vs ss used done=.ok r-> (∀s∈r,RJ s)/\r.length<=done.length+ss.length
 | [],ss,used,done,r,hv,hd,h=>by
  unfold dV at h;split at h
  ·cases h
  ·injection h with h
   subst h;exact⟨hd,by omega⟩
 | v::vs,[],used,done,r,hv,hd,h=>by
  unfold dV at h;split at h
  ·cases h
  ·injection h with h
   subst h;exact⟨hd,by omega⟩
 | v::vs,s::ss,used,done,r,hv,hd,h=>by
  rw[dV] at h;split at h
  ·cases h
  ·rename_i u ps hp;split at h
   ·cases h
   ·rename_i cs hc;have h1:=pZ hp;have h2:=p9 hc;have h3:=hv v (by simp);have h4:=vL (λx hx=>hv x (by simp[hx])) (λx hx=>by
     rcases ab7.1 hx with hx|hx
     ·exact hd x hx
     ·rw[acb] at hx;subst hx;have jh:ps.length=0+_:=h1;have EI:cs.length=0+_:=h2;exact⟨by show ps.length<=12;omega,by show cs.length<=4;omega⟩) h
    refine⟨h4.1,?_⟩;have h5:=h4.2;rw[aaM,abA] at h5;rw[aaJ];omega
theorem tf {prec:List ByteArray} {line:Int}:∀{l:List ByteArray} {used:List Bool} {cY:List Int} {e:dG},cR prec line l used cY=.error e->e.no≠0
 | [],used,cY,e,h=>by unfold cR at h;cases h
 | s::l,used,cY,e,h=>by
  unfold cR at h;split at h
  ·injection h with h;subst h;simp
  split at h
  ·injection h with h;subst h;simp
  ·exact tf h
theorem ti {cont:List ae} {line:Int}:∀{l:List ByteArray} {cY:List Int} {e:dG},dC cont line l cY=.error e->e.no≠0
 | [],cY,e,h=>by unfold dC at h;cases h
 | s::l,cY,e,h=>by
  unfold dC at h;split at h
  ·injection h with h;subst h;simp
  ·exact ti h
theorem rP {prec:List ByteArray} {cont:List ae}:∀{vs:List aJ} {ss:List aj} {used:List Bool} {done:List aj} {e:dG},dV prec cont vs ss used done=.error e->e.no≠0
 | [],ss,used,done,e,h=>by
  unfold dV at h;split at h
  ·injection h with h;subst h;simp
  ·cases h
 | v::vs,[],used,done,e,h=>by
  unfold dV at h;split at h
  ·injection h with h;subst h;simp
  ·cases h
 | v::vs,s::ss,used,done,e,h=>by
  rw[dV] at h;split at h
  ·rename_i q hp;injection h with h
   subst h;exact tf hp
  ·split at h
   ·rename_i q hc;injection h with h
    subst h;exact ti hc
   ·exact rP h
structure Ew (x:aa):Prop where
 n:RY x
 prec:x.prec.length<=12
 cont:x.cont.length<=4
 styl:x.styl.length<=6
 cands:∀c∈x.cont,c.cands.length<=7
 sty:∀s∈x.styl,RJ s
 risk:∃a b:Nat,0<b/\a<=999999/\b<=999999/\x.risk=(dN false a b).raw
theorem Fh {title:ByteArray} (h:da title 0 60≠false):pv (cE.start title) (eD.start title):=by
 have eu:(eD.start title).f=⟨0,0⟩:=by
  show(⟨0,0⟩:dG).note _ 0=_;rw[if_neg (λq=>h ((uL _).1 q))];rfl
 exact {
  f:=eu
  e:=rfl
  seen:=λk=>rfl
  cs:=rfl
  ss:=rfl
  lc:=by show([]:List ae).length<=4;simp
  ls:=by show([]:List aj).length<=6;simp
  names:=rfl
  lines:=rfl
  z1:=λ_=>⟨rfl,rfl,rfl⟩
  z2:=λ_=>⟨rfl,rfl⟩
  z3:=λ_=>rfl
  z4:=λ_=>⟨rfl,rfl⟩
  z5:=λ_=>rfl }
theorem iR:Small 0:=⟨by omega,by omega⟩
theorem lL {s:aF} (h:(bj s).2.no=0):Ew (bj s).1:=by
 unfold bj at h ⊢;split at h
 ·cases h
 rename_i h8;rw[if_neg h8];obtain⟨ci,bX⟩:=sw s.blocks (Fh h8);have kx:=tF (l:=s.blocks) (b:=cE.start s.title) ⟨⟨iR,iR,iR,iR,iR,iR,λc hc=>by cases hc⟩,by show([]:List ByteArray).length<=12;simp,λc hc=>(by cases hc),λv hv=>(by cases hv),λq=>absurd rfl q⟩;obtain⟨r,hr⟩:∃r,cA s.blocks (cE.start s.title)=r:=⟨_,rfl⟩;rw[hr] at ci bX kx h ⊢;split at h
 ·rename_i q;exact absurd h q
 rename_i h1;rw[if_neg h1];have hC:=bX (aca.1 h1);have hO:=kx (aca.1 h1);split at h
 ·cases h
 rename_i h6;rw[if_neg h6];have ame:r.2.of bP≠[]:=λe=>by
  apply h6;rw[adf];refine⟨bP,?_,decide_eq_true e⟩;show bP∈et;rw[<-yy];unfold ik;simp
 have fm:r.2.e.styl.length<=6:=by rw[<-hC.e];exact hC.ls
 have tU:r.2.e.cont.length<=4:=by rw[<-hC.e];exact hC.lc
 cases hl:oE r.2 with
 | error e=>rw[hl] at h;exact absurd h (rP hl)
 | ok l=>
  have hg:=vL (prec:=r.2.e.prec) (cont:=r.2.e.cont) hO.vals (λs hs=>by cases hs) hl;exact⟨{ hO.n with },hO.prec,tU,by show l.length<=6;have:=hg.2;simp at this;omega,hO.cont,hg.1,hO.risk ame⟩
theorem lV {α:Type} {f:α->α->Bool} (hf:∀x y,f x y=true->x=y):∀{a b:List α},gw f a b=true->a=b
 | [],[],_=>rfl
 | [],_::_,h=>by cases h
 | _::_,[],h=>by cases h
 | x::a,y::b,h=>by
  unfold gw at h;rw[aav] at h;rw[hf x y h.1,lV hf h.2]
theorem gv {α:Type} {f:α->α->Bool} (hf:∀x,f x x=true):∀a:List α,gw f a a=true
 | []=>rfl
 | x::a=>by unfold gw;rw[hf,gv hf a];rfl
theorem uZ (x y:ae) (h:aU x y=true):x=y:=by
 unfold aU at h;simp only[aav,decide_eq_true_eq] at h;obtain⟨h1,h2,h3,h4,h5,h6,h7,h8,h9⟩:=h;cases x;cases y
 simp only at h1 h2 h3 h4 h5 h6 h7 h8 h9;subst h1 h2 h3 h4 h5 h6 h7 h8 h9;rfl
theorem lA (x:ae):aU x x=true:=by unfold aU;simp
theorem uW (x y:aj) (h:be x y=true):x=y:=by
 unfold be at h;simp only[aav,decide_eq_true_eq] at h;obtain⟨h1,h2,h3⟩:=h;cases x;cases y
 simp only at h1 h2 h3;subst h1 h2 h3;rfl
theorem lz (x:aj):be x x=true:=by unfold be;simp
theorem Cz {A B C D:Nat} (hB:0<B) (hD:0<D) (h:A*D=C*B):dN false A B=dN false C D:=by
 unfold dN;by_cases hA:A=0
 ·have hC:C=0:=by
   rw[hA,Nat.zero_mul] at h;rcases Nat.mul_eq_zero.1 h.symm with q|q
   ·exact q
   ·omega
  rw[if_pos (.inl hA),if_pos (.inl hC)]
 ·have hC:C≠0:=λe=>by
   rw[e,Nat.zero_mul] at h;rcases Nat.mul_eq_zero.1 h with q|q
   ·exact hA q
   ·omega
  rw[if_neg (by omega),if_neg (by omega)];have hg1:0<Nat.gcd A B:=Nat.gcd_pos_of_pos_right _ hB;have hg2:0<Nat.gcd C D:=Nat.gcd_pos_of_pos_right _ hD;have c1:Nat.Coprime (A/Nat.gcd A B) (B/Nat.gcd A B):=Nat.coprime_div_gcd_div_gcd hg1;have c2:Nat.Coprime (C/Nat.gcd C D) (D/Nat.gcd C D):=Nat.coprime_div_gcd_div_gcd hg2;have e1:A=A/Nat.gcd A B*Nat.gcd A B:=(adQ (Nat.gcd_dvd_left A B)).symm;have e2:B=B/Nat.gcd A B*Nat.gcd A B:=(adQ (Nat.gcd_dvd_right A B)).symm;have e3:C=C/Nat.gcd C D*Nat.gcd C D:=(adQ (Nat.gcd_dvd_left C D)).symm;have e4:D=D/Nat.gcd C D*Nat.gcd C D:=(adQ (Nat.gcd_dvd_right C D)).symm;generalize A/Nat.gcd A B=a at*;generalize B/Nat.gcd A B=b at*;generalize C/Nat.gcd C D=c at*;generalize D/Nat.gcd C D=d at*;generalize Nat.gcd A B=g1 at*;generalize Nat.gcd C D=g2 at*;have hx:a*d=c*b:=by
   rw[e1,e2,e3,e4] at h;have:a*d*(g1*g2)=c*b*(g1*g2):=by
    calc a*d*(g1*g2)=a*g1*(d*g2):=by rw[acX]
     _=c*g2*(b*g1):=h
     _=c*b*(g2*g1):=by rw[acX]
     _=c*b*(g1*g2):=by rw[adm g2 g1]
   exact adv (Nat.mul_pos hg1 hg2) this
  have d1:a∣c:=c1.dvd_of_dvd_mul_right (hx▸Nat.dvd_mul_right a d);have d2:c∣a:=c2.dvd_of_dvd_mul_right (hx.symm▸Nat.dvd_mul_right c b);have ea:a=c:=Nat.dvd_antisymm d1 d2;have ha:0<a:=by
   rcases ac0 a with q|q
   ·rw[q,Nat.zero_mul] at e1;exact absurd e1 hA
   ·exact q
  subst ea;rw[Nat.eq_of_mul_eq_mul_left ha hx]
theorem zY {r:Raw} (h:r.valid=true):r=r.q.raw:=by
 unfold Raw.valid at h;simp only[aav,decide_eq_true_eq,beq_iff_eq] at h;obtain⟨h1,h2,h3⟩:=h;obtain⟨neg,num,den⟩:=r;unfold Q.raw;simp only at h1 h2 h3;rw[<-h1,<-h2,<-h3]
theorem xV {A B:Nat} (hB:0<B) {r:Raw} (hv:r.valid=true) (hc:m8 ((dN false A B).raw).q r.flip.q=0):r=(dN false A B).raw:=by
 have hr:=zY hv;have Xm:0<r.q.d:=by
  unfold Raw.q dN;split
  ·exact Nat.one_pos
  ·rename_i q;exact Nat.div_pos (Nat.gcd_le_right _ (by omega)) (Nat.gcd_pos_of_pos_right _ (by omega))
 have hd:val r.den=r.q.d:=by
  have h2:=congrArg Raw.den hr;rw[h2];exact bn _
 have hn:val r.num=r.q.n:=by
  have h2:=congrArg Raw.num hr;rw[h2];exact bn _
 have hD:0<val r.den:=by rw[hd];exact Xm
 cases F4:r.neg with
 | false=>
  have hq:r.q=dN false (val r.num) (val r.den):=by unfold Raw.q;rw[F4]
  have hf:r.flip.q=(dN false (val r.num) (val r.den)).raw.flip.q:=by
   rw[<-hq,<-hr]
  rw[hf] at hc;have h1:¬oq (dN false A B) (dN false (val r.num) (val r.den))<0:=by unfold oq;rw[hc];omega
  have h2:¬0<oq (dN false A B) (dN false (val r.num) (val r.den)):=by unfold oq;rw[hc];omega
  rw[(kX _ _ hB hD).1] at h1;rw[(kX _ _ hB hD).2] at h2;rw[Cz (A:=A) (C:=val r.num) hB hD (by omega),<-hq];exact hr
 | true=>
  exfalso
  have hq:r.q=dN true (val r.num) (val r.den):=by unfold Raw.q;rw[F4]
  have hqn:r.q.neg=true:=by
   have h2:=congrArg Raw.neg hr;rw[F4] at h2;exact h2.symm
  have hA0:val r.num≠0:=λe=>by
   rw[hq,(fw true hD).2,e] at hqn;simp at hqn
  have hfq:r.flip.q=dN false (val r.num) (val r.den):=by
   unfold Raw.flip Raw.q;simp only;rw[F4];rfl
  rw[hfq] at hc;have p0:=gW false (A:=A) hB;have z0:=fw false (A:=A) hB;have e1:((dN false A B).raw).q=dN (dN false A B).neg (dN false A B).n (dN false A B).d:=Q.raw_q _;rw[e1,z0.2] at hc;obtain⟨a,ha⟩:∃a,dN false A B=a:=⟨_,rfl⟩;rw[ha] at hc p0;have z1:=fw false (A:=a.n) p0.1;have z2:=fw false (A:=val r.num) hD;have p1:=gW false (A:=a.n) p0.1;have p2:=gW false (A:=val r.num) hD;simp only[adi] at hc z1 z2;obtain⟨p,hp⟩:∃p,dN false a.n a.d=p:=⟨_,rfl⟩;obtain⟨q,hqq⟩:∃q,dN false (val r.num) (val r.den)=q:=⟨_,rfl⟩;rw[hp] at z1 p1 hc;rw[hqq] at z2 p2 hc;have afv:0<q.n:=Nat.pos_of_ne_zero λe=>hA0 (z2.1.1 e);unfold m8 xa at hc;rw[z1.2,z2.2] at hc;unfold oQ at hc;rw[if_pos rfl] at hc;have hY:0<q.n*p.d:=Nat.mul_pos afv p1.1;have Vi:0<p.d*q.d:=Nat.mul_pos p1.1 p2.1;have z3:=fw false (A:=p.n*q.d+q.n*p.d) Vi;rw[z3.2] at hc;simp only[adi,acC,if_false] at hc;rw[if_neg (λe=>by have:=z3.1.1 e;omega)] at hc;cases hc
theorem xU {A B:Nat} (hB:0<B):m8 ((dN false A B).raw).q ((dN false A B).raw).flip.q=0:=by
 have h1:=(kX A A hB hB).1;have h2:=(kX A A hB hB).2;unfold oq at h1 h2;have h3:¬A*B<A*B:=acL _;have h4:¬m8 ((dN false A B).raw).q ((dN false A B).raw).flip.q<0:=λh=>h3 (h1.1 h);have h5:¬0<m8 ((dN false A B).raw).q ((dN false A B).raw).flip.q:=λh=>h3 (h2.1 h);omega
theorem u6 {A B:Nat} (hB:0<B):((dN false A B).raw).valid=true:=by
 have p0:=gW false (A:=A) hB;have z0:=fw false (A:=A) hB;have e1:((dN false A B).raw).q=dN false A B:=by
  rw[Q.raw_q,z0.2,adi];exact Cz p0.1 hB p0.2
 unfold Raw.valid;rw[e1];unfold Q.raw;simp
theorem uh {n:Nat} (h:n<=999999):(cJ n).length<=1:=fC (k:=1) (by simp;omega)
theorem Ft {A B:Nat} (hA:A<=999999) (hB:B<=999999):((dN false A B).raw).num.length<=1/\((dN false A B).raw).den.length<=1:=by
 unfold Q.raw dN;split
 ·exact⟨uh (by show 0<=999999;omega),uh (by show 1<=999999;omega)⟩
 ·exact⟨uh (aax (Nat.div_le_self _ _) hA),uh (aax (Nat.div_le_self _ _) hB)⟩
theorem Gk {x e:aa} (h:EJ x e=true):x=e:=by
 unfold EJ at h;simp only[aav,decide_eq_true_eq] at h;obtain⟨a1,a2,a3,a4,a5,a6,a7,a8,a9,SI,SH,SG,a13,a14⟩:=h;have b1:=lV uZ a13;have b2:=lV uW a14;obtain⟨t,d,bl,m,p,c,s,sc,ba,⟨rn,ru,rd⟩,ce,se⟩:=x;obtain⟨t',d',bl',m',p',c',s',sc',ba',⟨rn',ru',rd'⟩,ce',se'⟩:=e;simp only at a1 a2 a3 a4 a5 a6 a7 a8 a9 SI SH SG b1 b2;subst a1 a2 a3 a4 a5 a6 a7 a8 a9 SI SH SG b1 b2;rfl
theorem valid_eq (e:aa):fH e=gy e:=by
 rw[acD];constructor
 ·intro h;unfold fH at h;rw[lM] at h;simp only[aav,decide_eq_true_eq] at h;obtain⟨_,h1,h2⟩:=h;have hg:=lL h1;obtain⟨x,hx⟩:∃x,(bj (dp e)).1=x:=⟨_,rfl⟩;rw[hx] at h2 hg;have he:x=e:=Gk h2;have hs:=rz (he▸hg.n);unfold gy;rw[hs,hx,h1];obtain⟨A,B,hB,_,_,hr⟩:=hg.risk;have hre:e.risk=(dN false A B).raw:=by rw[<-he];exact hr
  rw[hre,u6 hB];unfold gd;rw[he,hre,xU hB,gv lA,gv lz];simp
 ·intro h;unfold gy at h;simp only[aav,decide_eq_true_eq] at h;obtain⟨h1,h2,h3⟩:=h;have hg:=lL h1;obtain⟨x,hx⟩:∃x,(bj (dt e)).1=x:=⟨_,rfl⟩;rw[hx] at h3 hg;obtain⟨A,B,hB,hA9,hB9,hr⟩:=hg.risk;have he:x=e:=by
   unfold gd at h3;simp only[aav,decide_eq_true_eq] at h3;obtain⟨a1,a2,a3,a4,a5,a6,a7,a8,a9,SI,SH,SG⟩:=h3;have b1:=lV uZ a6;have b2:=lV uW a7;rw[hr] at SI;have b3:=xV hB h2 SI;rw[<-hr] at b3;obtain⟨t,d,bl,m,p,c,s,sc,ba,r,ce,se⟩:=x;obtain⟨t',d',bl',m',p',c',s',sc',ba',r',ce',se'⟩:=e;simp only at a1 a2 a3 a4 a5 a8 a9 SH SG b1 b2 b3;subst a1 a2 a3 a4 a5 a8 a9 SH SG b1 b2 b3;rfl
  have hs:=rz (he▸hg.n);rw[hs] at h1 hx;unfold fH;rw[lM,hx,h1,he];rw[he] at hg hr;have hsm:jL e=true:=by
   have hl:=Ft hA9 hB9;rw[<-hr] at hl;unfold jL;simp only[aav,decide_eq_true_eq,abc];exact⟨hg.prec,hg.cont,hg.styl,hl.1,hl.2,hg.cands,λs hs=>hg.sty s hs⟩
  rw[hsm];unfold EJ;rw[gv lA,gv lz];simp
theorem LR {n:Int}:cU (DD n):=by
 unfold DD;split
 ·exact bK (by decide)
 ·rename_i h;refine bK ?_;show(bq n.toNat).toArray.size<=1000;rw[acc,<-yZ,Lib.decDigits_length];have:=Lib.nDigits_le20 n.toNat (by omega);omega
theorem EW {n:Int} {l:List ByteArray} (h:∀s∈l,s.size<=1000):cU (oz n l):=by
 refine bK ?_;unfold oz;split
 ·decide
 ·rw[aal];cases hh:l[n.toNat-1]? with
  | none=>decide
  | some s=>exact h s (acq hh)
theorem gl {k:ByteArray} {n:Int} (hk:k.size<=1000):xc (dJ k n):=mQ hk LR
theorem oa {k:ByteArray} {n:Int} {l:List ByteArray} (hk:k.size<=1000) (h:∀s∈l,s.size<=1000):xc (fB k n l):=mQ hk (EW h)
theorem Be {x:ae} (h8:x.cands.length<=274877906944) (hn:cU x.name) (hc:∀s∈x.cands,cU s):gN (dE x):=by
 refine eZ (aby rfl) hn ?_ ?_
 ·show([fB bg x.method gg,dJ bH x.seats,dJ gB x.ranks]++(if x.method=2 then[dJ aH x.digits] else[])++[fB il x.ties kF,fB ck x.over kH,fB im x.skip kG,(⟨fK,x.cands,0⟩:ai)]).length<=1000;split<;>simp
 ·intro f hf;have hf':f∈[fB bg x.method gg,dJ bH x.seats,dJ gB x.ranks]++(if x.method=2 then[dJ aH x.digits] else[])++[fB il x.ties kF,fB ck x.over kH,fB im x.skip kG,(⟨fK,x.cands,0⟩:ai)]:=hf;rcases ab7.1 hf' with hf'|hf'
  ·rcases ab7.1 hf' with hf'|hf'
   ·simp only[abs,abL,or_false] at hf';rcases hf' with rfl|rfl|rfl
    ·exact oa (by decide) (by decide)
    ·exact gl (by decide)
    ·exact gl (by decide)
   ·split at hf'
    ·simp only[abs,abL,or_false] at hf';subst hf';exact gl (by decide)
    ·cases hf'
  ·simp only[abs,abL,or_false] at hf';rcases hf' with rfl|rfl|rfl|rfl
   ·exact oa (by decide) (by decide)
   ·exact oa (by decide) (by decide)
   ·exact oa (by decide) (by decide)
   ·exact nN (by decide) hc h8
theorem J1 {e:aa} (h:dP e) (hs:di e):np (dp e):=by
 refine⟨hs.title,?_,λx hx=>?_⟩
 ·have:=hs.len;simp only[dp,aaM,acf,aaJ,ab9];omega
 ·have hx':x∈([(⟨bZ,⟨#[]⟩,[dJ iK e.dots,dJ cF e.blank,dJ bO e.marked],0⟩:ak),⟨aX,⟨#[]⟩,[dJ fJ e.scan,dJ fL e.batch],0⟩,⟨af,⟨#[]⟩,[⟨eA,e.prec,0⟩],0⟩]
   ++e.cont.map dE++e.styl.map (eT e.prec (e.cont.map (·.name)))
   ++[⟨bP,⟨#[]⟩,[⟨dZ,[⟨(ib e.risk.q).toArray⟩],0⟩,⟨gJ,[e.seed],0⟩],0⟩,⟨bB,⟨#[]⟩,[dJ iL e.cell],0⟩]):=hx
  rcases ab7.1 hx' with hx'|hx'
  ·rcases ab7.1 hx' with hx'|hx'
   ·rcases ab7.1 hx' with hx'|hx'
    ·simp only[abs,abL,or_false] at hx';rcases hx' with rfl|rfl|rfl
     ·refine eZ (aby rfl) (bK (aby rfl)) (by simp) λf hf=>?_;simp only[abs,abL,or_false] at hf;rcases hf with rfl|rfl|rfl
      ·exact gl (by decide)
      ·exact gl (by decide)
      ·exact gl (by decide)
     ·refine eZ (aby rfl) (bK (aby rfl)) (by simp) λf hf=>?_;simp only[abs,abL,or_false] at hf;rcases hf with rfl|rfl
      ·exact gl (by decide)
      ·exact gl (by decide)
     ·refine eZ (aby rfl) (bK (aby rfl)) (by simp) λf hf=>?_;simp only[abs,abL,or_false] at hf;subst hf;exact nN (by decide) hs.prec h.lp
    ·obtain⟨c,hc,rfl⟩:=acu.1 hx';obtain⟨_,_,_,_,_,_,_,h8⟩:=h.conts c hc;exact Be h8 (hs.cont c hc).1 (hs.cont c hc).2
   ·obtain⟨c,hc,rfl⟩:=acu.1 hx';refine uN (h.styls c hc) (hs.styl c hc) hs.prec λs hss=>?_;obtain⟨d,hd,rfl⟩:=acu.1 hss;exact(hs.cont d hd).1
  ·simp only[abs,abL,or_false] at hx';rcases hx' with rfl|rfl
   ·refine eZ (aby rfl) (bK (aby rfl)) (by simp) λf hf=>?_;simp only[abs,abL,or_false] at hf;rcases hf with rfl|rfl
    ·exact mQ (by decide) (uM h.short)
    ·exact mQ (by decide) hs.seed
   ·refine eZ (aby rfl) (bK (aby rfl)) (by simp) λf hf=>?_;simp only[abs,abL,or_false] at hf;subst hf;exact gl (by decide)
noncomputable def C13:eP Tryz.prog:=bA WO [⟨_,_,_,J8⟩,⟨_,_,_,uQ⟩,⟨_,_,_,tD⟩,⟨_,_,_,Gh⟩] []
def vlT (e:aa):T XV:=.br (!(jL e)) (.lf (aB false)) (.nd (wF e) (.nd (zI (dp e)) (.br (decide ((eJ (dp e)).2.no=0)) (.br true (.lf (aB (EJ (eJ (dp e)).1 e))) (.lf (aB false))) (.br ((eJ (dp e)).2.no==0) (.lf (aB (EJ .zero e))) (.lf (aB false))))))
theorem QI {e:aa} (h:jL e=true):wF e:=by
 unfold jL at h;simp only[aav,decide_eq_true_eq,abc] at h;obtain⟨h1,h2,h3,h4,h5,h6,h7⟩:=h;have hn:val e.risk.num<4294967296:=abx (dT _) (by rw[show(4294967296:Nat)=4294967296^1 from rfl];exact acW (by decide) h4);have hd:val e.risk.den<4294967296:=abx (dT _) (by rw[show(4294967296:Nat)=4294967296^1 from rfl];exact acW (by decide) h5);obtain⟨q1,q2⟩:=OK e.risk.neg (val e.risk.num) (val e.risk.den);have hb:(4294967296:Nat)<=2^200:=by decide
 exact⟨by omega,by omega,by omega,λc hc=>aax (h6 c hc) (by decide),λy hy=>⟨aax (h7 y hy).1 (by decide),aax (h7 y hy).2 (by decide)⟩,⟨aax h4 (by decide),aax h5 (by decide)⟩,
  abx (adM q1 hn) hb,abx (adM q2 (by omega)) hb⟩
theorem Hp {s:aF} (h:np s):zI s:=by
 obtain⟨h1,h2,h3⟩:=h;refine⟨aax h1 (by decide),aax h2 (by decide),λb hb=>?_⟩;obtain⟨g1,g2,g3,g4⟩:=h3 b hb;exact⟨aax g2 (by decide),aax g3 (by decide),λf hf=>⟨⟨λs hs=>aax ((g4 f hf).1.2.1 s hs) (by decide),(g4 f hf).1.2.2⟩,aax g1 (by decide),aax (g4 f hf).1.1 (by decide)⟩⟩
theorem rp:ao Tryz.prog 17 false (az [(0,sE)] λ((e:aa),_)=>.nd (dP e/\di e) (.lf (aB (fH e)))):=
 aN (C:=C13) (nL _ _) false 99 [(0,sE)] (λ((e:aa),_)=>vlT e)
  (λ⟨(e:aa),_⟩ r _ ⟨⟨h1,h2⟩,h⟩=>by
   obtain rfl:aB (fH e)=r:=h;refine⟨?_,.inr rfl⟩;show(vlT e).hit _;unfold vlT fH;cases hs:jL e with
   | false=>exact aC rfl rfl
   | true=>
    rw[acO];refine aK rfl ⟨QI hs,Hp (J1 h1 h2),?_⟩;by_cases hn:(eJ (dp e)).2.no=0
    ·rw[decide_eq_true hn,acO];exact aC rfl (aC rfl rfl)
    ·rw[decide_eq_false hn,adi];exact aK rfl (aK (beq_eq_false_iff_ne.2 hn) rfl)) Tryz.func17
end Go.Proofs.YtdbpbfglhbiadaaGreatDoor
