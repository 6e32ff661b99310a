/- Law2 -/
import Derived.Test.YtdbpbfglhbiadaaGreatDoorL00
import Derived.Test.YtdbpbfglhbiadaaGreatDoorL38
set_option maxHeartbeats 8000000
set_option maxRecDepth 100000
namespace Go.Proofs.YtdbpbfglhbiadaaGreatDoor
open Go.RowKit
def bB (no line:Int):eE:=if no=0 then⟨0,0⟩ else⟨no,line⟩
theorem cj (no line:Int):(⟨0,0⟩:eE).note no line=bB no line:=by
 unfold eE.note bB;by_cases h:no=0
 ·rw[if_neg (fun k=>k.2 h),if_pos h]
 ·rw[if_pos ⟨rfl,h⟩,if_neg h]
theorem su (line:Int):bB 0 line=⟨0,0⟩:=rfl
theorem sw {no line:Int}:(bB no line).no=no:=by
 unfold bB;split
 ·rename_i h;exact h.symm
 ·rfl
theorem tA {f:eE} {no line:Int} (h:f.no≠0):f.note no line=f:=by
 unfold eE.note;rw[if_neg (fun k=>h k.1)]
theorem fo (f:eE) (line:Int):f.note 0 line=f:=by
 unfold eE.note;rw[if_neg (fun k=>k.2 rfl)]
theorem iV {kind:ByteArray} {f:ar} {v:az} {lo hi:Int} (dj:Lib.containsS (aD kind) f.key=true) (hk:(v.ln f.key).isSome=false) (h1:bW f.key=0) (h2:aO f.key=[]) (h3:f.key≠bH) (h4:f.key≠cz) (h5:dZ f.key=(lo,hi)) : (aX kind f v).1=jz f.vals lo hi∧(jz f.vals lo hi=0→(aX kind f v).2={ v with ln:=setF v.ln f.key f.line,num:=setF v.num f.key (jh f.vals) }):=by
 unfold aX jz;rw[if_neg (by rw[dj];simp),if_neg (by rw[hk];simp),if_neg (by rw[h1];simp)];by_cases hl:f.vals.length≠1
 ·rw[if_pos hl,if_pos hl];exact⟨rfl,fun h=>by cases h⟩
 ·rw[if_neg hl,if_neg hl];have hv:bj f.vals=f.vals.getD 0 ⟨#[]⟩:=by unfold bj;rw[if_neg hl]
  unfold wT jh;rw[hv,if_neg (by rw[h2];simp),if_neg h3,if_neg h4,h5,wZ];by_cases hn:(ck (f.vals.getD 0 ⟨#[]⟩).data.toList).2=false
  ·rw[if_pos hn,if_pos hn];exact⟨rfl,fun h=>by cases h⟩
  ·rw[if_neg hn,if_neg hn,wX (by simpa using hn)];simp only;split
   ·exact⟨rfl,fun h=>by cases h⟩
   ·exact⟨rfl,fun _=>rfl⟩
theorem rE {kind:ByteArray} {f:ar} {v:az} {ws:List ByteArray} (dj:Lib.containsS (aD kind) f.key=true) (hk:(v.ln f.key).isSome=false) (h1:bW f.key=0) (h2:aO f.key=ws) (h3:ws≠[]) : (aX kind f v).1=jA f.vals ws∧(jA f.vals ws=0→(aX kind f v).2={ v with ln:=setF v.ln f.key f.line,num:=setF v.num f.key (iN f.vals ws) }):=by
 unfold aX jA;rw[if_neg (by rw[dj];simp),if_neg (by rw[hk];simp),if_neg (by rw[h1];simp)];by_cases hl:f.vals.length≠1
 ·rw[if_pos hl,if_pos hl];exact⟨rfl,fun h=>by cases h⟩
 ·rw[if_neg hl,if_neg hl];have hv:bj f.vals=f.vals.getD 0 ⟨#[]⟩:=by unfold bj;rw[if_neg hl]
  unfold wT iN;rw[hv,if_pos (by rw[h2];exact h3),h2];have hm:-1≤Lib.idxOfS ws (f.vals.getD 0 ⟨#[]⟩):=by
   unfold Lib.idxOfS;exact(jc (f.vals.getD 0 ⟨#[]⟩) ws 0).1
  simp only;by_cases hn:Lib.idxOfS ws (f.vals.getD 0 ⟨#[]⟩)<0
  ·rw[if_pos hn,if_pos (by omega)];exact⟨rfl,fun h=>by cases h⟩
  ·rw[if_neg hn,if_neg (by omega)];refine⟨?_,fun _=>?_⟩<;>first|rfl|trivial
theorem rD {kind:ByteArray} {f:ar} {v:az} {n:Int} (dj:Lib.containsS (aD kind) f.key=true) (hk:(v.ln f.key).isSome=false) (h1:bW f.key=n) (hn:0<n) : (aX kind f v).1=db f.vals n∧(db f.vals n=0→(aX kind f v).2={ v with ln:=setF v.ln f.key f.line,lst:=setF v.lst f.key f.vals }):=by
 unfold aX;rw[if_neg (by rw[dj];simp),if_neg (by rw[hk];simp),if_pos (by rw[h1];exact hn),h1];exact⟨rfl,fun _=>rfl⟩
theorem KN {kind:ByteArray} {f:ar} {v:az} (dj:Lib.containsS (aD kind) f.key=true) (hk:(v.ln f.key).isSome=false) (h:f.key=bH) : (aX kind f v).1=jI f.vals∧(jI f.vals=0→(aX kind f v).2={ v with ln:=setF v.ln f.key f.line,risk:=(d9 (bj f.vals).data.toList).2 }):=by
 have h1:bW f.key=0:=by rw[h];kernel_rfl
 have h2:aO f.key=[]:=by rw[h];kernel_rfl
 unfold aX jI;rw[if_neg (by rw[dj];simp),if_neg (by rw[hk];simp),if_neg (by rw[h1];simp)];by_cases hl:f.vals.length≠1
 ·rw[if_pos hl,if_pos hl];exact⟨rfl,fun h=>by cases h⟩
 ·rw[if_neg hl,if_neg hl];have hv:bj f.vals=f.vals.getD 0 ⟨#[]⟩:=by unfold bj;rw[if_neg hl]
  unfold wT;rw[hv,if_neg (by rw[h2];simp),if_pos h];have hr:=Dj (f.vals.getD 0 ⟨#[]⟩).data.toList;refine⟨hr.1.symm,fun h0=>?_⟩;rw[hr.2 (hr.1.symm.trans h0)];rfl
theorem KM {kind:ByteArray} {f:ar} {v:az} (dj:Lib.containsS (aD kind) f.key=true) (hk:(v.ln f.key).isSome=false) (h:f.key=cz) : (aX kind f v).1=kX f.vals∧(kX f.vals=0→(aX kind f v).2={ v with ln:=setF v.ln f.key f.line,seed:=bj f.vals }):=by
 have h1:bW f.key=0:=by rw[h];kernel_rfl
 have h2:aO f.key=[]:=by rw[h];kernel_rfl
 unfold aX kX;rw[if_neg (by rw[dj];simp),if_neg (by rw[hk];simp),if_neg (by rw[h1];simp)];by_cases hl:f.vals.length≠1
 ·rw[if_pos hl,if_pos hl];exact⟨rfl,fun h=>by cases h⟩
 ·rw[if_neg hl,if_neg hl];have hv:bj f.vals=f.vals.getD 0 ⟨#[]⟩:=by unfold bj;rw[if_neg hl]
  unfold wT;rw[hv,if_neg (by rw[h2];simp),if_neg (by rw[h];decide),if_pos h];have hp:=F6 (f.vals.getD 0 ⟨#[]⟩);by_cases hq:dN (f.vals.getD 0 ⟨#[]⟩) 0 24=true
  ·rw[if_pos hq,if_neg (hp.1 hq)];exact⟨rfl,fun _=>rfl⟩
  ·rw[if_neg hq,if_pos (ab2.1 fun h'=>hq (hp.2 h'))];exact⟨rfl,fun h=>by cases h⟩
structure cO (kind nm:ByteArray) (b:bZ) (v:az) (x:dc):Prop where
 f:x.f=⟨0,0⟩
 kn:∀k,bI x.known k=(v.ln k).isSome
 only:∀k,(v.ln k).isSome=true→k∈aD kind
 e:kind≠ah→kind≠aC→x.e=(be kind nm v b).e
 e':(kind=ah∨kind=aC)→x.e=b.e
 c:kind=ah→({ x.c with name:=nm }:ae)=cR nm v∧x.digits=v.l ay∧x.seats=v.l bb
 c':kind≠ah→x.c=ae.zero
 s:kind=aC→x.n0=v.s af∧x.n1=v.s ax∧x.l0=v.l af∧x.l1=v.l ax
theorem Aj (l:List ByteArray) (a k:ByteArray):bI (l++[a]) k=(bI l k||decide (k=a)):=by
 rw[acQ,acs,cW,cW,decide_eq_true_eq];simp
theorem eL {l:List ByteArray} {ln:ByteArray→Option Int} (h:∀k,bI l k=(ln k).isSome) (a:ByteArray) (line:Int):∀k,bI (l++[a]) k=(setF ln a line k).isSome:=by
 intro k;rw[Aj,h];unfold setF;by_cases e:k=a
 ·rw[if_pos e,decide_eq_true e];simp
 ·rw[if_neg e,decide_eq_false e];simp
theorem cQ {kind:ByteArray} {ln:ByteArray→Option Int} (h:∀k,(ln k).isSome=true→k∈aD kind) {a:ByteArray} (ha:a∈aD kind) (line:Int):∀k,(setF ln a line k).isSome=true→k∈aD kind:=by
 intro k hk;unfold setF at hk;split at hk
 ·rename_i e;rw[e];exact ha
 ·exact h k hk
theorem cE {α:Type} (f:ByteArray→Option α) (k:ByteArray) (x:α):setF f k x k=some x:=if_pos rfl
theorem aG {α:Type} (f:ByteArray→Option α) {k t:ByteArray} (x:α) (h:t≠k):setF f k x t=f t:=if_neg h
theorem bO:aJ≠ah:=by decide
theorem fk:aJ≠af:=by decide
theorem ij:aJ≠aH:=by decide
theorem fu:aJ≠ak:=by decide
theorem bK:aJ≠aC:=by decide
theorem tO:bR≠bQ:=by decide
theorem vi:bR≠bH:=by decide
theorem vh:bR≠cz:=by decide
theorem vg:bi≠cV:=by decide
theorem rQ:bi≠aW:=by decide
theorem vf:bi≠bH:=by decide
theorem ve:bi≠cz:=by decide
theorem lk:bY≠ay:=by decide
theorem rP:bY≠aM:=by decide
theorem pz:bY≠aP:=by decide
theorem tN:bY≠bM:=by decide
theorem mi:bY≠bb:=by decide
theorem vc:bY≠cU:=by decide
theorem u9:bY≠cT:=by decide
theorem xg:dm≠bH:=by decide
theorem xf:dm≠cz:=by decide
theorem cM:ah≠aC:=by decide
theorem fy:ax≠af:=by decide
theorem tM:bQ≠bR:=by decide
theorem u7:bQ≠bH:=by decide
theorem u6:bQ≠cz:=by decide
theorem rO:ay≠bY:=by decide
theorem iy:ay≠aM:=by decide
theorem jL:ay≠aP:=by decide
theorem i6:ay≠bM:=by decide
theorem tL:ay≠bH:=by decide
theorem gx:ay≠bb:=by decide
theorem tK:ay≠cz:=by decide
theorem mh:ay≠cU:=by decide
theorem mg:ay≠cT:=by decide
theorem u5:cV≠bi:=by decide
theorem tJ:cV≠aW:=by decide
theorem xe:cV≠bH:=by decide
theorem xd:cV≠cz:=by decide
theorem rM:aW≠bi:=by decide
theorem tH:aW≠cV:=by decide
theorem tG:aW≠bH:=by decide
theorem tF:aW≠cz:=by decide
theorem kF:aM≠ay:=by decide
theorem ow:aM≠aP:=by decide
theorem rK:aM≠bM:=by decide
theorem lj:aM≠bb:=by decide
theorem tE:aM≠cU:=by decide
theorem tD:aM≠cT:=by decide
theorem gK:aP≠ay:=by decide
theorem jK:aP≠aM:=by decide
theorem j3:aP≠bM:=by decide
theorem hJ:aP≠bb:=by decide
theorem qC:aP≠cU:=by decide
theorem kE:aP≠cT:=by decide
theorem fT:af≠ah:=by decide
theorem iF:af≠ax:=by decide
theorem j2:af≠aH:=by decide
theorem iE:af≠ak:=by decide
theorem fj:af≠aC:=by decide
theorem kD:aN≠aJ:=by decide
theorem ed:aN≠ah:=by decide
theorem iZ:aN≠af:=by decide
theorem lh:aN≠aH:=by decide
theorem jp:aN≠ak:=by decide
theorem dT:aN≠aC:=by decide
theorem lg:bM≠ay:=by decide
theorem k8:bM≠aM:=by decide
theorem py:bM≠aP:=by decide
theorem u4:bM≠bH:=by decide
theorem jx:bM≠bb:=by decide
theorem u3:bM≠cz:=by decide
theorem uZ:bM≠cU:=by decide
theorem uY:bM≠cT:=by decide
theorem cH:aH≠ah:=by decide
theorem bV:aH≠aC:=by decide
theorem da:ak≠ah:=by decide
theorem fS:ak≠aH:=by decide
theorem cG:ak≠aC:=by decide
theorem tC:bb≠bY:=by decide
theorem iY:bb≠ay:=by decide
theorem iX:bb≠aM:=by decide
theorem j1:bb≠aP:=by decide
theorem mf:bb≠bM:=by decide
theorem uX:bb≠bH:=by decide
theorem uW:bb≠cz:=by decide
theorem nz:bb≠cU:=by decide
theorem ny:bb≠cT:=by decide
theorem jw:cU≠ay:=by decide
theorem mb:cU≠aM:=by decide
theorem kC:cU≠aP:=by decide
theorem nr:cU≠bM:=by decide
theorem jU:cU≠bb:=by decide
theorem ot:cU≠cT:=by decide
theorem fR:aC≠ah:=by decide
theorem ju:cT≠ay:=by decide
theorem ma:cT≠aM:=by decide
theorem qB:cT≠aP:=by decide
theorem np:cT≠bM:=by decide
theorem jT:cT≠bb:=by decide
theorem xc:cT≠cU:=by decide
theorem mX {kind key:ByteArray} (h:key∈aD kind):(kind=aH∧(key=cV∨key=bi∨key=aW))∨(kind=ak∧(key=bQ∨key=bR))∨(kind=af∧(key=bP))∨(kind=ah∧(key=aM∨key=bb∨key=bM∨key=ay∨key=cT∨key=aP∨key=cU∨key=bY))∨(kind=aC∧(key=af∨key=ax))∨(kind=aJ∧(key=bH∨key=cz))∨(kind=aN∧(key=dm)):=by
 unfold aD at h;split at h
 ·rename_i e;have h2:key∈[cV,bi,aW]:=h;exact .inl (⟨e,by simpa using h2⟩)
 split at h
 ·rename_i e;have h2:key∈[bQ,bR]:=h;exact .inr (.inl (⟨e,by simpa using h2⟩))
 split at h
 ·rename_i e;have h2:key∈[bP]:=h;exact .inr (.inr (.inl (⟨e,by simpa using h2⟩)))
 split at h
 ·rename_i e;have h2:key∈[aM,bb,bM,ay,cT,aP,cU,bY]:=h;exact .inr (.inr (.inr (.inl (⟨e,by simpa using h2⟩))))
 split at h
 ·rename_i e;have h2:key∈[af,ax]:=h;exact .inr (.inr (.inr (.inr (.inl (⟨e,by simpa using h2⟩)))))
 split at h
 ·rename_i e;have h2:key∈[bH,cz]:=h;exact .inr (.inr (.inr (.inr (.inr (.inl (⟨e,by simpa using h2⟩))))))
 split at h
 ·rename_i e;have h2:key∈[dm]:=h;exact .inr (.inr (.inr (.inr (.inr (.inr (⟨e,by simpa using h2⟩))))))
 ·cases h
theorem D7:aD aJ=[bH,cz]:=by kernel_rfl
theorem tt {nm:ByteArray} {b:bZ} {v:az} {x:dc} (h:cO aH nm b v x) (vals:List ByteArray) (line:Int) (hk:(v.ln cV).isSome=false) (dj:Lib.containsS (aD aH) cV=true) : (aV aH x ⟨cV,vals,line⟩).f=bB (aX aH ⟨cV,vals,line⟩ v).1 line∧((aX aH ⟨cV,vals,line⟩ v).1=0→cO aH nm b (aX aH ⟨cV,vals,line⟩ v).2 (aV aH x ⟨cV,vals,line⟩)):=by
 have hr:=iV (kind:=aH) (f:=⟨cV,vals,line⟩) (v:=v) (lo:=2) (hi:=7) dj hk (by kernel_rfl) (by kernel_rfl) xe xd (by kernel_rfl);have dA:bI (aD aH) cV=true:=dj;have gX:bI x.known cV=false:=(h.kn _).trans hk;have hf:=h.f;have hc:dw aH x.e ⟨cV,vals,line⟩=({ x.e with dots:=jh vals },jz vals 2 7):=by
  unfold dw;exact if_pos rfl
 have hs:aV aH x ⟨cV,vals,line⟩={ x with e:={ x.e with dots:=jh vals },f:=bB (jz vals 2 7) line,known:=x.known++[cV] }:=by
  unfold aV;simp only[hf,dA,gX,if_true,fo,abs,if_false,ne_eq,not_true_eq_false];rw[if_neg cH,if_neg (fun q=>bV q.1),if_neg bV,hc];simp only[cj]
 rw[hs,hr.1];refine⟨rfl,fun h0=>?_⟩;rw[hr.2 h0];exact {
  f:=by show bB (jz vals 2 7) line=_;rw[h0];rfl
  kn:=eL h.kn _ _
  only:=cQ h.only ((cW _ _).1 dA) _
  e:=fun h1 h2=>by
   show({ x.e with dots:=jh vals }:aa)=_;rw[h.e h1 h2];unfold be;rw[if_pos rfl,if_pos rfl];simp only[az.n,cE,aG _ _ vg,aG _ _ tH,abw]
  e':=fun q=>absurd q (by rintro(q|q);exact cH q;exact bV q)
  c:=fun q=>absurd q cH
  c':=h.c'
  s:=fun q=>absurd q bV }
theorem rq {nm:ByteArray} {b:bZ} {v:az} {x:dc} (h:cO aH nm b v x) (vals:List ByteArray) (line:Int) (hk:(v.ln bi).isSome=false) (dj:Lib.containsS (aD aH) bi=true) : (aV aH x ⟨bi,vals,line⟩).f=bB (aX aH ⟨bi,vals,line⟩ v).1 line∧((aX aH ⟨bi,vals,line⟩ v).1=0→cO aH nm b (aX aH ⟨bi,vals,line⟩ v).2 (aV aH x ⟨bi,vals,line⟩)):=by
 have hr:=iV (kind:=aH) (f:=⟨bi,vals,line⟩) (v:=v) (lo:=1) (hi:=100) dj hk (by kernel_rfl) (by kernel_rfl) vf ve (by kernel_rfl);have dA:bI (aD aH) bi=true:=dj;have gX:bI x.known bi=false:=(h.kn _).trans hk;have hf:=h.f;have hc:dw aH x.e ⟨bi,vals,line⟩=({ x.e with blank:=jh vals },jz vals 1 100):=by
  unfold dw;refine(if_neg (show¬aK aH bi=aK aH cV from by decide)).trans ?_;exact if_pos rfl
 have hs:aV aH x ⟨bi,vals,line⟩={ x with e:={ x.e with blank:=jh vals },f:=bB (jz vals 1 100) line,known:=x.known++[bi] }:=by
  unfold aV;simp only[hf,dA,gX,if_true,fo,abs,if_false,ne_eq,not_true_eq_false];rw[if_neg cH,if_neg (fun q=>bV q.1),if_neg bV,hc];simp only[cj]
 rw[hs,hr.1];refine⟨rfl,fun h0=>?_⟩;rw[hr.2 h0];exact {
  f:=by show bB (jz vals 1 100) line=_;rw[h0];rfl
  kn:=eL h.kn _ _
  only:=cQ h.only ((cW _ _).1 dA) _
  e:=fun h1 h2=>by
   show({ x.e with blank:=jh vals }:aa)=_;rw[h.e h1 h2];unfold be;rw[if_pos rfl,if_pos rfl];simp only[az.n,cE,aG _ _ u5,aG _ _ rM,abw]
  e':=fun q=>absurd q (by rintro(q|q);exact cH q;exact bV q)
  c:=fun q=>absurd q cH
  c':=h.c'
  s:=fun q=>absurd q bV }
theorem qh {nm:ByteArray} {b:bZ} {v:az} {x:dc} (h:cO aH nm b v x) (vals:List ByteArray) (line:Int) (hk:(v.ln aW).isSome=false) (dj:Lib.containsS (aD aH) aW=true) : (aV aH x ⟨aW,vals,line⟩).f=bB (aX aH ⟨aW,vals,line⟩ v).1 line∧((aX aH ⟨aW,vals,line⟩ v).1=0→cO aH nm b (aX aH ⟨aW,vals,line⟩ v).2 (aV aH x ⟨aW,vals,line⟩)):=by
 have hr:=iV (kind:=aH) (f:=⟨aW,vals,line⟩) (v:=v) (lo:=1) (hi:=100) dj hk (by kernel_rfl) (by kernel_rfl) tG tF (by kernel_rfl);have dA:bI (aD aH) aW=true:=dj;have gX:bI x.known aW=false:=(h.kn _).trans hk;have hf:=h.f;have hc:dw aH x.e ⟨aW,vals,line⟩=({ x.e with marked:=jh vals },jz vals 1 100):=by
  unfold dw;refine(if_neg (show¬aK aH aW=aK aH cV from by decide)).trans ?_;refine(if_neg (show¬aK aH aW=aK aH bi from by decide)).trans ?_;exact if_pos rfl
 have hs:aV aH x ⟨aW,vals,line⟩={ x with e:={ x.e with marked:=jh vals },f:=bB (jz vals 1 100) line,known:=x.known++[aW] }:=by
  unfold aV;simp only[hf,dA,gX,if_true,fo,abs,if_false,ne_eq,not_true_eq_false];rw[if_neg cH,if_neg (fun q=>bV q.1),if_neg bV,hc];simp only[cj]
 rw[hs,hr.1];refine⟨rfl,fun h0=>?_⟩;rw[hr.2 h0];exact {
  f:=by show bB (jz vals 1 100) line=_;rw[h0];rfl
  kn:=eL h.kn _ _
  only:=cQ h.only ((cW _ _).1 dA) _
  e:=fun h1 h2=>by
   show({ x.e with marked:=jh vals }:aa)=_;rw[h.e h1 h2];unfold be;rw[if_pos rfl,if_pos rfl];simp only[az.n,cE,aG _ _ tJ,aG _ _ rQ,abw]
  e':=fun q=>absurd q (by rintro(q|q);exact cH q;exact bV q)
  c:=fun q=>absurd q cH
  c':=h.c'
  s:=fun q=>absurd q bV }
theorem nG {nm:ByteArray} {b:bZ} {v:az} {x:dc} (h:cO ak nm b v x) (vals:List ByteArray) (line:Int) (hk:(v.ln bQ).isSome=false) (dj:Lib.containsS (aD ak) bQ=true) : (aV ak x ⟨bQ,vals,line⟩).f=bB (aX ak ⟨bQ,vals,line⟩ v).1 line∧((aX ak ⟨bQ,vals,line⟩ v).1=0→cO ak nm b (aX ak ⟨bQ,vals,line⟩ v).2 (aV ak x ⟨bQ,vals,line⟩)):=by
 have hr:=iV (kind:=ak) (f:=⟨bQ,vals,line⟩) (v:=v) (lo:=1) (hi:=6) dj hk (by kernel_rfl) (by kernel_rfl) u7 u6 (by kernel_rfl);have dA:bI (aD ak) bQ=true:=dj;have gX:bI x.known bQ=false:=(h.kn _).trans hk;have hf:=h.f;have hc:dw ak x.e ⟨bQ,vals,line⟩=({ x.e with scan:=jh vals },jz vals 1 6):=by
  unfold dw;refine(if_neg (show¬aK ak bQ=aK aH cV from by decide)).trans ?_;refine(if_neg (show¬aK ak bQ=aK aH bi from by decide)).trans ?_;refine(if_neg (show¬aK ak bQ=aK aH aW from by decide)).trans ?_;exact if_pos rfl
 have hs:aV ak x ⟨bQ,vals,line⟩={ x with e:={ x.e with scan:=jh vals },f:=bB (jz vals 1 6) line,known:=x.known++[bQ] }:=by
  unfold aV;simp only[hf,dA,gX,if_true,fo,abs,if_false,ne_eq,not_true_eq_false];rw[if_neg da,if_neg (fun q=>cG q.1),if_neg cG,hc];simp only[cj]
 rw[hs,hr.1];refine⟨rfl,fun h0=>?_⟩;rw[hr.2 h0];exact {
  f:=by show bB (jz vals 1 6) line=_;rw[h0];rfl
  kn:=eL h.kn _ _
  only:=cQ h.only ((cW _ _).1 dA) _
  e:=fun h1 h2=>by
   show({ x.e with scan:=jh vals }:aa)=_;rw[h.e h1 h2];unfold be;rw[if_neg fS,if_pos rfl,if_neg fS,if_pos rfl];simp only[az.n,cE,aG _ _ tO,abw]
  e':=fun q=>absurd q (by rintro(q|q);exact da q;exact cG q)
  c:=fun q=>absurd q da
  c':=h.c'
  s:=fun q=>absurd q cG }
theorem nH {nm:ByteArray} {b:bZ} {v:az} {x:dc} (h:cO ak nm b v x) (vals:List ByteArray) (line:Int) (hk:(v.ln bR).isSome=false) (dj:Lib.containsS (aD ak) bR=true) : (aV ak x ⟨bR,vals,line⟩).f=bB (aX ak ⟨bR,vals,line⟩ v).1 line∧((aX ak ⟨bR,vals,line⟩ v).1=0→cO ak nm b (aX ak ⟨bR,vals,line⟩ v).2 (aV ak x ⟨bR,vals,line⟩)):=by
 have hr:=iV (kind:=ak) (f:=⟨bR,vals,line⟩) (v:=v) (lo:=1) (hi:=16) dj hk (by kernel_rfl) (by kernel_rfl) vi vh (by kernel_rfl);have dA:bI (aD ak) bR=true:=dj;have gX:bI x.known bR=false:=(h.kn _).trans hk;have hf:=h.f;have hc:dw ak x.e ⟨bR,vals,line⟩=({ x.e with batch:=jh vals },jz vals 1 16):=by
  unfold dw;refine(if_neg (show¬aK ak bR=aK aH cV from by decide)).trans ?_;refine(if_neg (show¬aK ak bR=aK aH bi from by decide)).trans ?_;refine(if_neg (show¬aK ak bR=aK aH aW from by decide)).trans ?_;refine(if_neg (show¬aK ak bR=aK ak bQ from by decide)).trans ?_;exact if_pos rfl
 have hs:aV ak x ⟨bR,vals,line⟩={ x with e:={ x.e with batch:=jh vals },f:=bB (jz vals 1 16) line,known:=x.known++[bR] }:=by
  unfold aV;simp only[hf,dA,gX,if_true,fo,abs,if_false,ne_eq,not_true_eq_false];rw[if_neg da,if_neg (fun q=>cG q.1),if_neg cG,hc];simp only[cj]
 rw[hs,hr.1];refine⟨rfl,fun h0=>?_⟩;rw[hr.2 h0];exact {
  f:=by show bB (jz vals 1 16) line=_;rw[h0];rfl
  kn:=eL h.kn _ _
  only:=cQ h.only ((cW _ _).1 dA) _
  e:=fun h1 h2=>by
   show({ x.e with batch:=jh vals }:aa)=_;rw[h.e h1 h2];unfold be;rw[if_neg fS,if_pos rfl,if_neg fS,if_pos rfl];simp only[az.n,cE,aG _ _ tM,abw]
  e':=fun q=>absurd q (by rintro(q|q);exact da q;exact cG q)
  c:=fun q=>absurd q da
  c':=h.c'
  s:=fun q=>absurd q cG }
theorem mS {nm:ByteArray} {b:bZ} {v:az} {x:dc} (h:cO af nm b v x) (vals:List ByteArray) (line:Int) (hk:(v.ln bP).isSome=false) (dj:Lib.containsS (aD af) bP=true) : (aV af x ⟨bP,vals,line⟩).f=bB (aX af ⟨bP,vals,line⟩ v).1 line∧((aX af ⟨bP,vals,line⟩ v).1=0→cO af nm b (aX af ⟨bP,vals,line⟩ v).2 (aV af x ⟨bP,vals,line⟩)):=by
 have hr:=rD (kind:=af) (f:=⟨bP,vals,line⟩) (v:=v) (n:=12) dj hk (by kernel_rfl) (by omega);have dA:bI (aD af) bP=true:=dj;have gX:bI x.known bP=false:=(h.kn _).trans hk;have hf:=h.f;have hc:dw af x.e ⟨bP,vals,line⟩=({ x.e with prec:=vals },db vals 12):=by
  unfold dw;refine(if_neg (show¬aK af bP=aK aH cV from by decide)).trans ?_;refine(if_neg (show¬aK af bP=aK aH bi from by decide)).trans ?_;refine(if_neg (show¬aK af bP=aK aH aW from by decide)).trans ?_;refine(if_neg (show¬aK af bP=aK ak bQ from by decide)).trans ?_;refine(if_neg (show¬aK af bP=aK ak bR from by decide)).trans ?_;exact if_pos rfl
 have hs:aV af x ⟨bP,vals,line⟩={ x with e:={ x.e with prec:=vals },f:=bB (db vals 12) line,known:=x.known++[bP] }:=by
  unfold aV;simp only[hf,dA,gX,if_true,fo,abs,if_false,ne_eq,not_true_eq_false];rw[if_neg fT,if_neg (fun q=>fj q.1),if_neg fj,hc];simp only[cj]
 rw[hs,hr.1];refine⟨rfl,fun h0=>?_⟩;rw[hr.2 h0];exact {
  f:=by show bB (db vals 12) line=_;rw[h0];rfl
  kn:=eL h.kn _ _
  only:=cQ h.only ((cW _ _).1 dA) _
  e:=fun h1 h2=>by
   show({ x.e with prec:=vals }:aa)=_;rw[h.e h1 h2];unfold be;rw[if_neg j2,if_neg iE,if_pos rfl,if_neg j2,if_neg iE,if_pos rfl];simp only[az.s,cE,abw]
  e':=fun q=>absurd q (by rintro(q|q);exact fT q;exact fj q)
  c:=fun q=>absurd q fT
  c':=h.c'
  s:=fun q=>absurd q fj }
theorem nI {nm:ByteArray} {b:bZ} {v:az} {x:dc} (h:cO ah nm b v x) (vals:List ByteArray) (line:Int) (hk:(v.ln aM).isSome=false) (dj:Lib.containsS (aD ah) aM=true) : (aV ah x ⟨aM,vals,line⟩).f=bB (aX ah ⟨aM,vals,line⟩ v).1 line∧((aX ah ⟨aM,vals,line⟩ v).1=0→cO ah nm b (aX ah ⟨aM,vals,line⟩ v).2 (aV ah x ⟨aM,vals,line⟩)):=by
 have hr:=rE (kind:=ah) (f:=⟨aM,vals,line⟩) (v:=v) (ws:=eH) dj hk (by kernel_rfl) (by kernel_rfl) (by unfold eH;simp);have dA:bI (aD ah) aM=true:=dj;have gX:bI x.known aM=false:=(h.kn _).trans hk;have hf:=h.f;have hc:fA x.c ⟨aM,vals,line⟩=({ x.c with method:=iN vals eH },jA vals eH):=by
  unfold fA;exact if_pos rfl
 have hs:aV ah x ⟨aM,vals,line⟩={ x with c:={ x.c with method:=iN vals eH },f:=bB (jA vals eH) line,known:=x.known++[aM] }:=by
  unfold aV;simp only[hf,dA,gX,if_true,fo,abs,if_false,ne_eq,not_true_eq_false];rw[hc];simp only[cj];rw[if_neg kF,if_neg lj]
 rw[hs,hr.1];refine⟨rfl,fun h0=>?_⟩;rw[hr.2 h0];exact {
  f:=by show bB (jA vals eH) line=_;rw[h0];rfl
  kn:=eL h.kn _ _
  only:=cQ h.only ((cW _ _).1 dA) _
  e:=fun h1 h2=>absurd rfl h1
  e':=h.e'
  c:=fun hq=>by
   obtain⟨c1,c2,c3⟩:=h.c hq;refine⟨?_,?_,?_⟩
   ·have c4:=congrArg (fun c:ae=>({ c with method:=iN vals eH }:ae)) c1;refine Eq.trans c4 ?_;simp only[cR,az.n,az.s,cE,aG _ _ iX,aG _ _ k8,aG _ _ iy,aG _ _ ma,aG _ _ jK,aG _ _ mb,abw]
   ·show x.digits=_;rw[c2];simp only[az.l,aG _ _ iy]
   ·show x.seats=_;rw[c3];simp only[az.l,aG _ _ iX]
  c':=fun q=>absurd rfl q
  s:=fun q=>absurd q cM }
theorem od {nm:ByteArray} {b:bZ} {v:az} {x:dc} (h:cO ah nm b v x) (vals:List ByteArray) (line:Int) (hk:(v.ln bb).isSome=false) (dj:Lib.containsS (aD ah) bb=true) : (aV ah x ⟨bb,vals,line⟩).f=bB (aX ah ⟨bb,vals,line⟩ v).1 line∧((aX ah ⟨bb,vals,line⟩ v).1=0→cO ah nm b (aX ah ⟨bb,vals,line⟩ v).2 (aV ah x ⟨bb,vals,line⟩)):=by
 have hr:=iV (kind:=ah) (f:=⟨bb,vals,line⟩) (v:=v) (lo:=1) (hi:=5) dj hk (by kernel_rfl) (by kernel_rfl) uX uW (by kernel_rfl);have dA:bI (aD ah) bb=true:=dj;have gX:bI x.known bb=false:=(h.kn _).trans hk;have hf:=h.f;have hc:fA x.c ⟨bb,vals,line⟩=({ x.c with seats:=jh vals },jz vals 1 5):=by
  unfold fA;refine(if_neg iX).trans ?_;exact if_pos rfl
 have hs:aV ah x ⟨bb,vals,line⟩={ x with c:={ x.c with seats:=jh vals },f:=bB (jz vals 1 5) line,known:=x.known++[bb],seats:=line }:=by
  unfold aV;simp only[hf,dA,gX,if_true,fo,abs,if_false,ne_eq,not_true_eq_false];rw[hc];simp only[cj];rw[if_neg iY]
 rw[hs,hr.1];refine⟨rfl,fun h0=>?_⟩;rw[hr.2 h0];exact {
  f:=by show bB (jz vals 1 5) line=_;rw[h0];rfl
  kn:=eL h.kn _ _
  only:=cQ h.only ((cW _ _).1 dA) _
  e:=fun h1 h2=>absurd rfl h1
  e':=h.e'
  c:=fun hq=>by
   obtain⟨c1,c2,c3⟩:=h.c hq;refine⟨?_,?_,?_⟩
   ·have c4:=congrArg (fun c:ae=>({ c with seats:=jh vals }:ae)) c1;refine Eq.trans c4 ?_;simp only[cR,az.n,az.s,cE,aG _ _ lj,aG _ _ jx,aG _ _ gx,aG _ _ jT,aG _ _ hJ,aG _ _ jU,abw]
   ·show x.digits=_;rw[c2];simp only[az.l,aG _ _ gx]
   ·show line=_;simp only[az.l,cE,abw]
  c':=fun q=>absurd rfl q
  s:=fun q=>absurd q cM }
theorem oe {nm:ByteArray} {b:bZ} {v:az} {x:dc} (h:cO ah nm b v x) (vals:List ByteArray) (line:Int) (hk:(v.ln bM).isSome=false) (dj:Lib.containsS (aD ah) bM=true) : (aV ah x ⟨bM,vals,line⟩).f=bB (aX ah ⟨bM,vals,line⟩ v).1 line∧((aX ah ⟨bM,vals,line⟩ v).1=0→cO ah nm b (aX ah ⟨bM,vals,line⟩ v).2 (aV ah x ⟨bM,vals,line⟩)):=by
 have hr:=iV (kind:=ah) (f:=⟨bM,vals,line⟩) (v:=v) (lo:=1) (hi:=7) dj hk (by kernel_rfl) (by kernel_rfl) u4 u3 (by kernel_rfl);have dA:bI (aD ah) bM=true:=dj;have gX:bI x.known bM=false:=(h.kn _).trans hk;have hf:=h.f;have hc:fA x.c ⟨bM,vals,line⟩=({ x.c with ranks:=jh vals },jz vals 1 7):=by
  unfold fA;refine(if_neg k8).trans ?_;refine(if_neg jx).trans ?_;exact if_pos rfl
 have hs:aV ah x ⟨bM,vals,line⟩={ x with c:={ x.c with ranks:=jh vals },f:=bB (jz vals 1 7) line,known:=x.known++[bM] }:=by
  unfold aV;simp only[hf,dA,gX,if_true,fo,abs,if_false,ne_eq,not_true_eq_false];rw[hc];simp only[cj];rw[if_neg lg,if_neg jx]
 rw[hs,hr.1];refine⟨rfl,fun h0=>?_⟩;rw[hr.2 h0];exact {
  f:=by show bB (jz vals 1 7) line=_;rw[h0];rfl
  kn:=eL h.kn _ _
  only:=cQ h.only ((cW _ _).1 dA) _
  e:=fun h1 h2=>absurd rfl h1
  e':=h.e'
  c:=fun hq=>by
   obtain⟨c1,c2,c3⟩:=h.c hq;refine⟨?_,?_,?_⟩
   ·have c4:=congrArg (fun c:ae=>({ c with ranks:=jh vals }:ae)) c1;refine Eq.trans c4 ?_;simp only[cR,az.n,az.s,cE,aG _ _ rK,aG _ _ mf,aG _ _ i6,aG _ _ np,aG _ _ j3,aG _ _ nr,abw]
   ·show x.digits=_;rw[c2];simp only[az.l,aG _ _ i6]
   ·show x.seats=_;rw[c3];simp only[az.l,aG _ _ mf]
  c':=fun q=>absurd rfl q
  s:=fun q=>absurd q cM }
theorem nJ {nm:ByteArray} {b:bZ} {v:az} {x:dc} (h:cO ah nm b v x) (vals:List ByteArray) (line:Int) (hk:(v.ln ay).isSome=false) (dj:Lib.containsS (aD ah) ay=true) : (aV ah x ⟨ay,vals,line⟩).f=bB (aX ah ⟨ay,vals,line⟩ v).1 line∧((aX ah ⟨ay,vals,line⟩ v).1=0→cO ah nm b (aX ah ⟨ay,vals,line⟩ v).2 (aV ah x ⟨ay,vals,line⟩)):=by
 have hr:=iV (kind:=ah) (f:=⟨ay,vals,line⟩) (v:=v) (lo:=1) (hi:=6) dj hk (by kernel_rfl) (by kernel_rfl) tL tK (by kernel_rfl);have dA:bI (aD ah) ay=true:=dj;have gX:bI x.known ay=false:=(h.kn _).trans hk;have hf:=h.f;have hc:fA x.c ⟨ay,vals,line⟩=({ x.c with digits:=jh vals },jz vals 1 6):=by
  unfold fA;refine(if_neg iy).trans ?_;refine(if_neg gx).trans ?_;refine(if_neg i6).trans ?_;exact if_pos rfl
 have hs:aV ah x ⟨ay,vals,line⟩={ x with c:={ x.c with digits:=jh vals },f:=bB (jz vals 1 6) line,known:=x.known++[ay],digits:=line }:=by
  unfold aV;simp only[hf,dA,gX,if_true,fo,abs,if_false,ne_eq,not_true_eq_false];rw[hc];simp only[cj];rw[if_neg gx]
 rw[hs,hr.1];refine⟨rfl,fun h0=>?_⟩;rw[hr.2 h0];exact {
  f:=by show bB (jz vals 1 6) line=_;rw[h0];rfl
  kn:=eL h.kn _ _
  only:=cQ h.only ((cW _ _).1 dA) _
  e:=fun h1 h2=>absurd rfl h1
  e':=h.e'
  c:=fun hq=>by
   obtain⟨c1,c2,c3⟩:=h.c hq;refine⟨?_,?_,?_⟩
   ·have c4:=congrArg (fun c:ae=>({ c with digits:=jh vals }:ae)) c1;refine Eq.trans c4 ?_;simp only[cR,az.n,az.s,cE,aG _ _ kF,aG _ _ iY,aG _ _ lg,aG _ _ ju,aG _ _ gK,aG _ _ jw,abw]
   ·show line=_;simp only[az.l,cE,abw]
   ·show x.seats=_;rw[c3];simp only[az.l,aG _ _ iY]
  c':=fun q=>absurd rfl q
  s:=fun q=>absurd q cM }
theorem pp {nm:ByteArray} {b:bZ} {v:az} {x:dc} (h:cO ah nm b v x) (vals:List ByteArray) (line:Int) (hk:(v.ln cT).isSome=false) (dj:Lib.containsS (aD ah) cT=true) : (aV ah x ⟨cT,vals,line⟩).f=bB (aX ah ⟨cT,vals,line⟩ v).1 line∧((aX ah ⟨cT,vals,line⟩ v).1=0→cO ah nm b (aX ah ⟨cT,vals,line⟩ v).2 (aV ah x ⟨cT,vals,line⟩)):=by
 have hr:=rE (kind:=ah) (f:=⟨cT,vals,line⟩) (v:=v) (ws:=iR) dj hk (by kernel_rfl) (by kernel_rfl) (by unfold iR;simp);have dA:bI (aD ah) cT=true:=dj;have gX:bI x.known cT=false:=(h.kn _).trans hk;have hf:=h.f;have hc:fA x.c ⟨cT,vals,line⟩=({ x.c with ties:=iN vals iR },jA vals iR):=by
  unfold fA;refine(if_neg ma).trans ?_;refine(if_neg jT).trans ?_;refine(if_neg np).trans ?_;refine(if_neg ju).trans ?_;exact if_pos rfl
 have hs:aV ah x ⟨cT,vals,line⟩={ x with c:={ x.c with ties:=iN vals iR },f:=bB (jA vals iR) line,known:=x.known++[cT] }:=by
  unfold aV;simp only[hf,dA,gX,if_true,fo,abs,if_false,ne_eq,not_true_eq_false];rw[hc];simp only[cj];rw[if_neg ju,if_neg jT]
 rw[hs,hr.1];refine⟨rfl,fun h0=>?_⟩;rw[hr.2 h0];exact {
  f:=by show bB (jA vals iR) line=_;rw[h0];rfl
  kn:=eL h.kn _ _
  only:=cQ h.only ((cW _ _).1 dA) _
  e:=fun h1 h2=>absurd rfl h1
  e':=h.e'
  c:=fun hq=>by
   obtain⟨c1,c2,c3⟩:=h.c hq;refine⟨?_,?_,?_⟩
   ·have c4:=congrArg (fun c:ae=>({ c with ties:=iN vals iR }:ae)) c1;refine Eq.trans c4 ?_;simp only[cR,az.n,az.s,cE,aG _ _ tD,aG _ _ ny,aG _ _ uY,aG _ _ mg,aG _ _ kE,aG _ _ ot,abw]
   ·show x.digits=_;rw[c2];simp only[az.l,aG _ _ mg]
   ·show x.seats=_;rw[c3];simp only[az.l,aG _ _ ny]
  c':=fun q=>absurd rfl q
  s:=fun q=>absurd q cM }
theorem lX {nm:ByteArray} {b:bZ} {v:az} {x:dc} (h:cO ah nm b v x) (vals:List ByteArray) (line:Int) (hk:(v.ln aP).isSome=false) (dj:Lib.containsS (aD ah) aP=true) : (aV ah x ⟨aP,vals,line⟩).f=bB (aX ah ⟨aP,vals,line⟩ v).1 line∧((aX ah ⟨aP,vals,line⟩ v).1=0→cO ah nm b (aX ah ⟨aP,vals,line⟩ v).2 (aV ah x ⟨aP,vals,line⟩)):=by
 have hr:=rE (kind:=ah) (f:=⟨aP,vals,line⟩) (v:=v) (ws:=iT) dj hk (by kernel_rfl) (by kernel_rfl) (by unfold iT;simp);have dA:bI (aD ah) aP=true:=dj;have gX:bI x.known aP=false:=(h.kn _).trans hk;have hf:=h.f;have hc:fA x.c ⟨aP,vals,line⟩=({ x.c with over:=iN vals iT },jA vals iT):=by
  unfold fA;refine(if_neg jK).trans ?_;refine(if_neg hJ).trans ?_;refine(if_neg j3).trans ?_;refine(if_neg gK).trans ?_;refine(if_neg kE).trans ?_;exact if_pos rfl
 have hs:aV ah x ⟨aP,vals,line⟩={ x with c:={ x.c with over:=iN vals iT },f:=bB (jA vals iT) line,known:=x.known++[aP] }:=by
  unfold aV;simp only[hf,dA,gX,if_true,fo,abs,if_false,ne_eq,not_true_eq_false];rw[hc];simp only[cj];rw[if_neg gK,if_neg hJ]
 rw[hs,hr.1];refine⟨rfl,fun h0=>?_⟩;rw[hr.2 h0];exact {
  f:=by show bB (jA vals iT) line=_;rw[h0];rfl
  kn:=eL h.kn _ _
  only:=cQ h.only ((cW _ _).1 dA) _
  e:=fun h1 h2=>absurd rfl h1
  e':=h.e'
  c:=fun hq=>by
   obtain⟨c1,c2,c3⟩:=h.c hq;refine⟨?_,?_,?_⟩
   ·have c4:=congrArg (fun c:ae=>({ c with over:=iN vals iT }:ae)) c1;refine Eq.trans c4 ?_;simp only[cR,az.n,az.s,cE,aG _ _ ow,aG _ _ j1,aG _ _ py,aG _ _ jL,aG _ _ qB,aG _ _ kC,abw]
   ·show x.digits=_;rw[c2];simp only[az.l,aG _ _ jL]
   ·show x.seats=_;rw[c3];simp only[az.l,aG _ _ j1]
  c':=fun q=>absurd rfl q
  s:=fun q=>absurd q cM }
theorem pv {nm:ByteArray} {b:bZ} {v:az} {x:dc} (h:cO ah nm b v x) (vals:List ByteArray) (line:Int) (hk:(v.ln cU).isSome=false) (dj:Lib.containsS (aD ah) cU=true) : (aV ah x ⟨cU,vals,line⟩).f=bB (aX ah ⟨cU,vals,line⟩ v).1 line∧((aX ah ⟨cU,vals,line⟩ v).1=0→cO ah nm b (aX ah ⟨cU,vals,line⟩ v).2 (aV ah x ⟨cU,vals,line⟩)):=by
 have hr:=rE (kind:=ah) (f:=⟨cU,vals,line⟩) (v:=v) (ws:=iS) dj hk (by kernel_rfl) (by kernel_rfl) (by unfold iS;simp);have dA:bI (aD ah) cU=true:=dj;have gX:bI x.known cU=false:=(h.kn _).trans hk;have hf:=h.f;have hc:fA x.c ⟨cU,vals,line⟩=({ x.c with skip:=iN vals iS },jA vals iS):=by
  unfold fA;refine(if_neg mb).trans ?_;refine(if_neg jU).trans ?_;refine(if_neg nr).trans ?_;refine(if_neg jw).trans ?_;refine(if_neg ot).trans ?_;refine(if_neg kC).trans ?_;exact if_pos rfl
 have hs:aV ah x ⟨cU,vals,line⟩={ x with c:={ x.c with skip:=iN vals iS },f:=bB (jA vals iS) line,known:=x.known++[cU] }:=by
  unfold aV;simp only[hf,dA,gX,if_true,fo,abs,if_false,ne_eq,not_true_eq_false];rw[hc];simp only[cj];rw[if_neg jw,if_neg jU]
 rw[hs,hr.1];refine⟨rfl,fun h0=>?_⟩;rw[hr.2 h0];exact {
  f:=by show bB (jA vals iS) line=_;rw[h0];rfl
  kn:=eL h.kn _ _
  only:=cQ h.only ((cW _ _).1 dA) _
  e:=fun h1 h2=>absurd rfl h1
  e':=h.e'
  c:=fun hq=>by
   obtain⟨c1,c2,c3⟩:=h.c hq;refine⟨?_,?_,?_⟩
   ·have c4:=congrArg (fun c:ae=>({ c with skip:=iN vals iS }:ae)) c1;refine Eq.trans c4 ?_;simp only[cR,az.n,az.s,cE,aG _ _ tE,aG _ _ nz,aG _ _ uZ,aG _ _ mh,aG _ _ xc,aG _ _ qC,abw]
   ·show x.digits=_;rw[c2];simp only[az.l,aG _ _ mh]
   ·show x.seats=_;rw[c3];simp only[az.l,aG _ _ nz]
  c':=fun q=>absurd rfl q
  s:=fun q=>absurd q cM }
theorem og {nm:ByteArray} {b:bZ} {v:az} {x:dc} (h:cO ah nm b v x) (vals:List ByteArray) (line:Int) (hk:(v.ln bY).isSome=false) (dj:Lib.containsS (aD ah) bY=true) : (aV ah x ⟨bY,vals,line⟩).f=bB (aX ah ⟨bY,vals,line⟩ v).1 line∧((aX ah ⟨bY,vals,line⟩ v).1=0→cO ah nm b (aX ah ⟨bY,vals,line⟩ v).2 (aV ah x ⟨bY,vals,line⟩)):=by
 have hr:=rD (kind:=ah) (f:=⟨bY,vals,line⟩) (v:=v) (n:=7) dj hk (by kernel_rfl) (by omega);have dA:bI (aD ah) bY=true:=dj;have gX:bI x.known bY=false:=(h.kn _).trans hk;have hf:=h.f;have hc:fA x.c ⟨bY,vals,line⟩=({ x.c with cands:=vals },db vals 7):=by
  unfold fA;refine(if_neg rP).trans ?_;refine(if_neg mi).trans ?_;refine(if_neg tN).trans ?_;refine(if_neg lk).trans ?_;refine(if_neg u9).trans ?_;refine(if_neg pz).trans ?_;refine(if_neg vc).trans ?_;rfl
 have hs:aV ah x ⟨bY,vals,line⟩={ x with c:={ x.c with cands:=vals },f:=bB (db vals 7) line,known:=x.known++[bY] }:=by
  unfold aV;simp only[hf,dA,gX,if_true,fo,abs,if_false,ne_eq,not_true_eq_false];rw[hc];simp only[cj];rw[if_neg lk,if_neg mi]
 rw[hs,hr.1];refine⟨rfl,fun h0=>?_⟩;rw[hr.2 h0];exact {
  f:=by show bB (db vals 7) line=_;rw[h0];rfl
  kn:=eL h.kn _ _
  only:=cQ h.only ((cW _ _).1 dA) _
  e:=fun h1 h2=>absurd rfl h1
  e':=h.e'
  c:=fun hq=>by
   obtain⟨c1,c2,c3⟩:=h.c hq;refine⟨?_,?_,?_⟩
   ·have c4:=congrArg (fun c:ae=>({ c with cands:=vals }:ae)) c1;refine Eq.trans c4 ?_;simp only[cR,az.n,az.s,cE,abw]
   ·show x.digits=_;rw[c2];simp only[az.l,aG _ _ rO]
   ·show x.seats=_;rw[c3];simp only[az.l,aG _ _ tC]
  c':=fun q=>absurd rfl q
  s:=fun q=>absurd q cM }
theorem mR {nm:ByteArray} {b:bZ} {v:az} {x:dc} (h:cO aC nm b v x) (vals:List ByteArray) (line:Int) (hk:(v.ln af).isSome=false) (dj:Lib.containsS (aD aC) af=true) : (aV aC x ⟨af,vals,line⟩).f=bB (aX aC ⟨af,vals,line⟩ v).1 line∧((aX aC ⟨af,vals,line⟩ v).1=0→cO aC nm b (aX aC ⟨af,vals,line⟩ v).2 (aV aC x ⟨af,vals,line⟩)):=by
 have hr:=rD (kind:=aC) (f:=⟨af,vals,line⟩) (v:=v) (n:=12) dj hk (by kernel_rfl) (by omega);have dA:bI (aD aC) af=true:=dj;have gX:bI x.known af=false:=(h.kn _).trans hk;have hf:=h.f;have hs:aV aC x ⟨af,vals,line⟩={ x with n0:=vals,l0:=line,f:=bB (db vals 12) line,known:=x.known++[af] }:=by
  unfold aV;simp only[hf,dA,gX,if_true,fo,abs,if_false,ne_eq,not_true_eq_false,cj];rw[if_neg fR,if_pos ⟨trivial,trivial⟩]
 rw[hs,hr.1];refine⟨rfl,fun h0=>?_⟩;rw[hr.2 h0];exact {
  f:=by show bB (db vals 12) line=_;rw[h0];rfl
  kn:=eL h.kn _ _
  only:=cQ h.only ((cW _ _).1 dA) _
  e:=fun h1 h2=>absurd rfl h2
  e':=h.e'
  c:=fun q=>absurd q fR
  c':=h.c'
  s:=fun hq=>by
   obtain⟨c1,c2,c3,c4⟩:=h.s hq;refine⟨?_,?_,?_,?_⟩
   ·simp only[az.s,cE,abw]
   ·show x.n1=_;rw[c2];simp only[az.s,aG _ _ fy]
   ·simp only[az.l,cE,abw]
   ·show x.l1=_;rw[c4];simp only[az.l,aG _ _ fy] }
theorem nF {nm:ByteArray} {b:bZ} {v:az} {x:dc} (h:cO aC nm b v x) (vals:List ByteArray) (line:Int) (hk:(v.ln ax).isSome=false) (dj:Lib.containsS (aD aC) ax=true) : (aV aC x ⟨ax,vals,line⟩).f=bB (aX aC ⟨ax,vals,line⟩ v).1 line∧((aX aC ⟨ax,vals,line⟩ v).1=0→cO aC nm b (aX aC ⟨ax,vals,line⟩ v).2 (aV aC x ⟨ax,vals,line⟩)):=by
 have hr:=rD (kind:=aC) (f:=⟨ax,vals,line⟩) (v:=v) (n:=4) dj hk (by kernel_rfl) (by omega);have dA:bI (aD aC) ax=true:=dj;have gX:bI x.known ax=false:=(h.kn _).trans hk;have hf:=h.f;have hs:aV aC x ⟨ax,vals,line⟩={ x with n1:=vals,l1:=line,f:=bB (db vals 4) line,known:=x.known++[ax] }:=by
  unfold aV;simp only[hf,dA,gX,if_true,fo,abs,if_false,ne_eq,not_true_eq_false,cj];rw[if_neg fR,if_neg (fun q=>fy q.2)]
 rw[hs,hr.1];refine⟨rfl,fun h0=>?_⟩;rw[hr.2 h0];exact {
  f:=by show bB (db vals 4) line=_;rw[h0];rfl
  kn:=eL h.kn _ _
  only:=cQ h.only ((cW _ _).1 dA) _
  e:=fun h1 h2=>absurd rfl h2
  e':=h.e'
  c:=fun q=>absurd q fR
  c':=h.c'
  s:=fun hq=>by
   obtain⟨c1,c2,c3,c4⟩:=h.s hq;refine⟨?_,?_,?_,?_⟩
   ·show x.n0=_;rw[c1];simp only[az.s,aG _ _ iF]
   ·simp only[az.s,cE,abw]
   ·show x.l0=_;rw[c3];simp only[az.l,aG _ _ iF]
   ·simp only[az.l,cE,abw] }
theorem rz {nm:ByteArray} {b:bZ} {v:az} {x:dc} (h:cO aJ nm b v x) (vals:List ByteArray) (line:Int) (hk:(v.ln bH).isSome=false) (dj:Lib.containsS (aD aJ) bH=true) : (aV aJ x ⟨bH,vals,line⟩).f=bB (aX aJ ⟨bH,vals,line⟩ v).1 line∧((aX aJ ⟨bH,vals,line⟩ v).1=0→cO aJ nm b (aX aJ ⟨bH,vals,line⟩ v).2 (aV aJ x ⟨bH,vals,line⟩)):=by
 have hr:=KN (kind:=aJ) (f:=⟨bH,vals,line⟩) (v:=v) dj hk rfl;have dA:bI (aD aJ) bH=true:=dj;have gX:bI x.known bH=false:=(h.kn _).trans hk;have hf:=h.f;have hc:dw aJ x.e ⟨bH,vals,line⟩=({ x.e with risk:=(d9 (bj vals).data.toList).2 },jI vals):=by
  unfold dw;refine(if_neg (show¬aK aJ bH=aK aH cV from by decide)).trans ?_;refine(if_neg (show¬aK aJ bH=aK aH bi from by decide)).trans ?_;refine(if_neg (show¬aK aJ bH=aK aH aW from by decide)).trans ?_;refine(if_neg (show¬aK aJ bH=aK ak bQ from by decide)).trans ?_;refine(if_neg (show¬aK aJ bH=aK ak bR from by decide)).trans ?_;refine(if_neg (show¬aK aJ bH=aK af bP from by decide)).trans ?_;exact if_pos rfl
 have hs:aV aJ x ⟨bH,vals,line⟩={ x with e:={ x.e with risk:=(d9 (bj vals).data.toList).2 },f:=bB (jI vals) line,known:=x.known++[bH] }:=by
  unfold aV;simp only[hf,dA,gX,if_true,fo,abs,if_false,ne_eq,not_true_eq_false];rw[if_neg bO,if_neg (fun q=>bK q.1),if_neg bK,hc];simp only[cj]
 rw[hs,hr.1];refine⟨rfl,fun h0=>?_⟩;rw[hr.2 h0];exact {
  f:=by show bB (jI vals) line=_;rw[h0];rfl
  kn:=eL h.kn _ _
  only:=cQ h.only ((cW _ _).1 dA) _
  e:=fun h1 h2=>by
   show({ x.e with risk:=(d9 (bj vals).data.toList).2 }:aa)=_;rw[h.e h1 h2];unfold be;rw[if_neg ij,if_neg fu,if_neg fk,if_neg bO,if_neg bK,if_pos rfl,if_neg ij,if_neg fu,if_neg fk,if_neg bO,if_neg bK,if_pos rfl]
  e':=fun q=>absurd q (by rintro(q|q);exact bO q;exact bK q)
  c:=fun q=>absurd q bO
  c':=h.c'
  s:=fun q=>absurd q bK }
theorem ry {nm:ByteArray} {b:bZ} {v:az} {x:dc} (h:cO aJ nm b v x) (vals:List ByteArray) (line:Int) (hk:(v.ln cz).isSome=false) (dj:Lib.containsS (aD aJ) cz=true) : (aV aJ x ⟨cz,vals,line⟩).f=bB (aX aJ ⟨cz,vals,line⟩ v).1 line∧((aX aJ ⟨cz,vals,line⟩ v).1=0→cO aJ nm b (aX aJ ⟨cz,vals,line⟩ v).2 (aV aJ x ⟨cz,vals,line⟩)):=by
 have hr:=KM (kind:=aJ) (f:=⟨cz,vals,line⟩) (v:=v) dj hk rfl;have dA:bI (aD aJ) cz=true:=dj;have gX:bI x.known cz=false:=(h.kn _).trans hk;have hf:=h.f;have hc:dw aJ x.e ⟨cz,vals,line⟩=({ x.e with seed:=bj vals },kX vals):=by
  unfold dw;refine(if_neg (show¬aK aJ cz=aK aH cV from by decide)).trans ?_;refine(if_neg (show¬aK aJ cz=aK aH bi from by decide)).trans ?_;refine(if_neg (show¬aK aJ cz=aK aH aW from by decide)).trans ?_;refine(if_neg (show¬aK aJ cz=aK ak bQ from by decide)).trans ?_;refine(if_neg (show¬aK aJ cz=aK ak bR from by decide)).trans ?_;refine(if_neg (show¬aK aJ cz=aK af bP from by decide)).trans ?_;refine(if_neg (show¬aK aJ cz=aK aJ bH from by decide)).trans ?_;exact if_pos rfl
 have hs:aV aJ x ⟨cz,vals,line⟩={ x with e:={ x.e with seed:=bj vals },f:=bB (kX vals) line,known:=x.known++[cz] }:=by
  unfold aV;simp only[hf,dA,gX,if_true,fo,abs,if_false,ne_eq,not_true_eq_false];rw[if_neg bO,if_neg (fun q=>bK q.1),if_neg bK,hc];simp only[cj]
 rw[hs,hr.1];refine⟨rfl,fun h0=>?_⟩;rw[hr.2 h0];exact {
  f:=by show bB (kX vals) line=_;rw[h0];rfl
  kn:=eL h.kn _ _
  only:=cQ h.only ((cW _ _).1 dA) _
  e:=fun h1 h2=>by
   show({ x.e with seed:=bj vals }:aa)=_;rw[h.e h1 h2];unfold be;rw[if_neg ij,if_neg fu,if_neg fk,if_neg bO,if_neg bK,if_pos rfl,if_neg ij,if_neg fu,if_neg fk,if_neg bO,if_neg bK,if_pos rfl]
  e':=fun q=>absurd q (by rintro(q|q);exact bO q;exact bK q)
  c:=fun q=>absurd q bO
  c':=h.c'
  s:=fun q=>absurd q bK }
theorem po {nm:ByteArray} {b:bZ} {v:az} {x:dc} (h:cO aN nm b v x) (vals:List ByteArray) (line:Int) (hk:(v.ln dm).isSome=false) (dj:Lib.containsS (aD aN) dm=true) : (aV aN x ⟨dm,vals,line⟩).f=bB (aX aN ⟨dm,vals,line⟩ v).1 line∧((aX aN ⟨dm,vals,line⟩ v).1=0→cO aN nm b (aX aN ⟨dm,vals,line⟩ v).2 (aV aN x ⟨dm,vals,line⟩)):=by
 have hr:=iV (kind:=aN) (f:=⟨dm,vals,line⟩) (v:=v) (lo:=1) (hi:=400) dj hk (by kernel_rfl) (by kernel_rfl) xg xf (by kernel_rfl);have dA:bI (aD aN) dm=true:=dj;have gX:bI x.known dm=false:=(h.kn _).trans hk;have hf:=h.f;have hc:dw aN x.e ⟨dm,vals,line⟩=({ x.e with cell:=jh vals },jz vals 1 400):=by
  unfold dw;refine(if_neg (show¬aK aN dm=aK aH cV from by decide)).trans ?_;refine(if_neg (show¬aK aN dm=aK aH bi from by decide)).trans ?_;refine(if_neg (show¬aK aN dm=aK aH aW from by decide)).trans ?_;refine(if_neg (show¬aK aN dm=aK ak bQ from by decide)).trans ?_;refine(if_neg (show¬aK aN dm=aK ak bR from by decide)).trans ?_;refine(if_neg (show¬aK aN dm=aK af bP from by decide)).trans ?_;refine(if_neg (show¬aK aN dm=aK aJ bH from by decide)).trans ?_;refine(if_neg (show¬aK aN dm=aK aJ cz from by decide)).trans ?_;exact if_pos rfl
 have hs:aV aN x ⟨dm,vals,line⟩={ x with e:={ x.e with cell:=jh vals },f:=bB (jz vals 1 400) line,known:=x.known++[dm] }:=by
  unfold aV;simp only[hf,dA,gX,if_true,fo,abs,if_false,ne_eq,not_true_eq_false];rw[if_neg ed,if_neg (fun q=>dT q.1),if_neg dT,hc];simp only[cj]
 rw[hs,hr.1];refine⟨rfl,fun h0=>?_⟩;rw[hr.2 h0];exact {
  f:=by show bB (jz vals 1 400) line=_;rw[h0];rfl
  kn:=eL h.kn _ _
  only:=cQ h.only ((cW _ _).1 dA) _
  e:=fun h1 h2=>by
   show({ x.e with cell:=jh vals }:aa)=_;rw[h.e h1 h2];unfold be;rw[if_neg lh,if_neg jp,if_neg iZ,if_neg ed,if_neg dT,if_neg kD,if_pos rfl,if_neg lh,if_neg jp,if_neg iZ,if_neg ed,if_neg dT,if_neg kD,if_pos rfl];simp only[az.n,cE,abw]
  e':=fun q=>absurd q (by rintro(q|q);exact ed q;exact dT q)
  c:=fun q=>absurd q ed
  c':=h.c'
  s:=fun q=>absurd q dT }
theorem S8 {kind nm:ByteArray} {b:bZ} {v:az} {x:dc} (h:cO kind nm b v x) (f:ar) : (aV kind x f).f=bB (aX kind f v).1 f.line∧((aX kind f v).1=0→cO kind nm b (aX kind f v).2 (aV kind x f)):=by
 have hf:=h.f;by_cases dj:Lib.containsS (aD kind) f.key=true
 ·by_cases hk:(v.ln f.key).isSome=true
  ·have hr:aX kind f v=(3,v):=by
    unfold aX;rw[if_neg (by rw[dj];simp),if_pos hk]
   have dA:bI (aD kind) f.key=true:=dj;have gX:bI x.known f.key=true:=(h.kn _).trans hk;rw[hr];refine⟨?_,fun h0=>by cases h0⟩;unfold aV;simp only[hf,dA,gX,if_true,fo,cj];rw[if_pos (by rw[sw];omega)]
  ·have hk:(v.ln f.key).isSome=false:=by simpa using hk
   have hm:f.key∈aD kind:=(cW _ _).1 dj;have hc:=mX hm;obtain⟨key,vals,line⟩:=f;simp only at hc dj hk;rcases hc with⟨rfl,(rfl|rfl|rfl)⟩|⟨rfl,(rfl|rfl)⟩|⟨rfl,rfl⟩|⟨rfl,(rfl|rfl|rfl|rfl|rfl|rfl|rfl|rfl)⟩|⟨rfl,(rfl|rfl)⟩|⟨rfl,(rfl|rfl)⟩|⟨rfl,rfl⟩
   ·exact tt h vals line hk dj
   ·exact rq h vals line hk dj
   ·exact qh h vals line hk dj
   ·exact nG h vals line hk dj
   ·exact nH h vals line hk dj
   ·exact mS h vals line hk dj
   ·exact nI h vals line hk dj
   ·exact od h vals line hk dj
   ·exact oe h vals line hk dj
   ·exact nJ h vals line hk dj
   ·exact pp h vals line hk dj
   ·exact lX h vals line hk dj
   ·exact pv h vals line hk dj
   ·exact og h vals line hk dj
   ·exact mR h vals line hk dj
   ·exact nF h vals line hk dj
   ·exact rz h vals line hk dj
   ·exact ry h vals line hk dj
   ·exact po h vals line hk dj
 ·have dj:Lib.containsS (aD kind) f.key=false:=by simpa using dj
  have hr:aX kind f v=(2,v):=by
   unfold aX;rw[if_pos dj]
  have dA:bI (aD kind) f.key=false:=dj;rw[hr];refine⟨?_,fun h0=>by cases h0⟩;unfold aV;simp only[hf,dA,abs,if_false,cj];have h2:(bB 2 f.line).no≠0:=by rw[sw];omega
  rw[tA h2,if_pos h2]
theorem CU {kind nm:ByteArray} {b:bZ}:∀(fs:List ar) {v:az} {x:dc},cO kind nm b v x→ (dS kind fs x).f=(eJ kind fs v).1∧((eJ kind fs v).1.no=0→cO kind nm b (eJ kind fs v).2 (dS kind fs x))
 | [],v,x,h=>⟨h.f,fun _=>h⟩
 | f::l,v,x,h=>by
  have hs:=S8 h f;unfold dS eJ;rw[if_neg (by rw[h.f];simp)];by_cases h0:(aX kind f v).1=0
  ·rw[if_neg (by rw[h0];simp)];exact CU l (hs.2 h0)
  ·rw[if_pos h0];have hf:(aV kind x f).f=⟨(aX kind f v).1,f.line⟩:=by
    rw[hs.1];unfold bB;rw[if_neg h0]
   have fb:dS kind l (aV kind x f)=aV kind x f:=by
    cases l with
    | nil=>rfl
    | cons g l=>unfold dS;rw[if_pos (by rw[hf];exact h0)]
   rw[fb];exact⟨hf,fun h1=>absurd h1 h0⟩
end Go.Proofs.YtdbpbfglhbiadaaGreatDoor
