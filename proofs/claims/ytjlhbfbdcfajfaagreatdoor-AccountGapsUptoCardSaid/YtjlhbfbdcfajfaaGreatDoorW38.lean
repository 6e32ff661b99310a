/- Law2 -/
import Derived.Test.YtjlhbfbdcfajfaaGreatDoorW00
import Derived.Test.YtjlhbfbdcfajfaaGreatDoorW37
set_option maxHeartbeats 8000000
set_option maxRecDepth 100000
namespace Go.Proofs.YtjlhbfbdcfajfaaGreatDoor
open Go.RowKit
def bA (no line:Int):eM:=if no=0 then⟨0,0⟩ else⟨no,line⟩
theorem ci (no line:Int):(⟨0,0⟩:eM).note no line=bA no line:=by
 unfold eM.note bA;by_cases h:no=0
 ·rw[if_neg (fun k=>k.2 h),if_pos h]
 ·rw[if_pos ⟨rfl,h⟩,if_neg h]
theorem sa (line:Int):bA 0 line=⟨0,0⟩:=rfl
theorem sd {no line:Int}:(bA no line).no=no:=by
 unfold bA;split
 ·rename_i h;exact h.symm
 ·rfl
theorem tg {f:eM} {no line:Int} (h:f.no≠0):f.note no line=f:=by
 unfold eM.note;rw[if_neg (fun k=>h k.1)]
theorem fp (f:eM) (line:Int):f.note 0 line=f:=by
 unfold eM.note;rw[if_neg (fun k=>k.2 rfl)]
theorem iY {kind:ByteArray} {f:ao} {v:aC} {lo hi:Int} (di:Lib.containsS (aM kind) f.key=true) (hk:(v.ln f.key).isSome=false) (h1:dn f.key=0) (h2:bc f.key=[]) (h3:f.key≠bL) (h4:f.key≠cM) (h5:fx f.key=(lo,hi)) : (aZ kind f v).1=jA f.vals lo hi∧(jA f.vals lo hi=0→(aZ kind f v).2={ v with ln:=setF v.ln f.key f.line,num:=setF v.num f.key (jj f.vals) }):=by
 unfold aZ jA;rw[if_neg (by rw[di];simp),if_neg (by rw[hk];simp),if_neg (by rw[h1];simp)];by_cases hl:f.vals.length≠1
 ·rw[if_pos hl,if_pos hl];exact⟨rfl,fun h=>by cases h⟩
 ·rw[if_neg hl,if_neg hl];have hv:bj f.vals=f.vals.getD 0 ⟨#[]⟩:=by unfold bj;rw[if_neg hl]
  unfold yz jj;rw[hv,if_neg (by rw[h2];simp),if_neg h3,if_neg h4,h5,wJ];by_cases hn:(cz (f.vals.getD 0 ⟨#[]⟩).data.toList).2=false
  ·rw[if_pos hn,if_pos hn];exact⟨rfl,fun h=>by cases h⟩
  ·rw[if_neg hn,if_neg hn,wG (by simpa using hn)];simp only;split
   ·exact⟨rfl,fun h=>by cases h⟩
   ·exact⟨rfl,fun _=>rfl⟩
theorem qY {kind:ByteArray} {f:ao} {v:aC} {ws:List ByteArray} (di:Lib.containsS (aM kind) f.key=true) (hk:(v.ln f.key).isSome=false) (h1:dn f.key=0) (h2:bc f.key=ws) (h3:ws≠[]) : (aZ kind f v).1=jC f.vals ws∧(jC f.vals ws=0→(aZ kind f v).2={ v with ln:=setF v.ln f.key f.line,num:=setF v.num f.key (iO f.vals ws) }):=by
 unfold aZ jC;rw[if_neg (by rw[di];simp),if_neg (by rw[hk];simp),if_neg (by rw[h1];simp)];by_cases hl:f.vals.length≠1
 ·rw[if_pos hl,if_pos hl];exact⟨rfl,fun h=>by cases h⟩
 ·rw[if_neg hl,if_neg hl];have hv:bj f.vals=f.vals.getD 0 ⟨#[]⟩:=by unfold bj;rw[if_neg hl]
  unfold yz iO;rw[hv,if_pos (by rw[h2];exact h3),h2];have hm:-1≤Lib.idxOfS ws (f.vals.getD 0 ⟨#[]⟩):=by
   unfold Lib.idxOfS;exact(je (f.vals.getD 0 ⟨#[]⟩) ws 0).1
  simp only;by_cases hn:Lib.idxOfS ws (f.vals.getD 0 ⟨#[]⟩)<0
  ·rw[if_pos hn,if_pos (by omega)];exact⟨rfl,fun h=>by cases h⟩
  ·rw[if_neg hn,if_neg (by omega)];refine⟨?_,fun _=>?_⟩<;>first|rfl|trivial
theorem qX {kind:ByteArray} {f:ao} {v:aC} {n:Int} (di:Lib.containsS (aM kind) f.key=true) (hk:(v.ln f.key).isSome=false) (h1:dn f.key=n) (hn:0<n) : (aZ kind f v).1=eO f.vals n∧(eO f.vals n=0→(aZ kind f v).2={ v with ln:=setF v.ln f.key f.line,lst:=setF v.lst f.key f.vals }):=by
 unfold aZ;rw[if_neg (by rw[di];simp),if_neg (by rw[hk];simp),if_pos (by rw[h1];exact hn),h1];exact⟨rfl,fun _=>rfl⟩
theorem KA {kind:ByteArray} {f:ao} {v:aC} (di:Lib.containsS (aM kind) f.key=true) (hk:(v.ln f.key).isSome=false) (h:f.key=bL) : (aZ kind f v).1=jK f.vals∧(jK f.vals=0→(aZ kind f v).2={ v with ln:=setF v.ln f.key f.line,risk:=(dW (bj f.vals).data.toList).2 }):=by
 have h1:dn f.key=0:=by rw[h];kernel_rfl
 have h2:bc f.key=[]:=by rw[h];kernel_rfl
 unfold aZ jK;rw[if_neg (by rw[di];simp),if_neg (by rw[hk];simp),if_neg (by rw[h1];simp)];by_cases hl:f.vals.length≠1
 ·rw[if_pos hl,if_pos hl];exact⟨rfl,fun h=>by cases h⟩
 ·rw[if_neg hl,if_neg hl];have hv:bj f.vals=f.vals.getD 0 ⟨#[]⟩:=by unfold bj;rw[if_neg hl]
  unfold yz;rw[hv,if_neg (by rw[h2];simp),if_pos h];have hr:=CZ (f.vals.getD 0 ⟨#[]⟩).data.toList;refine⟨hr.1.symm,fun h0=>?_⟩;rw[hr.2 (hr.1.symm.trans h0)];rfl
theorem Kz {kind:ByteArray} {f:ao} {v:aC} (di:Lib.containsS (aM kind) f.key=true) (hk:(v.ln f.key).isSome=false) (h:f.key=cM) : (aZ kind f v).1=kU f.vals∧(kU f.vals=0→(aZ kind f v).2={ v with ln:=setF v.ln f.key f.line,seed:=bj f.vals }):=by
 have h1:dn f.key=0:=by rw[h];kernel_rfl
 have h2:bc f.key=[]:=by rw[h];kernel_rfl
 unfold aZ kU;rw[if_neg (by rw[di];simp),if_neg (by rw[hk];simp),if_neg (by rw[h1];simp)];by_cases hl:f.vals.length≠1
 ·rw[if_pos hl,if_pos hl];exact⟨rfl,fun h=>by cases h⟩
 ·rw[if_neg hl,if_neg hl];have hv:bj f.vals=f.vals.getD 0 ⟨#[]⟩:=by unfold bj;rw[if_neg hl]
  unfold yz;rw[hv,if_neg (by rw[h2];simp),if_neg (by rw[h];decide),if_pos h];have hp:=FU (f.vals.getD 0 ⟨#[]⟩);by_cases hq:dK (f.vals.getD 0 ⟨#[]⟩) 0 24=true
  ·rw[if_pos hq,if_neg (hp.1 hq)];exact⟨rfl,fun _=>rfl⟩
  ·rw[if_neg hq,if_pos (abX.1 fun h'=>hq (hp.2 h'))];exact⟨rfl,fun h=>by cases h⟩
structure cT (kind nm:ByteArray) (b:cL) (v:aC) (x:dd):Prop where
 f:x.f=⟨0,0⟩
 kn:∀k,bH x.known k=(v.ln k).isSome
 only:∀k,(v.ln k).isSome=true→k∈aM kind
 e:kind≠ah→kind≠aD→x.e=(bG kind nm v b).e
 e':(kind=ah∨kind=aD)→x.e=b.e
 c:kind=ah→({ x.c with name:=nm }:ai)=da nm v∧x.digits=v.l az∧x.seats=v.l bf
 c':kind≠ah→x.c=ai.zero
 s:kind=aD→x.n0=v.s af∧x.n1=v.s ay∧x.l0=v.l af∧x.l1=v.l ay
theorem zV (l:List ByteArray) (a k:ByteArray):bH (l++[a]) k=(bH l k||decide (k=a)):=by
 rw[acs,ace,cV,cV,decide_eq_true_eq];simp
theorem eL {l:List ByteArray} {ln:ByteArray→Option Int} (h:∀k,bH l k=(ln k).isSome) (a:ByteArray) (line:Int):∀k,bH (l++[a]) k=(setF ln a line k).isSome:=by
 intro k;rw[zV,h];unfold setF;by_cases e:k=a
 ·rw[if_pos e,decide_eq_true e];simp
 ·rw[if_neg e,decide_eq_false e];simp
theorem cU {kind:ByteArray} {ln:ByteArray→Option Int} (h:∀k,(ln k).isSome=true→k∈aM kind) {a:ByteArray} (ha:a∈aM kind) (line:Int):∀k,(setF ln a line k).isSome=true→k∈aM kind:=by
 intro k hk;unfold setF at hk;split at hk
 ·rename_i e;rw[e];exact ha
 ·exact h k hk
theorem cw {α:Type} (f:ByteArray→Option α) (k:ByteArray) (x:α):setF f k x k=some x:=if_pos rfl
theorem aJ {α:Type} (f:ByteArray→Option α) {k t:ByteArray} (x:α) (h:t≠k):setF f k x t=f t:=if_neg h
theorem bN:aO≠ah:=by decide
theorem fk:aO≠af:=by decide
theorem ik:aO≠aP:=by decide
theorem fv:aO≠au:=by decide
theorem bJ:aO≠aD:=by decide
theorem tz:cf≠bZ:=by decide
theorem uV:cf≠bL:=by decide
theorem uU:cf≠cM:=by decide
theorem uT:bq≠dh:=by decide
theorem rC:bq≠bb:=by decide
theorem uS:bq≠bL:=by decide
theorem uR:bq≠cM:=by decide
theorem lg:cF≠az:=by decide
theorem rA:cF≠aN:=by decide
theorem px:cF≠aV:=by decide
theorem tx:cF≠bS:=by decide
theorem mg:cF≠bf:=by decide
theorem uQ:cF≠dc:=by decide
theorem uP:cF≠db:=by decide
theorem wR:dH≠bL:=by decide
theorem wQ:dH≠cM:=by decide
theorem cQ:ah≠aD:=by decide
theorem fB:ay≠af:=by decide
theorem tw:bZ≠cf:=by decide
theorem uO:bZ≠bL:=by decide
theorem uN:bZ≠cM:=by decide
theorem rz:az≠cF:=by decide
theorem iz:az≠aN:=by decide
theorem jM:az≠aV:=by decide
theorem i9:az≠bS:=by decide
theorem tv:az≠bL:=by decide
theorem gr:az≠bf:=by decide
theorem tu:az≠cM:=by decide
theorem mf:az≠dc:=by decide
theorem mb:az≠db:=by decide
theorem uM:dh≠bq:=by decide
theorem tt:dh≠bb:=by decide
theorem wP:dh≠bL:=by decide
theorem wO:dh≠cM:=by decide
theorem ry:bb≠bq:=by decide
theorem tr:bb≠dh:=by decide
theorem tq:bb≠bL:=by decide
theorem tp:bb≠cM:=by decide
theorem kD:aN≠az:=by decide
theorem om:aN≠aV:=by decide
theorem rq:aN≠bS:=by decide
theorem k8:aN≠bf:=by decide
theorem tm:aN≠dc:=by decide
theorem tl:aN≠db:=by decide
theorem gG:aV≠az:=by decide
theorem jL:aV≠aN:=by decide
theorem j2:aV≠bS:=by decide
theorem gZ:aV≠bf:=by decide
theorem qt:aV≠dc:=by decide
theorem kC:aV≠db:=by decide
theorem fS:af≠ah:=by decide
theorem iH:af≠ay:=by decide
theorem j1:af≠aP:=by decide
theorem iG:af≠au:=by decide
theorem fj:af≠aD:=by decide
theorem kB:aY≠aO:=by decide
theorem dY:aY≠ah:=by decide
theorem i7:aY≠af:=by decide
theorem k7:aY≠aP:=by decide
theorem jr:aY≠au:=by decide
theorem dR:aY≠aD:=by decide
theorem kZ:bS≠az:=by decide
theorem kY:bS≠aN:=by decide
theorem pw:bS≠aV:=by decide
theorem uL:bS≠bL:=by decide
theorem jz:bS≠bf:=by decide
theorem uK:bS≠cM:=by decide
theorem uJ:bS≠dc:=by decide
theorem uI:bS≠db:=by decide
theorem cJ:aP≠ah:=by decide
theorem bU:aP≠aD:=by decide
theorem cZ:au≠ah:=by decide
theorem fR:au≠aP:=by decide
theorem cE:au≠aD:=by decide
theorem tj:bf≠cF:=by decide
theorem i6:bf≠az:=by decide
theorem iZ:bf≠aN:=by decide
theorem j0:bf≠aV:=by decide
theorem ma:bf≠bS:=by decide
theorem uH:bf≠bL:=by decide
theorem uG:bf≠cM:=by decide
theorem nz:bf≠dc:=by decide
theorem ny:bf≠db:=by decide
theorem jy:dc≠az:=by decide
theorem l9:dc≠aN:=by decide
theorem kA:dc≠aV:=by decide
theorem nr:dc≠bS:=by decide
theorem jV:dc≠bf:=by decide
theorem ol:dc≠db:=by decide
theorem fQ:aD≠ah:=by decide
theorem jx:db≠az:=by decide
theorem lZ:db≠aN:=by decide
theorem qp:db≠aV:=by decide
theorem np:db≠bS:=by decide
theorem jU:db≠bf:=by decide
theorem wM:db≠dc:=by decide
theorem mW {kind key:ByteArray} (h:key∈aM kind):(kind=aP∧(key=dh∨key=bq∨key=bb))∨(kind=au∧(key=bZ∨key=cf))∨(kind=af∧(key=bY))∨(kind=ah∧(key=aN∨key=bf∨key=bS∨key=az∨key=db∨key=aV∨key=dc∨key=cF))∨(kind=aD∧(key=af∨key=ay))∨(kind=aO∧(key=bL∨key=cM))∨(kind=aY∧(key=dH)):=by
 unfold aM at h;split at h
 ·rename_i e;have h2:key∈[dh,bq,bb]:=h;exact .inl (⟨e,by simpa using h2⟩)
 split at h
 ·rename_i e;have h2:key∈[bZ,cf]:=h;exact .inr (.inl (⟨e,by simpa using h2⟩))
 split at h
 ·rename_i e;have h2:key∈[bY]:=h;exact .inr (.inr (.inl (⟨e,by simpa using h2⟩)))
 split at h
 ·rename_i e;have h2:key∈[aN,bf,bS,az,db,aV,dc,cF]:=h;exact .inr (.inr (.inr (.inl (⟨e,by simpa using h2⟩))))
 split at h
 ·rename_i e;have h2:key∈[af,ay]:=h;exact .inr (.inr (.inr (.inr (.inl (⟨e,by simpa using h2⟩)))))
 split at h
 ·rename_i e;have h2:key∈[bL,cM]:=h;exact .inr (.inr (.inr (.inr (.inr (.inl (⟨e,by simpa using h2⟩))))))
 split at h
 ·rename_i e;have h2:key∈[dH]:=h;exact .inr (.inr (.inr (.inr (.inr (.inr (⟨e,by simpa using h2⟩))))))
 ·cases h
theorem DU:aM aO=[bL,cM]:=by kernel_rfl
theorem ta {nm:ByteArray} {b:cL} {v:aC} {x:dd} (h:cT aP nm b v x) (vals:List ByteArray) (line:Int) (hk:(v.ln dh).isSome=false) (di:Lib.containsS (aM aP) dh=true) : (aW aP x ⟨dh,vals,line⟩).f=bA (aZ aP ⟨dh,vals,line⟩ v).1 line∧((aZ aP ⟨dh,vals,line⟩ v).1=0→cT aP nm b (aZ aP ⟨dh,vals,line⟩ v).2 (aW aP x ⟨dh,vals,line⟩)):=by
 have hr:=iY (kind:=aP) (f:=⟨dh,vals,line⟩) (v:=v) (lo:=2) (hi:=7) di hk (by kernel_rfl) (by kernel_rfl) wP wO (by kernel_rfl);have dw:bH (aM aP) dh=true:=di;have gV:bH x.known dh=false:=(h.kn _).trans hk;have hf:=h.f;have hc:dp aP x.e ⟨dh,vals,line⟩=({ x.e with dots:=jj vals },jA vals 2 7):=by
  unfold dp;exact if_pos rfl
 have hs:aW aP x ⟨dh,vals,line⟩={ x with e:={ x.e with dots:=jj vals },f:=bA (jA vals 2 7) line,known:=x.known++[dh] }:=by
  unfold aW;simp only[hf,dw,gV,if_true,fp,abx,if_false,ne_eq,not_true_eq_false];rw[if_neg cJ,if_neg (fun q=>bU q.1),if_neg bU,hc];simp only[ci]
 rw[hs,hr.1];refine⟨rfl,fun h0=>?_⟩;rw[hr.2 h0];exact {
  f:=by show bA (jA vals 2 7) line=_;rw[h0];rfl
  kn:=eL h.kn _ _
  only:=cU h.only ((cV _ _).1 dw) _
  e:=fun h1 h2=>by
   show({ x.e with dots:=jj vals }:aa)=_;rw[h.e h1 h2];unfold bG;rw[if_pos rfl,if_pos rfl];simp only[aC.n,cw,aJ _ _ uT,aJ _ _ tr,aby]
  e':=fun q=>absurd q (by rintro(q|q);exact cJ q;exact bU q)
  c:=fun q=>absurd q cJ
  c':=h.c'
  s:=fun q=>absurd q bU }
theorem qT {nm:ByteArray} {b:cL} {v:aC} {x:dd} (h:cT aP nm b v x) (vals:List ByteArray) (line:Int) (hk:(v.ln bq).isSome=false) (di:Lib.containsS (aM aP) bq=true) : (aW aP x ⟨bq,vals,line⟩).f=bA (aZ aP ⟨bq,vals,line⟩ v).1 line∧((aZ aP ⟨bq,vals,line⟩ v).1=0→cT aP nm b (aZ aP ⟨bq,vals,line⟩ v).2 (aW aP x ⟨bq,vals,line⟩)):=by
 have hr:=iY (kind:=aP) (f:=⟨bq,vals,line⟩) (v:=v) (lo:=1) (hi:=100) di hk (by kernel_rfl) (by kernel_rfl) uS uR (by kernel_rfl);have dw:bH (aM aP) bq=true:=di;have gV:bH x.known bq=false:=(h.kn _).trans hk;have hf:=h.f;have hc:dp aP x.e ⟨bq,vals,line⟩=({ x.e with blank:=jj vals },jA vals 1 100):=by
  unfold dp;refine(if_neg (show¬aK aP bq=aK aP dh from by decide)).trans ?_;exact if_pos rfl
 have hs:aW aP x ⟨bq,vals,line⟩={ x with e:={ x.e with blank:=jj vals },f:=bA (jA vals 1 100) line,known:=x.known++[bq] }:=by
  unfold aW;simp only[hf,dw,gV,if_true,fp,abx,if_false,ne_eq,not_true_eq_false];rw[if_neg cJ,if_neg (fun q=>bU q.1),if_neg bU,hc];simp only[ci]
 rw[hs,hr.1];refine⟨rfl,fun h0=>?_⟩;rw[hr.2 h0];exact {
  f:=by show bA (jA vals 1 100) line=_;rw[h0];rfl
  kn:=eL h.kn _ _
  only:=cU h.only ((cV _ _).1 dw) _
  e:=fun h1 h2=>by
   show({ x.e with blank:=jj vals }:aa)=_;rw[h.e h1 h2];unfold bG;rw[if_pos rfl,if_pos rfl];simp only[aC.n,cw,aJ _ _ uM,aJ _ _ ry,aby]
  e':=fun q=>absurd q (by rintro(q|q);exact cJ q;exact bU q)
  c:=fun q=>absurd q cJ
  c':=h.c'
  s:=fun q=>absurd q bU }
theorem qf {nm:ByteArray} {b:cL} {v:aC} {x:dd} (h:cT aP nm b v x) (vals:List ByteArray) (line:Int) (hk:(v.ln bb).isSome=false) (di:Lib.containsS (aM aP) bb=true) : (aW aP x ⟨bb,vals,line⟩).f=bA (aZ aP ⟨bb,vals,line⟩ v).1 line∧((aZ aP ⟨bb,vals,line⟩ v).1=0→cT aP nm b (aZ aP ⟨bb,vals,line⟩ v).2 (aW aP x ⟨bb,vals,line⟩)):=by
 have hr:=iY (kind:=aP) (f:=⟨bb,vals,line⟩) (v:=v) (lo:=1) (hi:=100) di hk (by kernel_rfl) (by kernel_rfl) tq tp (by kernel_rfl);have dw:bH (aM aP) bb=true:=di;have gV:bH x.known bb=false:=(h.kn _).trans hk;have hf:=h.f;have hc:dp aP x.e ⟨bb,vals,line⟩=({ x.e with marked:=jj vals },jA vals 1 100):=by
  unfold dp;refine(if_neg (show¬aK aP bb=aK aP dh from by decide)).trans ?_;refine(if_neg (show¬aK aP bb=aK aP bq from by decide)).trans ?_;exact if_pos rfl
 have hs:aW aP x ⟨bb,vals,line⟩={ x with e:={ x.e with marked:=jj vals },f:=bA (jA vals 1 100) line,known:=x.known++[bb] }:=by
  unfold aW;simp only[hf,dw,gV,if_true,fp,abx,if_false,ne_eq,not_true_eq_false];rw[if_neg cJ,if_neg (fun q=>bU q.1),if_neg bU,hc];simp only[ci]
 rw[hs,hr.1];refine⟨rfl,fun h0=>?_⟩;rw[hr.2 h0];exact {
  f:=by show bA (jA vals 1 100) line=_;rw[h0];rfl
  kn:=eL h.kn _ _
  only:=cU h.only ((cV _ _).1 dw) _
  e:=fun h1 h2=>by
   show({ x.e with marked:=jj vals }:aa)=_;rw[h.e h1 h2];unfold bG;rw[if_pos rfl,if_pos rfl];simp only[aC.n,cw,aJ _ _ tt,aJ _ _ rC,aby]
  e':=fun q=>absurd q (by rintro(q|q);exact cJ q;exact bU q)
  c:=fun q=>absurd q cJ
  c':=h.c'
  s:=fun q=>absurd q bU }
theorem nF {nm:ByteArray} {b:cL} {v:aC} {x:dd} (h:cT au nm b v x) (vals:List ByteArray) (line:Int) (hk:(v.ln bZ).isSome=false) (di:Lib.containsS (aM au) bZ=true) : (aW au x ⟨bZ,vals,line⟩).f=bA (aZ au ⟨bZ,vals,line⟩ v).1 line∧((aZ au ⟨bZ,vals,line⟩ v).1=0→cT au nm b (aZ au ⟨bZ,vals,line⟩ v).2 (aW au x ⟨bZ,vals,line⟩)):=by
 have hr:=iY (kind:=au) (f:=⟨bZ,vals,line⟩) (v:=v) (lo:=1) (hi:=6) di hk (by kernel_rfl) (by kernel_rfl) uO uN (by kernel_rfl);have dw:bH (aM au) bZ=true:=di;have gV:bH x.known bZ=false:=(h.kn _).trans hk;have hf:=h.f;have hc:dp au x.e ⟨bZ,vals,line⟩=({ x.e with scan:=jj vals },jA vals 1 6):=by
  unfold dp;refine(if_neg (show¬aK au bZ=aK aP dh from by decide)).trans ?_;refine(if_neg (show¬aK au bZ=aK aP bq from by decide)).trans ?_;refine(if_neg (show¬aK au bZ=aK aP bb from by decide)).trans ?_;exact if_pos rfl
 have hs:aW au x ⟨bZ,vals,line⟩={ x with e:={ x.e with scan:=jj vals },f:=bA (jA vals 1 6) line,known:=x.known++[bZ] }:=by
  unfold aW;simp only[hf,dw,gV,if_true,fp,abx,if_false,ne_eq,not_true_eq_false];rw[if_neg cZ,if_neg (fun q=>cE q.1),if_neg cE,hc];simp only[ci]
 rw[hs,hr.1];refine⟨rfl,fun h0=>?_⟩;rw[hr.2 h0];exact {
  f:=by show bA (jA vals 1 6) line=_;rw[h0];rfl
  kn:=eL h.kn _ _
  only:=cU h.only ((cV _ _).1 dw) _
  e:=fun h1 h2=>by
   show({ x.e with scan:=jj vals }:aa)=_;rw[h.e h1 h2];unfold bG;rw[if_neg fR,if_pos rfl,if_neg fR,if_pos rfl];simp only[aC.n,cw,aJ _ _ tz,aby]
  e':=fun q=>absurd q (by rintro(q|q);exact cZ q;exact cE q)
  c:=fun q=>absurd q cZ
  c':=h.c'
  s:=fun q=>absurd q cE }
theorem nG {nm:ByteArray} {b:cL} {v:aC} {x:dd} (h:cT au nm b v x) (vals:List ByteArray) (line:Int) (hk:(v.ln cf).isSome=false) (di:Lib.containsS (aM au) cf=true) : (aW au x ⟨cf,vals,line⟩).f=bA (aZ au ⟨cf,vals,line⟩ v).1 line∧((aZ au ⟨cf,vals,line⟩ v).1=0→cT au nm b (aZ au ⟨cf,vals,line⟩ v).2 (aW au x ⟨cf,vals,line⟩)):=by
 have hr:=iY (kind:=au) (f:=⟨cf,vals,line⟩) (v:=v) (lo:=1) (hi:=16) di hk (by kernel_rfl) (by kernel_rfl) uV uU (by kernel_rfl);have dw:bH (aM au) cf=true:=di;have gV:bH x.known cf=false:=(h.kn _).trans hk;have hf:=h.f;have hc:dp au x.e ⟨cf,vals,line⟩=({ x.e with batch:=jj vals },jA vals 1 16):=by
  unfold dp;refine(if_neg (show¬aK au cf=aK aP dh from by decide)).trans ?_;refine(if_neg (show¬aK au cf=aK aP bq from by decide)).trans ?_;refine(if_neg (show¬aK au cf=aK aP bb from by decide)).trans ?_;refine(if_neg (show¬aK au cf=aK au bZ from by decide)).trans ?_;exact if_pos rfl
 have hs:aW au x ⟨cf,vals,line⟩={ x with e:={ x.e with batch:=jj vals },f:=bA (jA vals 1 16) line,known:=x.known++[cf] }:=by
  unfold aW;simp only[hf,dw,gV,if_true,fp,abx,if_false,ne_eq,not_true_eq_false];rw[if_neg cZ,if_neg (fun q=>cE q.1),if_neg cE,hc];simp only[ci]
 rw[hs,hr.1];refine⟨rfl,fun h0=>?_⟩;rw[hr.2 h0];exact {
  f:=by show bA (jA vals 1 16) line=_;rw[h0];rfl
  kn:=eL h.kn _ _
  only:=cU h.only ((cV _ _).1 dw) _
  e:=fun h1 h2=>by
   show({ x.e with batch:=jj vals }:aa)=_;rw[h.e h1 h2];unfold bG;rw[if_neg fR,if_pos rfl,if_neg fR,if_pos rfl];simp only[aC.n,cw,aJ _ _ tw,aby]
  e':=fun q=>absurd q (by rintro(q|q);exact cZ q;exact cE q)
  c:=fun q=>absurd q cZ
  c':=h.c'
  s:=fun q=>absurd q cE }
theorem mP {nm:ByteArray} {b:cL} {v:aC} {x:dd} (h:cT af nm b v x) (vals:List ByteArray) (line:Int) (hk:(v.ln bY).isSome=false) (di:Lib.containsS (aM af) bY=true) : (aW af x ⟨bY,vals,line⟩).f=bA (aZ af ⟨bY,vals,line⟩ v).1 line∧((aZ af ⟨bY,vals,line⟩ v).1=0→cT af nm b (aZ af ⟨bY,vals,line⟩ v).2 (aW af x ⟨bY,vals,line⟩)):=by
 have hr:=qX (kind:=af) (f:=⟨bY,vals,line⟩) (v:=v) (n:=12) di hk (by kernel_rfl) (by omega);have dw:bH (aM af) bY=true:=di;have gV:bH x.known bY=false:=(h.kn _).trans hk;have hf:=h.f;have hc:dp af x.e ⟨bY,vals,line⟩=({ x.e with prec:=vals },eO vals 12):=by
  unfold dp;refine(if_neg (show¬aK af bY=aK aP dh from by decide)).trans ?_;refine(if_neg (show¬aK af bY=aK aP bq from by decide)).trans ?_;refine(if_neg (show¬aK af bY=aK aP bb from by decide)).trans ?_;refine(if_neg (show¬aK af bY=aK au bZ from by decide)).trans ?_;refine(if_neg (show¬aK af bY=aK au cf from by decide)).trans ?_;exact if_pos rfl
 have hs:aW af x ⟨bY,vals,line⟩={ x with e:={ x.e with prec:=vals },f:=bA (eO vals 12) line,known:=x.known++[bY] }:=by
  unfold aW;simp only[hf,dw,gV,if_true,fp,abx,if_false,ne_eq,not_true_eq_false];rw[if_neg fS,if_neg (fun q=>fj q.1),if_neg fj,hc];simp only[ci]
 rw[hs,hr.1];refine⟨rfl,fun h0=>?_⟩;rw[hr.2 h0];exact {
  f:=by show bA (eO vals 12) line=_;rw[h0];rfl
  kn:=eL h.kn _ _
  only:=cU h.only ((cV _ _).1 dw) _
  e:=fun h1 h2=>by
   show({ x.e with prec:=vals }:aa)=_;rw[h.e h1 h2];unfold bG;rw[if_neg j1,if_neg iG,if_pos rfl,if_neg j1,if_neg iG,if_pos rfl];simp only[aC.s,cw,aby]
  e':=fun q=>absurd q (by rintro(q|q);exact fS q;exact fj q)
  c:=fun q=>absurd q fS
  c':=h.c'
  s:=fun q=>absurd q fj }
theorem nH {nm:ByteArray} {b:cL} {v:aC} {x:dd} (h:cT ah nm b v x) (vals:List ByteArray) (line:Int) (hk:(v.ln aN).isSome=false) (di:Lib.containsS (aM ah) aN=true) : (aW ah x ⟨aN,vals,line⟩).f=bA (aZ ah ⟨aN,vals,line⟩ v).1 line∧((aZ ah ⟨aN,vals,line⟩ v).1=0→cT ah nm b (aZ ah ⟨aN,vals,line⟩ v).2 (aW ah x ⟨aN,vals,line⟩)):=by
 have hr:=qY (kind:=ah) (f:=⟨aN,vals,line⟩) (v:=v) (ws:=eH) di hk (by kernel_rfl) (by kernel_rfl) (by unfold eH;simp);have dw:bH (aM ah) aN=true:=di;have gV:bH x.known aN=false:=(h.kn _).trans hk;have hf:=h.f;have hc:fE x.c ⟨aN,vals,line⟩=({ x.c with method:=iO vals eH },jC vals eH):=by
  unfold fE;exact if_pos rfl
 have hs:aW ah x ⟨aN,vals,line⟩={ x with c:={ x.c with method:=iO vals eH },f:=bA (jC vals eH) line,known:=x.known++[aN] }:=by
  unfold aW;simp only[hf,dw,gV,if_true,fp,abx,if_false,ne_eq,not_true_eq_false];rw[hc];simp only[ci];rw[if_neg kD,if_neg k8]
 rw[hs,hr.1];refine⟨rfl,fun h0=>?_⟩;rw[hr.2 h0];exact {
  f:=by show bA (jC vals eH) line=_;rw[h0];rfl
  kn:=eL h.kn _ _
  only:=cU h.only ((cV _ _).1 dw) _
  e:=fun h1 h2=>absurd rfl h1
  e':=h.e'
  c:=fun hq=>by
   obtain⟨c1,c2,c3⟩:=h.c hq;refine⟨?_,?_,?_⟩
   ·have c4:=congrArg (fun c:ai=>({ c with method:=iO vals eH }:ai)) c1;refine Eq.trans c4 ?_;simp only[da,aC.n,aC.s,cw,aJ _ _ iZ,aJ _ _ kY,aJ _ _ iz,aJ _ _ lZ,aJ _ _ jL,aJ _ _ l9,aby]
   ·show x.digits=_;rw[c2];simp only[aC.l,aJ _ _ iz]
   ·show x.seats=_;rw[c3];simp only[aC.l,aJ _ _ iZ]
  c':=fun q=>absurd rfl q
  s:=fun q=>absurd q cQ }
theorem nY {nm:ByteArray} {b:cL} {v:aC} {x:dd} (h:cT ah nm b v x) (vals:List ByteArray) (line:Int) (hk:(v.ln bf).isSome=false) (di:Lib.containsS (aM ah) bf=true) : (aW ah x ⟨bf,vals,line⟩).f=bA (aZ ah ⟨bf,vals,line⟩ v).1 line∧((aZ ah ⟨bf,vals,line⟩ v).1=0→cT ah nm b (aZ ah ⟨bf,vals,line⟩ v).2 (aW ah x ⟨bf,vals,line⟩)):=by
 have hr:=iY (kind:=ah) (f:=⟨bf,vals,line⟩) (v:=v) (lo:=1) (hi:=5) di hk (by kernel_rfl) (by kernel_rfl) uH uG (by kernel_rfl);have dw:bH (aM ah) bf=true:=di;have gV:bH x.known bf=false:=(h.kn _).trans hk;have hf:=h.f;have hc:fE x.c ⟨bf,vals,line⟩=({ x.c with seats:=jj vals },jA vals 1 5):=by
  unfold fE;refine(if_neg iZ).trans ?_;exact if_pos rfl
 have hs:aW ah x ⟨bf,vals,line⟩={ x with c:={ x.c with seats:=jj vals },f:=bA (jA vals 1 5) line,known:=x.known++[bf],seats:=line }:=by
  unfold aW;simp only[hf,dw,gV,if_true,fp,abx,if_false,ne_eq,not_true_eq_false];rw[hc];simp only[ci];rw[if_neg i6]
 rw[hs,hr.1];refine⟨rfl,fun h0=>?_⟩;rw[hr.2 h0];exact {
  f:=by show bA (jA vals 1 5) line=_;rw[h0];rfl
  kn:=eL h.kn _ _
  only:=cU h.only ((cV _ _).1 dw) _
  e:=fun h1 h2=>absurd rfl h1
  e':=h.e'
  c:=fun hq=>by
   obtain⟨c1,c2,c3⟩:=h.c hq;refine⟨?_,?_,?_⟩
   ·have c4:=congrArg (fun c:ai=>({ c with seats:=jj vals }:ai)) c1;refine Eq.trans c4 ?_;simp only[da,aC.n,aC.s,cw,aJ _ _ k8,aJ _ _ jz,aJ _ _ gr,aJ _ _ jU,aJ _ _ gZ,aJ _ _ jV,aby]
   ·show x.digits=_;rw[c2];simp only[aC.l,aJ _ _ gr]
   ·show line=_;simp only[aC.l,cw,aby]
  c':=fun q=>absurd rfl q
  s:=fun q=>absurd q cQ }
theorem nZ {nm:ByteArray} {b:cL} {v:aC} {x:dd} (h:cT ah nm b v x) (vals:List ByteArray) (line:Int) (hk:(v.ln bS).isSome=false) (di:Lib.containsS (aM ah) bS=true) : (aW ah x ⟨bS,vals,line⟩).f=bA (aZ ah ⟨bS,vals,line⟩ v).1 line∧((aZ ah ⟨bS,vals,line⟩ v).1=0→cT ah nm b (aZ ah ⟨bS,vals,line⟩ v).2 (aW ah x ⟨bS,vals,line⟩)):=by
 have hr:=iY (kind:=ah) (f:=⟨bS,vals,line⟩) (v:=v) (lo:=1) (hi:=7) di hk (by kernel_rfl) (by kernel_rfl) uL uK (by kernel_rfl);have dw:bH (aM ah) bS=true:=di;have gV:bH x.known bS=false:=(h.kn _).trans hk;have hf:=h.f;have hc:fE x.c ⟨bS,vals,line⟩=({ x.c with ranks:=jj vals },jA vals 1 7):=by
  unfold fE;refine(if_neg kY).trans ?_;refine(if_neg jz).trans ?_;exact if_pos rfl
 have hs:aW ah x ⟨bS,vals,line⟩={ x with c:={ x.c with ranks:=jj vals },f:=bA (jA vals 1 7) line,known:=x.known++[bS] }:=by
  unfold aW;simp only[hf,dw,gV,if_true,fp,abx,if_false,ne_eq,not_true_eq_false];rw[hc];simp only[ci];rw[if_neg kZ,if_neg jz]
 rw[hs,hr.1];refine⟨rfl,fun h0=>?_⟩;rw[hr.2 h0];exact {
  f:=by show bA (jA vals 1 7) line=_;rw[h0];rfl
  kn:=eL h.kn _ _
  only:=cU h.only ((cV _ _).1 dw) _
  e:=fun h1 h2=>absurd rfl h1
  e':=h.e'
  c:=fun hq=>by
   obtain⟨c1,c2,c3⟩:=h.c hq;refine⟨?_,?_,?_⟩
   ·have c4:=congrArg (fun c:ai=>({ c with ranks:=jj vals }:ai)) c1;refine Eq.trans c4 ?_;simp only[da,aC.n,aC.s,cw,aJ _ _ rq,aJ _ _ ma,aJ _ _ i9,aJ _ _ np,aJ _ _ j2,aJ _ _ nr,aby]
   ·show x.digits=_;rw[c2];simp only[aC.l,aJ _ _ i9]
   ·show x.seats=_;rw[c3];simp only[aC.l,aJ _ _ ma]
  c':=fun q=>absurd rfl q
  s:=fun q=>absurd q cQ }
theorem nI {nm:ByteArray} {b:cL} {v:aC} {x:dd} (h:cT ah nm b v x) (vals:List ByteArray) (line:Int) (hk:(v.ln az).isSome=false) (di:Lib.containsS (aM ah) az=true) : (aW ah x ⟨az,vals,line⟩).f=bA (aZ ah ⟨az,vals,line⟩ v).1 line∧((aZ ah ⟨az,vals,line⟩ v).1=0→cT ah nm b (aZ ah ⟨az,vals,line⟩ v).2 (aW ah x ⟨az,vals,line⟩)):=by
 have hr:=iY (kind:=ah) (f:=⟨az,vals,line⟩) (v:=v) (lo:=1) (hi:=6) di hk (by kernel_rfl) (by kernel_rfl) tv tu (by kernel_rfl);have dw:bH (aM ah) az=true:=di;have gV:bH x.known az=false:=(h.kn _).trans hk;have hf:=h.f;have hc:fE x.c ⟨az,vals,line⟩=({ x.c with digits:=jj vals },jA vals 1 6):=by
  unfold fE;refine(if_neg iz).trans ?_;refine(if_neg gr).trans ?_;refine(if_neg i9).trans ?_;exact if_pos rfl
 have hs:aW ah x ⟨az,vals,line⟩={ x with c:={ x.c with digits:=jj vals },f:=bA (jA vals 1 6) line,known:=x.known++[az],digits:=line }:=by
  unfold aW;simp only[hf,dw,gV,if_true,fp,abx,if_false,ne_eq,not_true_eq_false];rw[hc];simp only[ci];rw[if_neg gr]
 rw[hs,hr.1];refine⟨rfl,fun h0=>?_⟩;rw[hr.2 h0];exact {
  f:=by show bA (jA vals 1 6) line=_;rw[h0];rfl
  kn:=eL h.kn _ _
  only:=cU h.only ((cV _ _).1 dw) _
  e:=fun h1 h2=>absurd rfl h1
  e':=h.e'
  c:=fun hq=>by
   obtain⟨c1,c2,c3⟩:=h.c hq;refine⟨?_,?_,?_⟩
   ·have c4:=congrArg (fun c:ai=>({ c with digits:=jj vals }:ai)) c1;refine Eq.trans c4 ?_;simp only[da,aC.n,aC.s,cw,aJ _ _ kD,aJ _ _ i6,aJ _ _ kZ,aJ _ _ jx,aJ _ _ gG,aJ _ _ jy,aby]
   ·show line=_;simp only[aC.l,cw,aby]
   ·show x.seats=_;rw[c3];simp only[aC.l,aJ _ _ i6]
  c':=fun q=>absurd rfl q
  s:=fun q=>absurd q cQ }
theorem pk {nm:ByteArray} {b:cL} {v:aC} {x:dd} (h:cT ah nm b v x) (vals:List ByteArray) (line:Int) (hk:(v.ln db).isSome=false) (di:Lib.containsS (aM ah) db=true) : (aW ah x ⟨db,vals,line⟩).f=bA (aZ ah ⟨db,vals,line⟩ v).1 line∧((aZ ah ⟨db,vals,line⟩ v).1=0→cT ah nm b (aZ ah ⟨db,vals,line⟩ v).2 (aW ah x ⟨db,vals,line⟩)):=by
 have hr:=qY (kind:=ah) (f:=⟨db,vals,line⟩) (v:=v) (ws:=iS) di hk (by kernel_rfl) (by kernel_rfl) (by unfold iS;simp);have dw:bH (aM ah) db=true:=di;have gV:bH x.known db=false:=(h.kn _).trans hk;have hf:=h.f;have hc:fE x.c ⟨db,vals,line⟩=({ x.c with ties:=iO vals iS },jC vals iS):=by
  unfold fE;refine(if_neg lZ).trans ?_;refine(if_neg jU).trans ?_;refine(if_neg np).trans ?_;refine(if_neg jx).trans ?_;exact if_pos rfl
 have hs:aW ah x ⟨db,vals,line⟩={ x with c:={ x.c with ties:=iO vals iS },f:=bA (jC vals iS) line,known:=x.known++[db] }:=by
  unfold aW;simp only[hf,dw,gV,if_true,fp,abx,if_false,ne_eq,not_true_eq_false];rw[hc];simp only[ci];rw[if_neg jx,if_neg jU]
 rw[hs,hr.1];refine⟨rfl,fun h0=>?_⟩;rw[hr.2 h0];exact {
  f:=by show bA (jC vals iS) line=_;rw[h0];rfl
  kn:=eL h.kn _ _
  only:=cU h.only ((cV _ _).1 dw) _
  e:=fun h1 h2=>absurd rfl h1
  e':=h.e'
  c:=fun hq=>by
   obtain⟨c1,c2,c3⟩:=h.c hq;refine⟨?_,?_,?_⟩
   ·have c4:=congrArg (fun c:ai=>({ c with ties:=iO vals iS }:ai)) c1;refine Eq.trans c4 ?_;simp only[da,aC.n,aC.s,cw,aJ _ _ tl,aJ _ _ ny,aJ _ _ uI,aJ _ _ mb,aJ _ _ kC,aJ _ _ ol,aby]
   ·show x.digits=_;rw[c2];simp only[aC.l,aJ _ _ mb]
   ·show x.seats=_;rw[c3];simp only[aC.l,aJ _ _ ny]
  c':=fun q=>absurd rfl q
  s:=fun q=>absurd q cQ }
theorem lU {nm:ByteArray} {b:cL} {v:aC} {x:dd} (h:cT ah nm b v x) (vals:List ByteArray) (line:Int) (hk:(v.ln aV).isSome=false) (di:Lib.containsS (aM ah) aV=true) : (aW ah x ⟨aV,vals,line⟩).f=bA (aZ ah ⟨aV,vals,line⟩ v).1 line∧((aZ ah ⟨aV,vals,line⟩ v).1=0→cT ah nm b (aZ ah ⟨aV,vals,line⟩ v).2 (aW ah x ⟨aV,vals,line⟩)):=by
 have hr:=qY (kind:=ah) (f:=⟨aV,vals,line⟩) (v:=v) (ws:=iU) di hk (by kernel_rfl) (by kernel_rfl) (by unfold iU;simp);have dw:bH (aM ah) aV=true:=di;have gV:bH x.known aV=false:=(h.kn _).trans hk;have hf:=h.f;have hc:fE x.c ⟨aV,vals,line⟩=({ x.c with over:=iO vals iU },jC vals iU):=by
  unfold fE;refine(if_neg jL).trans ?_;refine(if_neg gZ).trans ?_;refine(if_neg j2).trans ?_;refine(if_neg gG).trans ?_;refine(if_neg kC).trans ?_;exact if_pos rfl
 have hs:aW ah x ⟨aV,vals,line⟩={ x with c:={ x.c with over:=iO vals iU },f:=bA (jC vals iU) line,known:=x.known++[aV] }:=by
  unfold aW;simp only[hf,dw,gV,if_true,fp,abx,if_false,ne_eq,not_true_eq_false];rw[hc];simp only[ci];rw[if_neg gG,if_neg gZ]
 rw[hs,hr.1];refine⟨rfl,fun h0=>?_⟩;rw[hr.2 h0];exact {
  f:=by show bA (jC vals iU) line=_;rw[h0];rfl
  kn:=eL h.kn _ _
  only:=cU h.only ((cV _ _).1 dw) _
  e:=fun h1 h2=>absurd rfl h1
  e':=h.e'
  c:=fun hq=>by
   obtain⟨c1,c2,c3⟩:=h.c hq;refine⟨?_,?_,?_⟩
   ·have c4:=congrArg (fun c:ai=>({ c with over:=iO vals iU }:ai)) c1;refine Eq.trans c4 ?_;simp only[da,aC.n,aC.s,cw,aJ _ _ om,aJ _ _ j0,aJ _ _ pw,aJ _ _ jM,aJ _ _ qp,aJ _ _ kA,aby]
   ·show x.digits=_;rw[c2];simp only[aC.l,aJ _ _ jM]
   ·show x.seats=_;rw[c3];simp only[aC.l,aJ _ _ j0]
  c':=fun q=>absurd rfl q
  s:=fun q=>absurd q cQ }
theorem pn {nm:ByteArray} {b:cL} {v:aC} {x:dd} (h:cT ah nm b v x) (vals:List ByteArray) (line:Int) (hk:(v.ln dc).isSome=false) (di:Lib.containsS (aM ah) dc=true) : (aW ah x ⟨dc,vals,line⟩).f=bA (aZ ah ⟨dc,vals,line⟩ v).1 line∧((aZ ah ⟨dc,vals,line⟩ v).1=0→cT ah nm b (aZ ah ⟨dc,vals,line⟩ v).2 (aW ah x ⟨dc,vals,line⟩)):=by
 have hr:=qY (kind:=ah) (f:=⟨dc,vals,line⟩) (v:=v) (ws:=iT) di hk (by kernel_rfl) (by kernel_rfl) (by unfold iT;simp);have dw:bH (aM ah) dc=true:=di;have gV:bH x.known dc=false:=(h.kn _).trans hk;have hf:=h.f;have hc:fE x.c ⟨dc,vals,line⟩=({ x.c with skip:=iO vals iT },jC vals iT):=by
  unfold fE;refine(if_neg l9).trans ?_;refine(if_neg jV).trans ?_;refine(if_neg nr).trans ?_;refine(if_neg jy).trans ?_;refine(if_neg ol).trans ?_;refine(if_neg kA).trans ?_;exact if_pos rfl
 have hs:aW ah x ⟨dc,vals,line⟩={ x with c:={ x.c with skip:=iO vals iT },f:=bA (jC vals iT) line,known:=x.known++[dc] }:=by
  unfold aW;simp only[hf,dw,gV,if_true,fp,abx,if_false,ne_eq,not_true_eq_false];rw[hc];simp only[ci];rw[if_neg jy,if_neg jV]
 rw[hs,hr.1];refine⟨rfl,fun h0=>?_⟩;rw[hr.2 h0];exact {
  f:=by show bA (jC vals iT) line=_;rw[h0];rfl
  kn:=eL h.kn _ _
  only:=cU h.only ((cV _ _).1 dw) _
  e:=fun h1 h2=>absurd rfl h1
  e':=h.e'
  c:=fun hq=>by
   obtain⟨c1,c2,c3⟩:=h.c hq;refine⟨?_,?_,?_⟩
   ·have c4:=congrArg (fun c:ai=>({ c with skip:=iO vals iT }:ai)) c1;refine Eq.trans c4 ?_;simp only[da,aC.n,aC.s,cw,aJ _ _ tm,aJ _ _ nz,aJ _ _ uJ,aJ _ _ mf,aJ _ _ wM,aJ _ _ qt,aby]
   ·show x.digits=_;rw[c2];simp only[aC.l,aJ _ _ mf]
   ·show x.seats=_;rw[c3];simp only[aC.l,aJ _ _ nz]
  c':=fun q=>absurd rfl q
  s:=fun q=>absurd q cQ }
theorem oa {nm:ByteArray} {b:cL} {v:aC} {x:dd} (h:cT ah nm b v x) (vals:List ByteArray) (line:Int) (hk:(v.ln cF).isSome=false) (di:Lib.containsS (aM ah) cF=true) : (aW ah x ⟨cF,vals,line⟩).f=bA (aZ ah ⟨cF,vals,line⟩ v).1 line∧((aZ ah ⟨cF,vals,line⟩ v).1=0→cT ah nm b (aZ ah ⟨cF,vals,line⟩ v).2 (aW ah x ⟨cF,vals,line⟩)):=by
 have hr:=qX (kind:=ah) (f:=⟨cF,vals,line⟩) (v:=v) (n:=7) di hk (by kernel_rfl) (by omega);have dw:bH (aM ah) cF=true:=di;have gV:bH x.known cF=false:=(h.kn _).trans hk;have hf:=h.f;have hc:fE x.c ⟨cF,vals,line⟩=({ x.c with cands:=vals },eO vals 7):=by
  unfold fE;refine(if_neg rA).trans ?_;refine(if_neg mg).trans ?_;refine(if_neg tx).trans ?_;refine(if_neg lg).trans ?_;refine(if_neg uP).trans ?_;refine(if_neg px).trans ?_;refine(if_neg uQ).trans ?_;rfl
 have hs:aW ah x ⟨cF,vals,line⟩={ x with c:={ x.c with cands:=vals },f:=bA (eO vals 7) line,known:=x.known++[cF] }:=by
  unfold aW;simp only[hf,dw,gV,if_true,fp,abx,if_false,ne_eq,not_true_eq_false];rw[hc];simp only[ci];rw[if_neg lg,if_neg mg]
 rw[hs,hr.1];refine⟨rfl,fun h0=>?_⟩;rw[hr.2 h0];exact {
  f:=by show bA (eO vals 7) line=_;rw[h0];rfl
  kn:=eL h.kn _ _
  only:=cU h.only ((cV _ _).1 dw) _
  e:=fun h1 h2=>absurd rfl h1
  e':=h.e'
  c:=fun hq=>by
   obtain⟨c1,c2,c3⟩:=h.c hq;refine⟨?_,?_,?_⟩
   ·have c4:=congrArg (fun c:ai=>({ c with cands:=vals }:ai)) c1;refine Eq.trans c4 ?_;simp only[da,aC.n,aC.s,cw,aby]
   ·show x.digits=_;rw[c2];simp only[aC.l,aJ _ _ rz]
   ·show x.seats=_;rw[c3];simp only[aC.l,aJ _ _ tj]
  c':=fun q=>absurd rfl q
  s:=fun q=>absurd q cQ }
theorem mO {nm:ByteArray} {b:cL} {v:aC} {x:dd} (h:cT aD nm b v x) (vals:List ByteArray) (line:Int) (hk:(v.ln af).isSome=false) (di:Lib.containsS (aM aD) af=true) : (aW aD x ⟨af,vals,line⟩).f=bA (aZ aD ⟨af,vals,line⟩ v).1 line∧((aZ aD ⟨af,vals,line⟩ v).1=0→cT aD nm b (aZ aD ⟨af,vals,line⟩ v).2 (aW aD x ⟨af,vals,line⟩)):=by
 have hr:=qX (kind:=aD) (f:=⟨af,vals,line⟩) (v:=v) (n:=12) di hk (by kernel_rfl) (by omega);have dw:bH (aM aD) af=true:=di;have gV:bH x.known af=false:=(h.kn _).trans hk;have hf:=h.f;have hs:aW aD x ⟨af,vals,line⟩={ x with n0:=vals,l0:=line,f:=bA (eO vals 12) line,known:=x.known++[af] }:=by
  unfold aW;simp only[hf,dw,gV,if_true,fp,abx,if_false,ne_eq,not_true_eq_false,ci];rw[if_neg fQ,if_pos ⟨trivial,trivial⟩]
 rw[hs,hr.1];refine⟨rfl,fun h0=>?_⟩;rw[hr.2 h0];exact {
  f:=by show bA (eO vals 12) line=_;rw[h0];rfl
  kn:=eL h.kn _ _
  only:=cU h.only ((cV _ _).1 dw) _
  e:=fun h1 h2=>absurd rfl h2
  e':=h.e'
  c:=fun q=>absurd q fQ
  c':=h.c'
  s:=fun hq=>by
   obtain⟨c1,c2,c3,c4⟩:=h.s hq;refine⟨?_,?_,?_,?_⟩
   ·simp only[aC.s,cw,aby]
   ·show x.n1=_;rw[c2];simp only[aC.s,aJ _ _ fB]
   ·simp only[aC.l,cw,aby]
   ·show x.l1=_;rw[c4];simp only[aC.l,aJ _ _ fB] }
theorem nE {nm:ByteArray} {b:cL} {v:aC} {x:dd} (h:cT aD nm b v x) (vals:List ByteArray) (line:Int) (hk:(v.ln ay).isSome=false) (di:Lib.containsS (aM aD) ay=true) : (aW aD x ⟨ay,vals,line⟩).f=bA (aZ aD ⟨ay,vals,line⟩ v).1 line∧((aZ aD ⟨ay,vals,line⟩ v).1=0→cT aD nm b (aZ aD ⟨ay,vals,line⟩ v).2 (aW aD x ⟨ay,vals,line⟩)):=by
 have hr:=qX (kind:=aD) (f:=⟨ay,vals,line⟩) (v:=v) (n:=4) di hk (by kernel_rfl) (by omega);have dw:bH (aM aD) ay=true:=di;have gV:bH x.known ay=false:=(h.kn _).trans hk;have hf:=h.f;have hs:aW aD x ⟨ay,vals,line⟩={ x with n1:=vals,l1:=line,f:=bA (eO vals 4) line,known:=x.known++[ay] }:=by
  unfold aW;simp only[hf,dw,gV,if_true,fp,abx,if_false,ne_eq,not_true_eq_false,ci];rw[if_neg fQ,if_neg (fun q=>fB q.2)]
 rw[hs,hr.1];refine⟨rfl,fun h0=>?_⟩;rw[hr.2 h0];exact {
  f:=by show bA (eO vals 4) line=_;rw[h0];rfl
  kn:=eL h.kn _ _
  only:=cU h.only ((cV _ _).1 dw) _
  e:=fun h1 h2=>absurd rfl h2
  e':=h.e'
  c:=fun q=>absurd q fQ
  c':=h.c'
  s:=fun hq=>by
   obtain⟨c1,c2,c3,c4⟩:=h.s hq;refine⟨?_,?_,?_,?_⟩
   ·show x.n0=_;rw[c1];simp only[aC.s,aJ _ _ iH]
   ·simp only[aC.s,cw,aby]
   ·show x.l0=_;rw[c3];simp only[aC.l,aJ _ _ iH]
   ·simp only[aC.l,cw,aby] }
theorem qV {nm:ByteArray} {b:cL} {v:aC} {x:dd} (h:cT aO nm b v x) (vals:List ByteArray) (line:Int) (hk:(v.ln bL).isSome=false) (di:Lib.containsS (aM aO) bL=true) : (aW aO x ⟨bL,vals,line⟩).f=bA (aZ aO ⟨bL,vals,line⟩ v).1 line∧((aZ aO ⟨bL,vals,line⟩ v).1=0→cT aO nm b (aZ aO ⟨bL,vals,line⟩ v).2 (aW aO x ⟨bL,vals,line⟩)):=by
 have hr:=KA (kind:=aO) (f:=⟨bL,vals,line⟩) (v:=v) di hk rfl;have dw:bH (aM aO) bL=true:=di;have gV:bH x.known bL=false:=(h.kn _).trans hk;have hf:=h.f;have hc:dp aO x.e ⟨bL,vals,line⟩=({ x.e with risk:=(dW (bj vals).data.toList).2 },jK vals):=by
  unfold dp;refine(if_neg (show¬aK aO bL=aK aP dh from by decide)).trans ?_;refine(if_neg (show¬aK aO bL=aK aP bq from by decide)).trans ?_;refine(if_neg (show¬aK aO bL=aK aP bb from by decide)).trans ?_;refine(if_neg (show¬aK aO bL=aK au bZ from by decide)).trans ?_;refine(if_neg (show¬aK aO bL=aK au cf from by decide)).trans ?_;refine(if_neg (show¬aK aO bL=aK af bY from by decide)).trans ?_;exact if_pos rfl
 have hs:aW aO x ⟨bL,vals,line⟩={ x with e:={ x.e with risk:=(dW (bj vals).data.toList).2 },f:=bA (jK vals) line,known:=x.known++[bL] }:=by
  unfold aW;simp only[hf,dw,gV,if_true,fp,abx,if_false,ne_eq,not_true_eq_false];rw[if_neg bN,if_neg (fun q=>bJ q.1),if_neg bJ,hc];simp only[ci]
 rw[hs,hr.1];refine⟨rfl,fun h0=>?_⟩;rw[hr.2 h0];exact {
  f:=by show bA (jK vals) line=_;rw[h0];rfl
  kn:=eL h.kn _ _
  only:=cU h.only ((cV _ _).1 dw) _
  e:=fun h1 h2=>by
   show({ x.e with risk:=(dW (bj vals).data.toList).2 }:aa)=_;rw[h.e h1 h2];unfold bG;rw[if_neg ik,if_neg fv,if_neg fk,if_neg bN,if_neg bJ,if_pos rfl,if_neg ik,if_neg fv,if_neg fk,if_neg bN,if_neg bJ,if_pos rfl]
  e':=fun q=>absurd q (by rintro(q|q);exact bN q;exact bJ q)
  c:=fun q=>absurd q bN
  c':=h.c'
  s:=fun q=>absurd q bJ }
theorem qU {nm:ByteArray} {b:cL} {v:aC} {x:dd} (h:cT aO nm b v x) (vals:List ByteArray) (line:Int) (hk:(v.ln cM).isSome=false) (di:Lib.containsS (aM aO) cM=true) : (aW aO x ⟨cM,vals,line⟩).f=bA (aZ aO ⟨cM,vals,line⟩ v).1 line∧((aZ aO ⟨cM,vals,line⟩ v).1=0→cT aO nm b (aZ aO ⟨cM,vals,line⟩ v).2 (aW aO x ⟨cM,vals,line⟩)):=by
 have hr:=Kz (kind:=aO) (f:=⟨cM,vals,line⟩) (v:=v) di hk rfl;have dw:bH (aM aO) cM=true:=di;have gV:bH x.known cM=false:=(h.kn _).trans hk;have hf:=h.f;have hc:dp aO x.e ⟨cM,vals,line⟩=({ x.e with seed:=bj vals },kU vals):=by
  unfold dp;refine(if_neg (show¬aK aO cM=aK aP dh from by decide)).trans ?_;refine(if_neg (show¬aK aO cM=aK aP bq from by decide)).trans ?_;refine(if_neg (show¬aK aO cM=aK aP bb from by decide)).trans ?_;refine(if_neg (show¬aK aO cM=aK au bZ from by decide)).trans ?_;refine(if_neg (show¬aK aO cM=aK au cf from by decide)).trans ?_;refine(if_neg (show¬aK aO cM=aK af bY from by decide)).trans ?_;refine(if_neg (show¬aK aO cM=aK aO bL from by decide)).trans ?_;exact if_pos rfl
 have hs:aW aO x ⟨cM,vals,line⟩={ x with e:={ x.e with seed:=bj vals },f:=bA (kU vals) line,known:=x.known++[cM] }:=by
  unfold aW;simp only[hf,dw,gV,if_true,fp,abx,if_false,ne_eq,not_true_eq_false];rw[if_neg bN,if_neg (fun q=>bJ q.1),if_neg bJ,hc];simp only[ci]
 rw[hs,hr.1];refine⟨rfl,fun h0=>?_⟩;rw[hr.2 h0];exact {
  f:=by show bA (kU vals) line=_;rw[h0];rfl
  kn:=eL h.kn _ _
  only:=cU h.only ((cV _ _).1 dw) _
  e:=fun h1 h2=>by
   show({ x.e with seed:=bj vals }:aa)=_;rw[h.e h1 h2];unfold bG;rw[if_neg ik,if_neg fv,if_neg fk,if_neg bN,if_neg bJ,if_pos rfl,if_neg ik,if_neg fv,if_neg fk,if_neg bN,if_neg bJ,if_pos rfl]
  e':=fun q=>absurd q (by rintro(q|q);exact bN q;exact bJ q)
  c:=fun q=>absurd q bN
  c':=h.c'
  s:=fun q=>absurd q bJ }
theorem pg {nm:ByteArray} {b:cL} {v:aC} {x:dd} (h:cT aY nm b v x) (vals:List ByteArray) (line:Int) (hk:(v.ln dH).isSome=false) (di:Lib.containsS (aM aY) dH=true) : (aW aY x ⟨dH,vals,line⟩).f=bA (aZ aY ⟨dH,vals,line⟩ v).1 line∧((aZ aY ⟨dH,vals,line⟩ v).1=0→cT aY nm b (aZ aY ⟨dH,vals,line⟩ v).2 (aW aY x ⟨dH,vals,line⟩)):=by
 have hr:=iY (kind:=aY) (f:=⟨dH,vals,line⟩) (v:=v) (lo:=1) (hi:=400) di hk (by kernel_rfl) (by kernel_rfl) wR wQ (by kernel_rfl);have dw:bH (aM aY) dH=true:=di;have gV:bH x.known dH=false:=(h.kn _).trans hk;have hf:=h.f;have hc:dp aY x.e ⟨dH,vals,line⟩=({ x.e with cell:=jj vals },jA vals 1 400):=by
  unfold dp;refine(if_neg (show¬aK aY dH=aK aP dh from by decide)).trans ?_;refine(if_neg (show¬aK aY dH=aK aP bq from by decide)).trans ?_;refine(if_neg (show¬aK aY dH=aK aP bb from by decide)).trans ?_;refine(if_neg (show¬aK aY dH=aK au bZ from by decide)).trans ?_;refine(if_neg (show¬aK aY dH=aK au cf from by decide)).trans ?_;refine(if_neg (show¬aK aY dH=aK af bY from by decide)).trans ?_;refine(if_neg (show¬aK aY dH=aK aO bL from by decide)).trans ?_;refine(if_neg (show¬aK aY dH=aK aO cM from by decide)).trans ?_;exact if_pos rfl
 have hs:aW aY x ⟨dH,vals,line⟩={ x with e:={ x.e with cell:=jj vals },f:=bA (jA vals 1 400) line,known:=x.known++[dH] }:=by
  unfold aW;simp only[hf,dw,gV,if_true,fp,abx,if_false,ne_eq,not_true_eq_false];rw[if_neg dY,if_neg (fun q=>dR q.1),if_neg dR,hc];simp only[ci]
 rw[hs,hr.1];refine⟨rfl,fun h0=>?_⟩;rw[hr.2 h0];exact {
  f:=by show bA (jA vals 1 400) line=_;rw[h0];rfl
  kn:=eL h.kn _ _
  only:=cU h.only ((cV _ _).1 dw) _
  e:=fun h1 h2=>by
   show({ x.e with cell:=jj vals }:aa)=_;rw[h.e h1 h2];unfold bG;rw[if_neg k7,if_neg jr,if_neg i7,if_neg dY,if_neg dR,if_neg kB,if_pos rfl,if_neg k7,if_neg jr,if_neg i7,if_neg dY,if_neg dR,if_neg kB,if_pos rfl];simp only[aC.n,cw,aby]
  e':=fun q=>absurd q (by rintro(q|q);exact dY q;exact dR q)
  c:=fun q=>absurd q dY
  c':=h.c'
  s:=fun q=>absurd q dR }
theorem SY {kind nm:ByteArray} {b:cL} {v:aC} {x:dd} (h:cT kind nm b v x) (f:ao) : (aW kind x f).f=bA (aZ kind f v).1 f.line∧((aZ kind f v).1=0→cT kind nm b (aZ kind f v).2 (aW kind x f)):=by
 have hf:=h.f;by_cases di:Lib.containsS (aM kind) f.key=true
 ·by_cases hk:(v.ln f.key).isSome=true
  ·have hr:aZ kind f v=(3,v):=by
    unfold aZ;rw[if_neg (by rw[di];simp),if_pos hk]
   have dw:bH (aM kind) f.key=true:=di;have gV:bH x.known f.key=true:=(h.kn _).trans hk;rw[hr];refine⟨?_,fun h0=>by cases h0⟩;unfold aW;simp only[hf,dw,gV,if_true,fp,ci];rw[if_pos (by rw[sd];omega)]
  ·have hk:(v.ln f.key).isSome=false:=by simpa using hk
   have hm:f.key∈aM kind:=(cV _ _).1 di;have hc:=mW hm;obtain⟨key,vals,line⟩:=f;simp only at hc di hk;rcases hc with⟨rfl,(rfl|rfl|rfl)⟩|⟨rfl,(rfl|rfl)⟩|⟨rfl,rfl⟩|⟨rfl,(rfl|rfl|rfl|rfl|rfl|rfl|rfl|rfl)⟩|⟨rfl,(rfl|rfl)⟩|⟨rfl,(rfl|rfl)⟩|⟨rfl,rfl⟩
   ·exact ta h vals line hk di
   ·exact qT h vals line hk di
   ·exact qf h vals line hk di
   ·exact nF h vals line hk di
   ·exact nG h vals line hk di
   ·exact mP h vals line hk di
   ·exact nH h vals line hk di
   ·exact nY h vals line hk di
   ·exact nZ h vals line hk di
   ·exact nI h vals line hk di
   ·exact pk h vals line hk di
   ·exact lU h vals line hk di
   ·exact pn h vals line hk di
   ·exact oa h vals line hk di
   ·exact mO h vals line hk di
   ·exact nE h vals line hk di
   ·exact qV h vals line hk di
   ·exact qU h vals line hk di
   ·exact pg h vals line hk di
 ·have di:Lib.containsS (aM kind) f.key=false:=by simpa using di
  have hr:aZ kind f v=(2,v):=by
   unfold aZ;rw[if_pos di]
  have dw:bH (aM kind) f.key=false:=di;rw[hr];refine⟨?_,fun h0=>by cases h0⟩;unfold aW;simp only[hf,dw,abx,if_false,ci];have h2:(bA 2 f.line).no≠0:=by rw[sd];omega
  rw[tg h2,if_pos h2]
theorem CJ {kind nm:ByteArray} {b:cL}:∀(fs:List ao) {v:aC} {x:dd},cT kind nm b v x→ (dQ kind fs x).f=(fo kind fs v).1∧((fo kind fs v).1.no=0→cT kind nm b (fo kind fs v).2 (dQ kind fs x))
 | [],v,x,h=>⟨h.f,fun _=>h⟩
 | f::l,v,x,h=>by
  have hs:=SY h f;unfold dQ fo;rw[if_neg (by rw[h.f];simp)];by_cases h0:(aZ kind f v).1=0
  ·rw[if_neg (by rw[h0];simp)];exact CJ l (hs.2 h0)
  ·rw[if_pos h0];have hf:(aW kind x f).f=⟨(aZ kind f v).1,f.line⟩:=by
    rw[hs.1];unfold bA;rw[if_neg h0]
   have fa:dQ kind l (aW kind x f)=aW kind x f:=by
    cases l with
    | nil=>rfl
    | cons g l=>unfold dQ;rw[if_pos (by rw[hf];exact h0)]
   rw[fa];exact⟨hf,fun h1=>absurd h1 h0⟩
end Go.Proofs.YtjlhbfbdcfajfaaGreatDoor
