/- Law2 -/
import Derived.Test.YtjlhbfbdcfajfaaGreatDoorV00
import Derived.Test.YtjlhbfbdcfajfaaGreatDoorV35
set_option maxHeartbeats 8000000
set_option maxRecDepth 100000
namespace Go.Proofs.YtjlhbfbdcfajfaaGreatDoor
open Go.RowKit
def bz (no line:Int):eB:=if no=0 then⟨0,0⟩ else⟨no,line⟩
theorem bY (no line:Int):(⟨0,0⟩:eB).note no line=bz no line:=by
 unfold eB.note bz;by_cases h:no=0
 ·rw[if_neg (fun k=>k.2 h),if_pos h]
 ·rw[if_pos ⟨rfl,h⟩,if_neg h]
theorem qW (line:Int):bz 0 line=⟨0,0⟩:=rfl
theorem qX {no line:Int}:(bz no line).no=no:=by
 unfold bz;split
 ·rename_i h;exact h.symm
 ·rfl
theorem rU {f:eB} {no line:Int} (h:f.no≠0):f.note no line=f:=by
 unfold eB.note;rw[if_neg (fun k=>h k.1)]
theorem eZ (f:eB) (line:Int):f.note 0 line=f:=by
 unfold eB.note;rw[if_neg (fun k=>k.2 rfl)]
theorem iL {kind:ByteArray} {f:ao} {v:aC} {lo hi:Int} (da:Lib.containsS (aJ kind) f.key=true) (hk:(v.ln f.key).isSome=false) (h1:dd f.key=0) (h2:bb f.key=[]) (h3:f.key≠bJ) (h4:f.key≠cH) (h5:fj f.key=(lo,hi)) : (aY kind f v).1=jo f.vals lo hi∧(jo f.vals lo hi=0→(aY kind f v).2={ v with ln:=setF v.ln f.key f.line,num:=setF v.num f.key (i6 f.vals) }):=by
 unfold aY jo;rw[if_neg (by rw[da];simp),if_neg (by rw[hk];simp),if_neg (by rw[h1];simp)];by_cases hl:f.vals.length≠1
 ·rw[if_pos hl,if_pos hl];exact⟨rfl,fun h=>by cases h⟩
 ·rw[if_neg hl,if_neg hl];have hv:bi f.vals=f.vals.getD 0 ⟨#[]⟩:=by unfold bi;rw[if_neg hl]
  unfold xy i6;rw[hv,if_neg (by rw[h2];simp),if_neg h3,if_neg h4,h5,vn];by_cases hn:(cm (f.vals.getD 0 ⟨#[]⟩).data.toList).2=false
  ·rw[if_pos hn,if_pos hn];exact⟨rfl,fun h=>by cases h⟩
  ·rw[if_neg hn,if_neg hn,vk (by simpa using hn)];simp only;split
   ·exact⟨rfl,fun h=>by cases h⟩
   ·exact⟨rfl,fun _=>rfl⟩
theorem qw {kind:ByteArray} {f:ao} {v:aC} {ws:List ByteArray} (da:Lib.containsS (aJ kind) f.key=true) (hk:(v.ln f.key).isSome=false) (h1:dd f.key=0) (h2:bb f.key=ws) (h3:ws≠[]) : (aY kind f v).1=jp f.vals ws∧(jp f.vals ws=0→(aY kind f v).2={ v with ln:=setF v.ln f.key f.line,num:=setF v.num f.key (iD f.vals ws) }):=by
 unfold aY jp;rw[if_neg (by rw[da];simp),if_neg (by rw[hk];simp),if_neg (by rw[h1];simp)];by_cases hl:f.vals.length≠1
 ·rw[if_pos hl,if_pos hl];exact⟨rfl,fun h=>by cases h⟩
 ·rw[if_neg hl,if_neg hl];have hv:bi f.vals=f.vals.getD 0 ⟨#[]⟩:=by unfold bi;rw[if_neg hl]
  unfold xy iD;rw[hv,if_pos (by rw[h2];exact h3),h2];have hm:-1≤Lib.idxOfS ws (f.vals.getD 0 ⟨#[]⟩):=by
   unfold Lib.idxOfS;exact(iU (f.vals.getD 0 ⟨#[]⟩) ws 0).1
  simp only;by_cases hn:Lib.idxOfS ws (f.vals.getD 0 ⟨#[]⟩)<0
  ·rw[if_pos hn,if_pos (by omega)];exact⟨rfl,fun h=>by cases h⟩
  ·rw[if_neg hn,if_neg (by omega)];refine⟨?_,fun _=>?_⟩<;>first|rfl|trivial
theorem qu {kind:ByteArray} {f:ao} {v:aC} {n:Int} (da:Lib.containsS (aJ kind) f.key=true) (hk:(v.ln f.key).isSome=false) (h1:dd f.key=n) (hn:0<n) : (aY kind f v).1=eD f.vals n∧(eD f.vals n=0→(aY kind f v).2={ v with ln:=setF v.ln f.key f.line,lst:=setF v.lst f.key f.vals }):=by
 unfold aY;rw[if_neg (by rw[da];simp),if_neg (by rw[hk];simp),if_pos (by rw[h1];exact hn),h1];exact⟨rfl,fun _=>rfl⟩
theorem Jn {kind:ByteArray} {f:ao} {v:aC} (da:Lib.containsS (aJ kind) f.key=true) (hk:(v.ln f.key).isSome=false) (h:f.key=bJ) : (aY kind f v).1=jy f.vals∧(jy f.vals=0→(aY kind f v).2={ v with ln:=setF v.ln f.key f.line,risk:=(dP (bi f.vals).data.toList).2 }):=by
 have h1:dd f.key=0:=by rw[h];kernel_rfl
 have h2:bb f.key=[]:=by rw[h];kernel_rfl
 unfold aY jy;rw[if_neg (by rw[da];simp),if_neg (by rw[hk];simp),if_neg (by rw[h1];simp)];by_cases hl:f.vals.length≠1
 ·rw[if_pos hl,if_pos hl];exact⟨rfl,fun h=>by cases h⟩
 ·rw[if_neg hl,if_neg hl];have hv:bi f.vals=f.vals.getD 0 ⟨#[]⟩:=by unfold bi;rw[if_neg hl]
  unfold xy;rw[hv,if_neg (by rw[h2];simp),if_pos h];have hr:=BD (f.vals.getD 0 ⟨#[]⟩).data.toList;refine⟨hr.1.symm,fun h0=>?_⟩;rw[hr.2 (hr.1.symm.trans h0)];rfl
theorem Jm {kind:ByteArray} {f:ao} {v:aC} (da:Lib.containsS (aJ kind) f.key=true) (hk:(v.ln f.key).isSome=false) (h:f.key=cH) : (aY kind f v).1=kI f.vals∧(kI f.vals=0→(aY kind f v).2={ v with ln:=setF v.ln f.key f.line,seed:=bi f.vals }):=by
 have h1:dd f.key=0:=by rw[h];kernel_rfl
 have h2:bb f.key=[]:=by rw[h];kernel_rfl
 unfold aY kI;rw[if_neg (by rw[da];simp),if_neg (by rw[hk];simp),if_neg (by rw[h1];simp)];by_cases hl:f.vals.length≠1
 ·rw[if_pos hl,if_pos hl];exact⟨rfl,fun h=>by cases h⟩
 ·rw[if_neg hl,if_neg hl];have hv:bi f.vals=f.vals.getD 0 ⟨#[]⟩:=by unfold bi;rw[if_neg hl]
  unfold xy;rw[hv,if_neg (by rw[h2];simp),if_neg (by rw[h];decide),if_pos h];have hp:=EG (f.vals.getD 0 ⟨#[]⟩);by_cases hq:dE (f.vals.getD 0 ⟨#[]⟩) 0 24=true
  ·rw[if_pos hq,if_neg (hp.1 hq)];exact⟨rfl,fun _=>rfl⟩
  ·rw[if_neg hq,if_pos (acp.1 fun h'=>hq (hp.2 h'))];exact⟨rfl,fun h=>by cases h⟩
structure cN (kind nm:ByteArray) (b:cG) (v:aC) (x:cX):Prop where
 f:x.f=⟨0,0⟩
 kn:∀k,bF x.known k=(v.ln k).isSome
 only:∀k,(v.ln k).isSome=true→k∈aJ kind
 e:kind≠af→kind≠aD→x.e=(bE kind nm v b).e
 e':(kind=af∨kind=aD)→x.e=b.e
 c:kind=af→({ x.c with name:=nm }:ah)=cU nm v∧x.digits=v.l az∧x.seats=v.l bc
 c':kind≠af→x.c=ah.zero
 s:kind=aD→x.n0=v.s ae∧x.n1=v.s ay∧x.l0=v.l ae∧x.l1=v.l ay
theorem yH (l:List ByteArray) (a k:ByteArray):bF (l++[a]) k=(bF l k||decide (k=a)):=by
 rw[ac3,acP,cP,cP,decide_eq_true_eq];simp
theorem eA {l:List ByteArray} {ln:ByteArray→Option Int} (h:∀k,bF l k=(ln k).isSome) (a:ByteArray) (line:Int):∀k,bF (l++[a]) k=(setF ln a line k).isSome:=by
 intro k;rw[yH,h];unfold setF;by_cases e:k=a
 ·rw[if_pos e,decide_eq_true e];simp
 ·rw[if_neg e,decide_eq_false e];simp
theorem cO {kind:ByteArray} {ln:ByteArray→Option Int} (h:∀k,(ln k).isSome=true→k∈aJ kind) {a:ByteArray} (ha:a∈aJ kind) (line:Int):∀k,(setF ln a line k).isSome=true→k∈aJ kind:=by
 intro k hk;unfold setF at hk;split at hk
 ·rename_i e;rw[e];exact ha
 ·exact h k hk
theorem ck {α:Type} (f:ByteArray→Option α) (k:ByteArray) (x:α):setF f k x k=some x:=if_pos rfl
theorem aG {α:Type} (f:ByteArray→Option α) {k t:ByteArray} (x:α) (h:t≠k):setF f k x t=f t:=if_neg h
theorem bL:aO≠af:=by decide
theorem eT:aO≠ae:=by decide
theorem gY:aO≠aP:=by decide
theorem fh:aO≠au:=by decide
theorem bH:aO≠aD:=by decide
theorem sp:bW≠bV:=by decide
theorem ud:bW≠bJ:=by decide
theorem uc:bW≠cH:=by decide
theorem ub:bp≠cZ:=by decide
theorem qF:bp≠aZ:=by decide
theorem ua:bp≠bJ:=by decide
theorem tZ:bp≠cH:=by decide
theorem kP:cz≠az:=by decide
theorem qE:cz≠aM:=by decide
theorem oU:cz≠aU:=by decide
theorem so:cz≠bP:=by decide
theorem lL:cz≠bc:=by decide
theorem tY:cz≠cW:=by decide
theorem tX:cz≠cV:=by decide
theorem vF:dB≠bJ:=by decide
theorem vE:dB≠cH:=by decide
theorem cL:af≠aD:=by decide
theorem fm:ay≠ae:=by decide
theorem sn:bV≠bW:=by decide
theorem tW:bV≠bJ:=by decide
theorem tV:bV≠cH:=by decide
theorem qD:az≠cz:=by decide
theorem ib:az≠aM:=by decide
theorem jA:az≠aU:=by decide
theorem iP:az≠bP:=by decide
theorem sk:az≠bJ:=by decide
theorem gf:az≠bc:=by decide
theorem sj:az≠cH:=by decide
theorem lK:az≠cW:=by decide
theorem lJ:az≠cV:=by decide
theorem tU:cZ≠bp:=by decide
theorem si:cZ≠aZ:=by decide
theorem vB:cZ≠bJ:=by decide
theorem vA:cZ≠cH:=by decide
theorem qC:aZ≠bp:=by decide
theorem sg:aZ≠cZ:=by decide
theorem sf:aZ≠bJ:=by decide
theorem sd:aZ≠cH:=by decide
theorem km:aM≠az:=by decide
theorem nR:aM≠aU:=by decide
theorem qB:aM≠bP:=by decide
theorem kO:aM≠bc:=by decide
theorem sa:aM≠cW:=by decide
theorem rY:aM≠cV:=by decide
theorem gx:aU≠az:=by decide
theorem jz:aU≠aM:=by decide
theorem jP:aU≠bP:=by decide
theorem gP:aU≠bc:=by decide
theorem pE:aU≠cW:=by decide
theorem kj:aU≠cV:=by decide
theorem fH:ae≠af:=by decide
theorem iu:ae≠ay:=by decide
theorem jO:ae≠aP:=by decide
theorem im:ae≠au:=by decide
theorem eS:ae≠aD:=by decide
theorem ki:aW≠aO:=by decide
theorem dR:aW≠af:=by decide
theorem iO:aW≠ae:=by decide
theorem kN:aW≠aP:=by decide
theorem jd:aW≠au:=by decide
theorem dK:aW≠aD:=by decide
theorem kM:bP≠az:=by decide
theorem kL:bP≠aM:=by decide
theorem oT:bP≠aU:=by decide
theorem tT:bP≠bJ:=by decide
theorem jm:bP≠bc:=by decide
theorem tS:bP≠cH:=by decide
theorem tR:bP≠cW:=by decide
theorem tQ:bP≠cV:=by decide
theorem cE:aP≠af:=by decide
theorem bR:aP≠aD:=by decide
theorem cT:au≠af:=by decide
theorem fG:au≠aP:=by decide
theorem cw:au≠aD:=by decide
theorem rX:bc≠cz:=by decide
theorem iN:bc≠az:=by decide
theorem iM:bc≠aM:=by decide
theorem jN:bc≠aU:=by decide
theorem lI:bc≠bP:=by decide
theorem tP:bc≠bJ:=by decide
theorem tO:bc≠cH:=by decide
theorem mW:bc≠cW:=by decide
theorem mV:bc≠cV:=by decide
theorem jl:cW≠az:=by decide
theorem lH:cW≠aM:=by decide
theorem kh:cW≠aU:=by decide
theorem mU:cW≠bP:=by decide
theorem jH:cW≠bc:=by decide
theorem nQ:cW≠cV:=by decide
theorem fF:aD≠af:=by decide
theorem jk:cV≠az:=by decide
theorem lG:cV≠aM:=by decide
theorem pD:cV≠aU:=by decide
theorem mT:cV≠bP:=by decide
theorem jG:cV≠bc:=by decide
theorem vz:cV≠cW:=by decide
theorem mE {kind key:ByteArray} (h:key∈aJ kind):(kind=aP∧(key=cZ∨key=bp∨key=aZ))∨(kind=au∧(key=bV∨key=bW))∨(kind=ae∧(key=bU))∨(kind=af∧(key=aM∨key=bc∨key=bP∨key=az∨key=cV∨key=aU∨key=cW∨key=cz))∨(kind=aD∧(key=ae∨key=ay))∨(kind=aO∧(key=bJ∨key=cH))∨(kind=aW∧(key=dB)):=by
 unfold aJ at h;split at h
 ·rename_i e;have h2:key∈[cZ,bp,aZ]:=h;exact .inl (⟨e,by simpa using h2⟩)
 split at h
 ·rename_i e;have h2:key∈[bV,bW]:=h;exact .inr (.inl (⟨e,by simpa using h2⟩))
 split at h
 ·rename_i e;have h2:key∈[bU]:=h;exact .inr (.inr (.inl (⟨e,by simpa using h2⟩)))
 split at h
 ·rename_i e;have h2:key∈[aM,bc,bP,az,cV,aU,cW,cz]:=h;exact .inr (.inr (.inr (.inl (⟨e,by simpa using h2⟩))))
 split at h
 ·rename_i e;have h2:key∈[ae,ay]:=h;exact .inr (.inr (.inr (.inr (.inl (⟨e,by simpa using h2⟩)))))
 split at h
 ·rename_i e;have h2:key∈[bJ,cH]:=h;exact .inr (.inr (.inr (.inr (.inr (.inl (⟨e,by simpa using h2⟩))))))
 split at h
 ·rename_i e;have h2:key∈[dB]:=h;exact .inr (.inr (.inr (.inr (.inr (.inr (⟨e,by simpa using h2⟩))))))
 ·cases h
theorem Cp:aJ aO=[bJ,cH]:=by kernel_rfl
theorem rP {nm:ByteArray} {b:cG} {v:aC} {x:cX} (h:cN aP nm b v x) (vals:List ByteArray) (line:Int) (hk:(v.ln cZ).isSome=false) (da:Lib.containsS (aJ aP) cZ=true) : (aV aP x ⟨cZ,vals,line⟩).f=bz (aY aP ⟨cZ,vals,line⟩ v).1 line∧((aY aP ⟨cZ,vals,line⟩ v).1=0→cN aP nm b (aY aP ⟨cZ,vals,line⟩ v).2 (aV aP x ⟨cZ,vals,line⟩)):=by
 have hr:=iL (kind:=aP) (f:=⟨cZ,vals,line⟩) (v:=v) (lo:=2) (hi:=7) da hk (by kernel_rfl) (by kernel_rfl) vB vA (by kernel_rfl);have dj:bF (aJ aP) cZ=true:=da;have gM:bF x.known cZ=false:=(h.kn _).trans hk;have hf:=h.f;have hc:df aP x.e ⟨cZ,vals,line⟩=({ x.e with dots:=i6 vals },jo vals 2 7):=by
  unfold df;exact if_pos rfl
 have hs:aV aP x ⟨cZ,vals,line⟩={ x with e:={ x.e with dots:=i6 vals },f:=bz (jo vals 2 7) line,known:=x.known++[cZ] }:=by
  unfold aV;simp only[hf,dj,gM,if_true,eZ,abC,if_false,ne_eq,not_true_eq_false];rw[if_neg cE,if_neg (fun q=>bR q.1),if_neg bR,hc];simp only[bY]
 rw[hs,hr.1];refine⟨rfl,fun h0=>?_⟩;rw[hr.2 h0];exact {
  f:=by show bz (jo vals 2 7) line=_;rw[h0];rfl
  kn:=eA h.kn _ _
  only:=cO h.only ((cP _ _).1 dj) _
  e:=fun h1 h2=>by
   show({ x.e with dots:=i6 vals }:aa)=_;rw[h.e h1 h2];unfold bE;rw[if_pos rfl,if_pos rfl];simp only[aC.n,ck,aG _ _ ub,aG _ _ sg,abF]
  e':=fun q=>absurd q (by rintro(q|q);exact cE q;exact bR q)
  c:=fun q=>absurd q cE
  c':=h.c'
  s:=fun q=>absurd q bR }
theorem qm {nm:ByteArray} {b:cG} {v:aC} {x:cX} (h:cN aP nm b v x) (vals:List ByteArray) (line:Int) (hk:(v.ln bp).isSome=false) (da:Lib.containsS (aJ aP) bp=true) : (aV aP x ⟨bp,vals,line⟩).f=bz (aY aP ⟨bp,vals,line⟩ v).1 line∧((aY aP ⟨bp,vals,line⟩ v).1=0→cN aP nm b (aY aP ⟨bp,vals,line⟩ v).2 (aV aP x ⟨bp,vals,line⟩)):=by
 have hr:=iL (kind:=aP) (f:=⟨bp,vals,line⟩) (v:=v) (lo:=1) (hi:=100) da hk (by kernel_rfl) (by kernel_rfl) ua tZ (by kernel_rfl);have dj:bF (aJ aP) bp=true:=da;have gM:bF x.known bp=false:=(h.kn _).trans hk;have hf:=h.f;have hc:df aP x.e ⟨bp,vals,line⟩=({ x.e with blank:=i6 vals },jo vals 1 100):=by
  unfold df;refine(if_neg (show¬aH aP bp=aH aP cZ from by decide)).trans ?_;exact if_pos rfl
 have hs:aV aP x ⟨bp,vals,line⟩={ x with e:={ x.e with blank:=i6 vals },f:=bz (jo vals 1 100) line,known:=x.known++[bp] }:=by
  unfold aV;simp only[hf,dj,gM,if_true,eZ,abC,if_false,ne_eq,not_true_eq_false];rw[if_neg cE,if_neg (fun q=>bR q.1),if_neg bR,hc];simp only[bY]
 rw[hs,hr.1];refine⟨rfl,fun h0=>?_⟩;rw[hr.2 h0];exact {
  f:=by show bz (jo vals 1 100) line=_;rw[h0];rfl
  kn:=eA h.kn _ _
  only:=cO h.only ((cP _ _).1 dj) _
  e:=fun h1 h2=>by
   show({ x.e with blank:=i6 vals }:aa)=_;rw[h.e h1 h2];unfold bE;rw[if_pos rfl,if_pos rfl];simp only[aC.n,ck,aG _ _ tU,aG _ _ qC,abF]
  e':=fun q=>absurd q (by rintro(q|q);exact cE q;exact bR q)
  c:=fun q=>absurd q cE
  c':=h.c'
  s:=fun q=>absurd q bR }
theorem pw {nm:ByteArray} {b:cG} {v:aC} {x:cX} (h:cN aP nm b v x) (vals:List ByteArray) (line:Int) (hk:(v.ln aZ).isSome=false) (da:Lib.containsS (aJ aP) aZ=true) : (aV aP x ⟨aZ,vals,line⟩).f=bz (aY aP ⟨aZ,vals,line⟩ v).1 line∧((aY aP ⟨aZ,vals,line⟩ v).1=0→cN aP nm b (aY aP ⟨aZ,vals,line⟩ v).2 (aV aP x ⟨aZ,vals,line⟩)):=by
 have hr:=iL (kind:=aP) (f:=⟨aZ,vals,line⟩) (v:=v) (lo:=1) (hi:=100) da hk (by kernel_rfl) (by kernel_rfl) sf sd (by kernel_rfl);have dj:bF (aJ aP) aZ=true:=da;have gM:bF x.known aZ=false:=(h.kn _).trans hk;have hf:=h.f;have hc:df aP x.e ⟨aZ,vals,line⟩=({ x.e with marked:=i6 vals },jo vals 1 100):=by
  unfold df;refine(if_neg (show¬aH aP aZ=aH aP cZ from by decide)).trans ?_;refine(if_neg (show¬aH aP aZ=aH aP bp from by decide)).trans ?_;exact if_pos rfl
 have hs:aV aP x ⟨aZ,vals,line⟩={ x with e:={ x.e with marked:=i6 vals },f:=bz (jo vals 1 100) line,known:=x.known++[aZ] }:=by
  unfold aV;simp only[hf,dj,gM,if_true,eZ,abC,if_false,ne_eq,not_true_eq_false];rw[if_neg cE,if_neg (fun q=>bR q.1),if_neg bR,hc];simp only[bY]
 rw[hs,hr.1];refine⟨rfl,fun h0=>?_⟩;rw[hr.2 h0];exact {
  f:=by show bz (jo vals 1 100) line=_;rw[h0];rfl
  kn:=eA h.kn _ _
  only:=cO h.only ((cP _ _).1 dj) _
  e:=fun h1 h2=>by
   show({ x.e with marked:=i6 vals }:aa)=_;rw[h.e h1 h2];unfold bE;rw[if_pos rfl,if_pos rfl];simp only[aC.n,ck,aG _ _ si,aG _ _ qF,abF]
  e':=fun q=>absurd q (by rintro(q|q);exact cE q;exact bR q)
  c:=fun q=>absurd q cE
  c':=h.c'
  s:=fun q=>absurd q bR }
theorem m5 {nm:ByteArray} {b:cG} {v:aC} {x:cX} (h:cN au nm b v x) (vals:List ByteArray) (line:Int) (hk:(v.ln bV).isSome=false) (da:Lib.containsS (aJ au) bV=true) : (aV au x ⟨bV,vals,line⟩).f=bz (aY au ⟨bV,vals,line⟩ v).1 line∧((aY au ⟨bV,vals,line⟩ v).1=0→cN au nm b (aY au ⟨bV,vals,line⟩ v).2 (aV au x ⟨bV,vals,line⟩)):=by
 have hr:=iL (kind:=au) (f:=⟨bV,vals,line⟩) (v:=v) (lo:=1) (hi:=6) da hk (by kernel_rfl) (by kernel_rfl) tW tV (by kernel_rfl);have dj:bF (aJ au) bV=true:=da;have gM:bF x.known bV=false:=(h.kn _).trans hk;have hf:=h.f;have hc:df au x.e ⟨bV,vals,line⟩=({ x.e with scan:=i6 vals },jo vals 1 6):=by
  unfold df;refine(if_neg (show¬aH au bV=aH aP cZ from by decide)).trans ?_;refine(if_neg (show¬aH au bV=aH aP bp from by decide)).trans ?_;refine(if_neg (show¬aH au bV=aH aP aZ from by decide)).trans ?_;exact if_pos rfl
 have hs:aV au x ⟨bV,vals,line⟩={ x with e:={ x.e with scan:=i6 vals },f:=bz (jo vals 1 6) line,known:=x.known++[bV] }:=by
  unfold aV;simp only[hf,dj,gM,if_true,eZ,abC,if_false,ne_eq,not_true_eq_false];rw[if_neg cT,if_neg (fun q=>cw q.1),if_neg cw,hc];simp only[bY]
 rw[hs,hr.1];refine⟨rfl,fun h0=>?_⟩;rw[hr.2 h0];exact {
  f:=by show bz (jo vals 1 6) line=_;rw[h0];rfl
  kn:=eA h.kn _ _
  only:=cO h.only ((cP _ _).1 dj) _
  e:=fun h1 h2=>by
   show({ x.e with scan:=i6 vals }:aa)=_;rw[h.e h1 h2];unfold bE;rw[if_neg fG,if_pos rfl,if_neg fG,if_pos rfl];simp only[aC.n,ck,aG _ _ sp,abF]
  e':=fun q=>absurd q (by rintro(q|q);exact cT q;exact cw q)
  c:=fun q=>absurd q cT
  c':=h.c'
  s:=fun q=>absurd q cw }
theorem m6 {nm:ByteArray} {b:cG} {v:aC} {x:cX} (h:cN au nm b v x) (vals:List ByteArray) (line:Int) (hk:(v.ln bW).isSome=false) (da:Lib.containsS (aJ au) bW=true) : (aV au x ⟨bW,vals,line⟩).f=bz (aY au ⟨bW,vals,line⟩ v).1 line∧((aY au ⟨bW,vals,line⟩ v).1=0→cN au nm b (aY au ⟨bW,vals,line⟩ v).2 (aV au x ⟨bW,vals,line⟩)):=by
 have hr:=iL (kind:=au) (f:=⟨bW,vals,line⟩) (v:=v) (lo:=1) (hi:=16) da hk (by kernel_rfl) (by kernel_rfl) ud uc (by kernel_rfl);have dj:bF (aJ au) bW=true:=da;have gM:bF x.known bW=false:=(h.kn _).trans hk;have hf:=h.f;have hc:df au x.e ⟨bW,vals,line⟩=({ x.e with batch:=i6 vals },jo vals 1 16):=by
  unfold df;refine(if_neg (show¬aH au bW=aH aP cZ from by decide)).trans ?_;refine(if_neg (show¬aH au bW=aH aP bp from by decide)).trans ?_;refine(if_neg (show¬aH au bW=aH aP aZ from by decide)).trans ?_;refine(if_neg (show¬aH au bW=aH au bV from by decide)).trans ?_;exact if_pos rfl
 have hs:aV au x ⟨bW,vals,line⟩={ x with e:={ x.e with batch:=i6 vals },f:=bz (jo vals 1 16) line,known:=x.known++[bW] }:=by
  unfold aV;simp only[hf,dj,gM,if_true,eZ,abC,if_false,ne_eq,not_true_eq_false];rw[if_neg cT,if_neg (fun q=>cw q.1),if_neg cw,hc];simp only[bY]
 rw[hs,hr.1];refine⟨rfl,fun h0=>?_⟩;rw[hr.2 h0];exact {
  f:=by show bz (jo vals 1 16) line=_;rw[h0];rfl
  kn:=eA h.kn _ _
  only:=cO h.only ((cP _ _).1 dj) _
  e:=fun h1 h2=>by
   show({ x.e with batch:=i6 vals }:aa)=_;rw[h.e h1 h2];unfold bE;rw[if_neg fG,if_pos rfl,if_neg fG,if_pos rfl];simp only[aC.n,ck,aG _ _ sn,abF]
  e':=fun q=>absurd q (by rintro(q|q);exact cT q;exact cw q)
  c:=fun q=>absurd q cT
  c':=h.c'
  s:=fun q=>absurd q cw }
theorem my {nm:ByteArray} {b:cG} {v:aC} {x:cX} (h:cN ae nm b v x) (vals:List ByteArray) (line:Int) (hk:(v.ln bU).isSome=false) (da:Lib.containsS (aJ ae) bU=true) : (aV ae x ⟨bU,vals,line⟩).f=bz (aY ae ⟨bU,vals,line⟩ v).1 line∧((aY ae ⟨bU,vals,line⟩ v).1=0→cN ae nm b (aY ae ⟨bU,vals,line⟩ v).2 (aV ae x ⟨bU,vals,line⟩)):=by
 have hr:=qu (kind:=ae) (f:=⟨bU,vals,line⟩) (v:=v) (n:=12) da hk (by kernel_rfl) (by omega);have dj:bF (aJ ae) bU=true:=da;have gM:bF x.known bU=false:=(h.kn _).trans hk;have hf:=h.f;have hc:df ae x.e ⟨bU,vals,line⟩=({ x.e with prec:=vals },eD vals 12):=by
  unfold df;refine(if_neg (show¬aH ae bU=aH aP cZ from by decide)).trans ?_;refine(if_neg (show¬aH ae bU=aH aP bp from by decide)).trans ?_;refine(if_neg (show¬aH ae bU=aH aP aZ from by decide)).trans ?_;refine(if_neg (show¬aH ae bU=aH au bV from by decide)).trans ?_;refine(if_neg (show¬aH ae bU=aH au bW from by decide)).trans ?_;exact if_pos rfl
 have hs:aV ae x ⟨bU,vals,line⟩={ x with e:={ x.e with prec:=vals },f:=bz (eD vals 12) line,known:=x.known++[bU] }:=by
  unfold aV;simp only[hf,dj,gM,if_true,eZ,abC,if_false,ne_eq,not_true_eq_false];rw[if_neg fH,if_neg (fun q=>eS q.1),if_neg eS,hc];simp only[bY]
 rw[hs,hr.1];refine⟨rfl,fun h0=>?_⟩;rw[hr.2 h0];exact {
  f:=by show bz (eD vals 12) line=_;rw[h0];rfl
  kn:=eA h.kn _ _
  only:=cO h.only ((cP _ _).1 dj) _
  e:=fun h1 h2=>by
   show({ x.e with prec:=vals }:aa)=_;rw[h.e h1 h2];unfold bE;rw[if_neg jO,if_neg im,if_pos rfl,if_neg jO,if_neg im,if_pos rfl];simp only[aC.s,ck,abF]
  e':=fun q=>absurd q (by rintro(q|q);exact fH q;exact eS q)
  c:=fun q=>absurd q fH
  c':=h.c'
  s:=fun q=>absurd q eS }
theorem m7 {nm:ByteArray} {b:cG} {v:aC} {x:cX} (h:cN af nm b v x) (vals:List ByteArray) (line:Int) (hk:(v.ln aM).isSome=false) (da:Lib.containsS (aJ af) aM=true) : (aV af x ⟨aM,vals,line⟩).f=bz (aY af ⟨aM,vals,line⟩ v).1 line∧((aY af ⟨aM,vals,line⟩ v).1=0→cN af nm b (aY af ⟨aM,vals,line⟩ v).2 (aV af x ⟨aM,vals,line⟩)):=by
 have hr:=qw (kind:=af) (f:=⟨aM,vals,line⟩) (v:=v) (ws:=ew) da hk (by kernel_rfl) (by kernel_rfl) (by unfold ew;simp);have dj:bF (aJ af) aM=true:=da;have gM:bF x.known aM=false:=(h.kn _).trans hk;have hf:=h.f;have hc:fp x.c ⟨aM,vals,line⟩=({ x.c with method:=iD vals ew },jp vals ew):=by
  unfold fp;exact if_pos rfl
 have hs:aV af x ⟨aM,vals,line⟩={ x with c:={ x.c with method:=iD vals ew },f:=bz (jp vals ew) line,known:=x.known++[aM] }:=by
  unfold aV;simp only[hf,dj,gM,if_true,eZ,abC,if_false,ne_eq,not_true_eq_false];rw[hc];simp only[bY];rw[if_neg km,if_neg kO]
 rw[hs,hr.1];refine⟨rfl,fun h0=>?_⟩;rw[hr.2 h0];exact {
  f:=by show bz (jp vals ew) line=_;rw[h0];rfl
  kn:=eA h.kn _ _
  only:=cO h.only ((cP _ _).1 dj) _
  e:=fun h1 h2=>absurd rfl h1
  e':=h.e'
  c:=fun hq=>by
   obtain⟨c1,c2,c3⟩:=h.c hq;refine⟨?_,?_,?_⟩
   ·have c4:=congrArg (fun c:ah=>({ c with method:=iD vals ew }:ah)) c1;refine Eq.trans c4 ?_;simp only[cU,aC.n,aC.s,ck,aG _ _ iM,aG _ _ kL,aG _ _ ib,aG _ _ lG,aG _ _ jz,aG _ _ lH,abF]
   ·show x.digits=_;rw[c2];simp only[aC.l,aG _ _ ib]
   ·show x.seats=_;rw[c3];simp only[aC.l,aG _ _ iM]
  c':=fun q=>absurd rfl q
  s:=fun q=>absurd q cL }
theorem nF {nm:ByteArray} {b:cG} {v:aC} {x:cX} (h:cN af nm b v x) (vals:List ByteArray) (line:Int) (hk:(v.ln bc).isSome=false) (da:Lib.containsS (aJ af) bc=true) : (aV af x ⟨bc,vals,line⟩).f=bz (aY af ⟨bc,vals,line⟩ v).1 line∧((aY af ⟨bc,vals,line⟩ v).1=0→cN af nm b (aY af ⟨bc,vals,line⟩ v).2 (aV af x ⟨bc,vals,line⟩)):=by
 have hr:=iL (kind:=af) (f:=⟨bc,vals,line⟩) (v:=v) (lo:=1) (hi:=5) da hk (by kernel_rfl) (by kernel_rfl) tP tO (by kernel_rfl);have dj:bF (aJ af) bc=true:=da;have gM:bF x.known bc=false:=(h.kn _).trans hk;have hf:=h.f;have hc:fp x.c ⟨bc,vals,line⟩=({ x.c with seats:=i6 vals },jo vals 1 5):=by
  unfold fp;refine(if_neg iM).trans ?_;exact if_pos rfl
 have hs:aV af x ⟨bc,vals,line⟩={ x with c:={ x.c with seats:=i6 vals },f:=bz (jo vals 1 5) line,known:=x.known++[bc],seats:=line }:=by
  unfold aV;simp only[hf,dj,gM,if_true,eZ,abC,if_false,ne_eq,not_true_eq_false];rw[hc];simp only[bY];rw[if_neg iN]
 rw[hs,hr.1];refine⟨rfl,fun h0=>?_⟩;rw[hr.2 h0];exact {
  f:=by show bz (jo vals 1 5) line=_;rw[h0];rfl
  kn:=eA h.kn _ _
  only:=cO h.only ((cP _ _).1 dj) _
  e:=fun h1 h2=>absurd rfl h1
  e':=h.e'
  c:=fun hq=>by
   obtain⟨c1,c2,c3⟩:=h.c hq;refine⟨?_,?_,?_⟩
   ·have c4:=congrArg (fun c:ah=>({ c with seats:=i6 vals }:ah)) c1;refine Eq.trans c4 ?_;simp only[cU,aC.n,aC.s,ck,aG _ _ kO,aG _ _ jm,aG _ _ gf,aG _ _ jG,aG _ _ gP,aG _ _ jH,abF]
   ·show x.digits=_;rw[c2];simp only[aC.l,aG _ _ gf]
   ·show line=_;simp only[aC.l,ck,abF]
  c':=fun q=>absurd rfl q
  s:=fun q=>absurd q cL }
theorem nG {nm:ByteArray} {b:cG} {v:aC} {x:cX} (h:cN af nm b v x) (vals:List ByteArray) (line:Int) (hk:(v.ln bP).isSome=false) (da:Lib.containsS (aJ af) bP=true) : (aV af x ⟨bP,vals,line⟩).f=bz (aY af ⟨bP,vals,line⟩ v).1 line∧((aY af ⟨bP,vals,line⟩ v).1=0→cN af nm b (aY af ⟨bP,vals,line⟩ v).2 (aV af x ⟨bP,vals,line⟩)):=by
 have hr:=iL (kind:=af) (f:=⟨bP,vals,line⟩) (v:=v) (lo:=1) (hi:=7) da hk (by kernel_rfl) (by kernel_rfl) tT tS (by kernel_rfl);have dj:bF (aJ af) bP=true:=da;have gM:bF x.known bP=false:=(h.kn _).trans hk;have hf:=h.f;have hc:fp x.c ⟨bP,vals,line⟩=({ x.c with ranks:=i6 vals },jo vals 1 7):=by
  unfold fp;refine(if_neg kL).trans ?_;refine(if_neg jm).trans ?_;exact if_pos rfl
 have hs:aV af x ⟨bP,vals,line⟩={ x with c:={ x.c with ranks:=i6 vals },f:=bz (jo vals 1 7) line,known:=x.known++[bP] }:=by
  unfold aV;simp only[hf,dj,gM,if_true,eZ,abC,if_false,ne_eq,not_true_eq_false];rw[hc];simp only[bY];rw[if_neg kM,if_neg jm]
 rw[hs,hr.1];refine⟨rfl,fun h0=>?_⟩;rw[hr.2 h0];exact {
  f:=by show bz (jo vals 1 7) line=_;rw[h0];rfl
  kn:=eA h.kn _ _
  only:=cO h.only ((cP _ _).1 dj) _
  e:=fun h1 h2=>absurd rfl h1
  e':=h.e'
  c:=fun hq=>by
   obtain⟨c1,c2,c3⟩:=h.c hq;refine⟨?_,?_,?_⟩
   ·have c4:=congrArg (fun c:ah=>({ c with ranks:=i6 vals }:ah)) c1;refine Eq.trans c4 ?_;simp only[cU,aC.n,aC.s,ck,aG _ _ qB,aG _ _ lI,aG _ _ iP,aG _ _ mT,aG _ _ jP,aG _ _ mU,abF]
   ·show x.digits=_;rw[c2];simp only[aC.l,aG _ _ iP]
   ·show x.seats=_;rw[c3];simp only[aC.l,aG _ _ lI]
  c':=fun q=>absurd rfl q
  s:=fun q=>absurd q cL }
theorem m8 {nm:ByteArray} {b:cG} {v:aC} {x:cX} (h:cN af nm b v x) (vals:List ByteArray) (line:Int) (hk:(v.ln az).isSome=false) (da:Lib.containsS (aJ af) az=true) : (aV af x ⟨az,vals,line⟩).f=bz (aY af ⟨az,vals,line⟩ v).1 line∧((aY af ⟨az,vals,line⟩ v).1=0→cN af nm b (aY af ⟨az,vals,line⟩ v).2 (aV af x ⟨az,vals,line⟩)):=by
 have hr:=iL (kind:=af) (f:=⟨az,vals,line⟩) (v:=v) (lo:=1) (hi:=6) da hk (by kernel_rfl) (by kernel_rfl) sk sj (by kernel_rfl);have dj:bF (aJ af) az=true:=da;have gM:bF x.known az=false:=(h.kn _).trans hk;have hf:=h.f;have hc:fp x.c ⟨az,vals,line⟩=({ x.c with digits:=i6 vals },jo vals 1 6):=by
  unfold fp;refine(if_neg ib).trans ?_;refine(if_neg gf).trans ?_;refine(if_neg iP).trans ?_;exact if_pos rfl
 have hs:aV af x ⟨az,vals,line⟩={ x with c:={ x.c with digits:=i6 vals },f:=bz (jo vals 1 6) line,known:=x.known++[az],digits:=line }:=by
  unfold aV;simp only[hf,dj,gM,if_true,eZ,abC,if_false,ne_eq,not_true_eq_false];rw[hc];simp only[bY];rw[if_neg gf]
 rw[hs,hr.1];refine⟨rfl,fun h0=>?_⟩;rw[hr.2 h0];exact {
  f:=by show bz (jo vals 1 6) line=_;rw[h0];rfl
  kn:=eA h.kn _ _
  only:=cO h.only ((cP _ _).1 dj) _
  e:=fun h1 h2=>absurd rfl h1
  e':=h.e'
  c:=fun hq=>by
   obtain⟨c1,c2,c3⟩:=h.c hq;refine⟨?_,?_,?_⟩
   ·have c4:=congrArg (fun c:ah=>({ c with digits:=i6 vals }:ah)) c1;refine Eq.trans c4 ?_;simp only[cU,aC.n,aC.s,ck,aG _ _ km,aG _ _ iN,aG _ _ kM,aG _ _ jk,aG _ _ gx,aG _ _ jl,abF]
   ·show line=_;simp only[aC.l,ck,abF]
   ·show x.seats=_;rw[c3];simp only[aC.l,aG _ _ iN]
  c':=fun q=>absurd rfl q
  s:=fun q=>absurd q cL }
theorem oP {nm:ByteArray} {b:cG} {v:aC} {x:cX} (h:cN af nm b v x) (vals:List ByteArray) (line:Int) (hk:(v.ln cV).isSome=false) (da:Lib.containsS (aJ af) cV=true) : (aV af x ⟨cV,vals,line⟩).f=bz (aY af ⟨cV,vals,line⟩ v).1 line∧((aY af ⟨cV,vals,line⟩ v).1=0→cN af nm b (aY af ⟨cV,vals,line⟩ v).2 (aV af x ⟨cV,vals,line⟩)):=by
 have hr:=qw (kind:=af) (f:=⟨cV,vals,line⟩) (v:=v) (ws:=iH) da hk (by kernel_rfl) (by kernel_rfl) (by unfold iH;simp);have dj:bF (aJ af) cV=true:=da;have gM:bF x.known cV=false:=(h.kn _).trans hk;have hf:=h.f;have hc:fp x.c ⟨cV,vals,line⟩=({ x.c with ties:=iD vals iH },jp vals iH):=by
  unfold fp;refine(if_neg lG).trans ?_;refine(if_neg jG).trans ?_;refine(if_neg mT).trans ?_;refine(if_neg jk).trans ?_;exact if_pos rfl
 have hs:aV af x ⟨cV,vals,line⟩={ x with c:={ x.c with ties:=iD vals iH },f:=bz (jp vals iH) line,known:=x.known++[cV] }:=by
  unfold aV;simp only[hf,dj,gM,if_true,eZ,abC,if_false,ne_eq,not_true_eq_false];rw[hc];simp only[bY];rw[if_neg jk,if_neg jG]
 rw[hs,hr.1];refine⟨rfl,fun h0=>?_⟩;rw[hr.2 h0];exact {
  f:=by show bz (jp vals iH) line=_;rw[h0];rfl
  kn:=eA h.kn _ _
  only:=cO h.only ((cP _ _).1 dj) _
  e:=fun h1 h2=>absurd rfl h1
  e':=h.e'
  c:=fun hq=>by
   obtain⟨c1,c2,c3⟩:=h.c hq;refine⟨?_,?_,?_⟩
   ·have c4:=congrArg (fun c:ah=>({ c with ties:=iD vals iH }:ah)) c1;refine Eq.trans c4 ?_;simp only[cU,aC.n,aC.s,ck,aG _ _ rY,aG _ _ mV,aG _ _ tQ,aG _ _ lJ,aG _ _ kj,aG _ _ nQ,abF]
   ·show x.digits=_;rw[c2];simp only[aC.l,aG _ _ lJ]
   ·show x.seats=_;rw[c3];simp only[aC.l,aG _ _ mV]
  c':=fun q=>absurd rfl q
  s:=fun q=>absurd q cL }
theorem lC {nm:ByteArray} {b:cG} {v:aC} {x:cX} (h:cN af nm b v x) (vals:List ByteArray) (line:Int) (hk:(v.ln aU).isSome=false) (da:Lib.containsS (aJ af) aU=true) : (aV af x ⟨aU,vals,line⟩).f=bz (aY af ⟨aU,vals,line⟩ v).1 line∧((aY af ⟨aU,vals,line⟩ v).1=0→cN af nm b (aY af ⟨aU,vals,line⟩ v).2 (aV af x ⟨aU,vals,line⟩)):=by
 have hr:=qw (kind:=af) (f:=⟨aU,vals,line⟩) (v:=v) (ws:=iJ) da hk (by kernel_rfl) (by kernel_rfl) (by unfold iJ;simp);have dj:bF (aJ af) aU=true:=da;have gM:bF x.known aU=false:=(h.kn _).trans hk;have hf:=h.f;have hc:fp x.c ⟨aU,vals,line⟩=({ x.c with over:=iD vals iJ },jp vals iJ):=by
  unfold fp;refine(if_neg jz).trans ?_;refine(if_neg gP).trans ?_;refine(if_neg jP).trans ?_;refine(if_neg gx).trans ?_;refine(if_neg kj).trans ?_;exact if_pos rfl
 have hs:aV af x ⟨aU,vals,line⟩={ x with c:={ x.c with over:=iD vals iJ },f:=bz (jp vals iJ) line,known:=x.known++[aU] }:=by
  unfold aV;simp only[hf,dj,gM,if_true,eZ,abC,if_false,ne_eq,not_true_eq_false];rw[hc];simp only[bY];rw[if_neg gx,if_neg gP]
 rw[hs,hr.1];refine⟨rfl,fun h0=>?_⟩;rw[hr.2 h0];exact {
  f:=by show bz (jp vals iJ) line=_;rw[h0];rfl
  kn:=eA h.kn _ _
  only:=cO h.only ((cP _ _).1 dj) _
  e:=fun h1 h2=>absurd rfl h1
  e':=h.e'
  c:=fun hq=>by
   obtain⟨c1,c2,c3⟩:=h.c hq;refine⟨?_,?_,?_⟩
   ·have c4:=congrArg (fun c:ah=>({ c with over:=iD vals iJ }:ah)) c1;refine Eq.trans c4 ?_;simp only[cU,aC.n,aC.s,ck,aG _ _ nR,aG _ _ jN,aG _ _ oT,aG _ _ jA,aG _ _ pD,aG _ _ kh,abF]
   ·show x.digits=_;rw[c2];simp only[aC.l,aG _ _ jA]
   ·show x.seats=_;rw[c3];simp only[aC.l,aG _ _ jN]
  c':=fun q=>absurd rfl q
  s:=fun q=>absurd q cL }
theorem oQ {nm:ByteArray} {b:cG} {v:aC} {x:cX} (h:cN af nm b v x) (vals:List ByteArray) (line:Int) (hk:(v.ln cW).isSome=false) (da:Lib.containsS (aJ af) cW=true) : (aV af x ⟨cW,vals,line⟩).f=bz (aY af ⟨cW,vals,line⟩ v).1 line∧((aY af ⟨cW,vals,line⟩ v).1=0→cN af nm b (aY af ⟨cW,vals,line⟩ v).2 (aV af x ⟨cW,vals,line⟩)):=by
 have hr:=qw (kind:=af) (f:=⟨cW,vals,line⟩) (v:=v) (ws:=iI) da hk (by kernel_rfl) (by kernel_rfl) (by unfold iI;simp);have dj:bF (aJ af) cW=true:=da;have gM:bF x.known cW=false:=(h.kn _).trans hk;have hf:=h.f;have hc:fp x.c ⟨cW,vals,line⟩=({ x.c with skip:=iD vals iI },jp vals iI):=by
  unfold fp;refine(if_neg lH).trans ?_;refine(if_neg jH).trans ?_;refine(if_neg mU).trans ?_;refine(if_neg jl).trans ?_;refine(if_neg nQ).trans ?_;refine(if_neg kh).trans ?_;exact if_pos rfl
 have hs:aV af x ⟨cW,vals,line⟩={ x with c:={ x.c with skip:=iD vals iI },f:=bz (jp vals iI) line,known:=x.known++[cW] }:=by
  unfold aV;simp only[hf,dj,gM,if_true,eZ,abC,if_false,ne_eq,not_true_eq_false];rw[hc];simp only[bY];rw[if_neg jl,if_neg jH]
 rw[hs,hr.1];refine⟨rfl,fun h0=>?_⟩;rw[hr.2 h0];exact {
  f:=by show bz (jp vals iI) line=_;rw[h0];rfl
  kn:=eA h.kn _ _
  only:=cO h.only ((cP _ _).1 dj) _
  e:=fun h1 h2=>absurd rfl h1
  e':=h.e'
  c:=fun hq=>by
   obtain⟨c1,c2,c3⟩:=h.c hq;refine⟨?_,?_,?_⟩
   ·have c4:=congrArg (fun c:ah=>({ c with skip:=iD vals iI }:ah)) c1;refine Eq.trans c4 ?_;simp only[cU,aC.n,aC.s,ck,aG _ _ sa,aG _ _ mW,aG _ _ tR,aG _ _ lK,aG _ _ vz,aG _ _ pE,abF]
   ·show x.digits=_;rw[c2];simp only[aC.l,aG _ _ lK]
   ·show x.seats=_;rw[c3];simp only[aC.l,aG _ _ mW]
  c':=fun q=>absurd rfl q
  s:=fun q=>absurd q cL }
theorem nH {nm:ByteArray} {b:cG} {v:aC} {x:cX} (h:cN af nm b v x) (vals:List ByteArray) (line:Int) (hk:(v.ln cz).isSome=false) (da:Lib.containsS (aJ af) cz=true) : (aV af x ⟨cz,vals,line⟩).f=bz (aY af ⟨cz,vals,line⟩ v).1 line∧((aY af ⟨cz,vals,line⟩ v).1=0→cN af nm b (aY af ⟨cz,vals,line⟩ v).2 (aV af x ⟨cz,vals,line⟩)):=by
 have hr:=qu (kind:=af) (f:=⟨cz,vals,line⟩) (v:=v) (n:=7) da hk (by kernel_rfl) (by omega);have dj:bF (aJ af) cz=true:=da;have gM:bF x.known cz=false:=(h.kn _).trans hk;have hf:=h.f;have hc:fp x.c ⟨cz,vals,line⟩=({ x.c with cands:=vals },eD vals 7):=by
  unfold fp;refine(if_neg qE).trans ?_;refine(if_neg lL).trans ?_;refine(if_neg so).trans ?_;refine(if_neg kP).trans ?_;refine(if_neg tX).trans ?_;refine(if_neg oU).trans ?_;refine(if_neg tY).trans ?_;rfl
 have hs:aV af x ⟨cz,vals,line⟩={ x with c:={ x.c with cands:=vals },f:=bz (eD vals 7) line,known:=x.known++[cz] }:=by
  unfold aV;simp only[hf,dj,gM,if_true,eZ,abC,if_false,ne_eq,not_true_eq_false];rw[hc];simp only[bY];rw[if_neg kP,if_neg lL]
 rw[hs,hr.1];refine⟨rfl,fun h0=>?_⟩;rw[hr.2 h0];exact {
  f:=by show bz (eD vals 7) line=_;rw[h0];rfl
  kn:=eA h.kn _ _
  only:=cO h.only ((cP _ _).1 dj) _
  e:=fun h1 h2=>absurd rfl h1
  e':=h.e'
  c:=fun hq=>by
   obtain⟨c1,c2,c3⟩:=h.c hq;refine⟨?_,?_,?_⟩
   ·have c4:=congrArg (fun c:ah=>({ c with cands:=vals }:ah)) c1;refine Eq.trans c4 ?_;simp only[cU,aC.n,aC.s,ck,abF]
   ·show x.digits=_;rw[c2];simp only[aC.l,aG _ _ qD]
   ·show x.seats=_;rw[c3];simp only[aC.l,aG _ _ rX]
  c':=fun q=>absurd rfl q
  s:=fun q=>absurd q cL }
theorem mw {nm:ByteArray} {b:cG} {v:aC} {x:cX} (h:cN aD nm b v x) (vals:List ByteArray) (line:Int) (hk:(v.ln ae).isSome=false) (da:Lib.containsS (aJ aD) ae=true) : (aV aD x ⟨ae,vals,line⟩).f=bz (aY aD ⟨ae,vals,line⟩ v).1 line∧((aY aD ⟨ae,vals,line⟩ v).1=0→cN aD nm b (aY aD ⟨ae,vals,line⟩ v).2 (aV aD x ⟨ae,vals,line⟩)):=by
 have hr:=qu (kind:=aD) (f:=⟨ae,vals,line⟩) (v:=v) (n:=12) da hk (by kernel_rfl) (by omega);have dj:bF (aJ aD) ae=true:=da;have gM:bF x.known ae=false:=(h.kn _).trans hk;have hf:=h.f;have hs:aV aD x ⟨ae,vals,line⟩={ x with n0:=vals,l0:=line,f:=bz (eD vals 12) line,known:=x.known++[ae] }:=by
  unfold aV;simp only[hf,dj,gM,if_true,eZ,abC,if_false,ne_eq,not_true_eq_false,bY];rw[if_neg fF,if_pos ⟨trivial,trivial⟩]
 rw[hs,hr.1];refine⟨rfl,fun h0=>?_⟩;rw[hr.2 h0];exact {
  f:=by show bz (eD vals 12) line=_;rw[h0];rfl
  kn:=eA h.kn _ _
  only:=cO h.only ((cP _ _).1 dj) _
  e:=fun h1 h2=>absurd rfl h2
  e':=h.e'
  c:=fun q=>absurd q fF
  c':=h.c'
  s:=fun hq=>by
   obtain⟨c1,c2,c3,c4⟩:=h.s hq;refine⟨?_,?_,?_,?_⟩
   ·simp only[aC.s,ck,abF]
   ·show x.n1=_;rw[c2];simp only[aC.s,aG _ _ fm]
   ·simp only[aC.l,ck,abF]
   ·show x.l1=_;rw[c4];simp only[aC.l,aG _ _ fm] }
theorem m0 {nm:ByteArray} {b:cG} {v:aC} {x:cX} (h:cN aD nm b v x) (vals:List ByteArray) (line:Int) (hk:(v.ln ay).isSome=false) (da:Lib.containsS (aJ aD) ay=true) : (aV aD x ⟨ay,vals,line⟩).f=bz (aY aD ⟨ay,vals,line⟩ v).1 line∧((aY aD ⟨ay,vals,line⟩ v).1=0→cN aD nm b (aY aD ⟨ay,vals,line⟩ v).2 (aV aD x ⟨ay,vals,line⟩)):=by
 have hr:=qu (kind:=aD) (f:=⟨ay,vals,line⟩) (v:=v) (n:=4) da hk (by kernel_rfl) (by omega);have dj:bF (aJ aD) ay=true:=da;have gM:bF x.known ay=false:=(h.kn _).trans hk;have hf:=h.f;have hs:aV aD x ⟨ay,vals,line⟩={ x with n1:=vals,l1:=line,f:=bz (eD vals 4) line,known:=x.known++[ay] }:=by
  unfold aV;simp only[hf,dj,gM,if_true,eZ,abC,if_false,ne_eq,not_true_eq_false,bY];rw[if_neg fF,if_neg (fun q=>fm q.2)]
 rw[hs,hr.1];refine⟨rfl,fun h0=>?_⟩;rw[hr.2 h0];exact {
  f:=by show bz (eD vals 4) line=_;rw[h0];rfl
  kn:=eA h.kn _ _
  only:=cO h.only ((cP _ _).1 dj) _
  e:=fun h1 h2=>absurd rfl h2
  e':=h.e'
  c:=fun q=>absurd q fF
  c':=h.c'
  s:=fun hq=>by
   obtain⟨c1,c2,c3,c4⟩:=h.s hq;refine⟨?_,?_,?_,?_⟩
   ·show x.n0=_;rw[c1];simp only[aC.s,aG _ _ iu]
   ·simp only[aC.s,ck,abF]
   ·show x.l0=_;rw[c3];simp only[aC.l,aG _ _ iu]
   ·simp only[aC.l,ck,abF] }
theorem qp {nm:ByteArray} {b:cG} {v:aC} {x:cX} (h:cN aO nm b v x) (vals:List ByteArray) (line:Int) (hk:(v.ln bJ).isSome=false) (da:Lib.containsS (aJ aO) bJ=true) : (aV aO x ⟨bJ,vals,line⟩).f=bz (aY aO ⟨bJ,vals,line⟩ v).1 line∧((aY aO ⟨bJ,vals,line⟩ v).1=0→cN aO nm b (aY aO ⟨bJ,vals,line⟩ v).2 (aV aO x ⟨bJ,vals,line⟩)):=by
 have hr:=Jn (kind:=aO) (f:=⟨bJ,vals,line⟩) (v:=v) da hk rfl;have dj:bF (aJ aO) bJ=true:=da;have gM:bF x.known bJ=false:=(h.kn _).trans hk;have hf:=h.f;have hc:df aO x.e ⟨bJ,vals,line⟩=({ x.e with risk:=(dP (bi vals).data.toList).2 },jy vals):=by
  unfold df;refine(if_neg (show¬aH aO bJ=aH aP cZ from by decide)).trans ?_;refine(if_neg (show¬aH aO bJ=aH aP bp from by decide)).trans ?_;refine(if_neg (show¬aH aO bJ=aH aP aZ from by decide)).trans ?_;refine(if_neg (show¬aH aO bJ=aH au bV from by decide)).trans ?_;refine(if_neg (show¬aH aO bJ=aH au bW from by decide)).trans ?_;refine(if_neg (show¬aH aO bJ=aH ae bU from by decide)).trans ?_;exact if_pos rfl
 have hs:aV aO x ⟨bJ,vals,line⟩={ x with e:={ x.e with risk:=(dP (bi vals).data.toList).2 },f:=bz (jy vals) line,known:=x.known++[bJ] }:=by
  unfold aV;simp only[hf,dj,gM,if_true,eZ,abC,if_false,ne_eq,not_true_eq_false];rw[if_neg bL,if_neg (fun q=>bH q.1),if_neg bH,hc];simp only[bY]
 rw[hs,hr.1];refine⟨rfl,fun h0=>?_⟩;rw[hr.2 h0];exact {
  f:=by show bz (jy vals) line=_;rw[h0];rfl
  kn:=eA h.kn _ _
  only:=cO h.only ((cP _ _).1 dj) _
  e:=fun h1 h2=>by
   show({ x.e with risk:=(dP (bi vals).data.toList).2 }:aa)=_;rw[h.e h1 h2];unfold bE;rw[if_neg gY,if_neg fh,if_neg eT,if_neg bL,if_neg bH,if_pos rfl,if_neg gY,if_neg fh,if_neg eT,if_neg bL,if_neg bH,if_pos rfl]
  e':=fun q=>absurd q (by rintro(q|q);exact bL q;exact bH q)
  c:=fun q=>absurd q bL
  c':=h.c'
  s:=fun q=>absurd q bH }
theorem qo {nm:ByteArray} {b:cG} {v:aC} {x:cX} (h:cN aO nm b v x) (vals:List ByteArray) (line:Int) (hk:(v.ln cH).isSome=false) (da:Lib.containsS (aJ aO) cH=true) : (aV aO x ⟨cH,vals,line⟩).f=bz (aY aO ⟨cH,vals,line⟩ v).1 line∧((aY aO ⟨cH,vals,line⟩ v).1=0→cN aO nm b (aY aO ⟨cH,vals,line⟩ v).2 (aV aO x ⟨cH,vals,line⟩)):=by
 have hr:=Jm (kind:=aO) (f:=⟨cH,vals,line⟩) (v:=v) da hk rfl;have dj:bF (aJ aO) cH=true:=da;have gM:bF x.known cH=false:=(h.kn _).trans hk;have hf:=h.f;have hc:df aO x.e ⟨cH,vals,line⟩=({ x.e with seed:=bi vals },kI vals):=by
  unfold df;refine(if_neg (show¬aH aO cH=aH aP cZ from by decide)).trans ?_;refine(if_neg (show¬aH aO cH=aH aP bp from by decide)).trans ?_;refine(if_neg (show¬aH aO cH=aH aP aZ from by decide)).trans ?_;refine(if_neg (show¬aH aO cH=aH au bV from by decide)).trans ?_;refine(if_neg (show¬aH aO cH=aH au bW from by decide)).trans ?_;refine(if_neg (show¬aH aO cH=aH ae bU from by decide)).trans ?_;refine(if_neg (show¬aH aO cH=aH aO bJ from by decide)).trans ?_;exact if_pos rfl
 have hs:aV aO x ⟨cH,vals,line⟩={ x with e:={ x.e with seed:=bi vals },f:=bz (kI vals) line,known:=x.known++[cH] }:=by
  unfold aV;simp only[hf,dj,gM,if_true,eZ,abC,if_false,ne_eq,not_true_eq_false];rw[if_neg bL,if_neg (fun q=>bH q.1),if_neg bH,hc];simp only[bY]
 rw[hs,hr.1];refine⟨rfl,fun h0=>?_⟩;rw[hr.2 h0];exact {
  f:=by show bz (kI vals) line=_;rw[h0];rfl
  kn:=eA h.kn _ _
  only:=cO h.only ((cP _ _).1 dj) _
  e:=fun h1 h2=>by
   show({ x.e with seed:=bi vals }:aa)=_;rw[h.e h1 h2];unfold bE;rw[if_neg gY,if_neg fh,if_neg eT,if_neg bL,if_neg bH,if_pos rfl,if_neg gY,if_neg fh,if_neg eT,if_neg bL,if_neg bH,if_pos rfl]
  e':=fun q=>absurd q (by rintro(q|q);exact bL q;exact bH q)
  c:=fun q=>absurd q bL
  c':=h.c'
  s:=fun q=>absurd q bH }
theorem oO {nm:ByteArray} {b:cG} {v:aC} {x:cX} (h:cN aW nm b v x) (vals:List ByteArray) (line:Int) (hk:(v.ln dB).isSome=false) (da:Lib.containsS (aJ aW) dB=true) : (aV aW x ⟨dB,vals,line⟩).f=bz (aY aW ⟨dB,vals,line⟩ v).1 line∧((aY aW ⟨dB,vals,line⟩ v).1=0→cN aW nm b (aY aW ⟨dB,vals,line⟩ v).2 (aV aW x ⟨dB,vals,line⟩)):=by
 have hr:=iL (kind:=aW) (f:=⟨dB,vals,line⟩) (v:=v) (lo:=1) (hi:=400) da hk (by kernel_rfl) (by kernel_rfl) vF vE (by kernel_rfl);have dj:bF (aJ aW) dB=true:=da;have gM:bF x.known dB=false:=(h.kn _).trans hk;have hf:=h.f;have hc:df aW x.e ⟨dB,vals,line⟩=({ x.e with cell:=i6 vals },jo vals 1 400):=by
  unfold df;refine(if_neg (show¬aH aW dB=aH aP cZ from by decide)).trans ?_;refine(if_neg (show¬aH aW dB=aH aP bp from by decide)).trans ?_;refine(if_neg (show¬aH aW dB=aH aP aZ from by decide)).trans ?_;refine(if_neg (show¬aH aW dB=aH au bV from by decide)).trans ?_;refine(if_neg (show¬aH aW dB=aH au bW from by decide)).trans ?_;refine(if_neg (show¬aH aW dB=aH ae bU from by decide)).trans ?_;refine(if_neg (show¬aH aW dB=aH aO bJ from by decide)).trans ?_;refine(if_neg (show¬aH aW dB=aH aO cH from by decide)).trans ?_;exact if_pos rfl
 have hs:aV aW x ⟨dB,vals,line⟩={ x with e:={ x.e with cell:=i6 vals },f:=bz (jo vals 1 400) line,known:=x.known++[dB] }:=by
  unfold aV;simp only[hf,dj,gM,if_true,eZ,abC,if_false,ne_eq,not_true_eq_false];rw[if_neg dR,if_neg (fun q=>dK q.1),if_neg dK,hc];simp only[bY]
 rw[hs,hr.1];refine⟨rfl,fun h0=>?_⟩;rw[hr.2 h0];exact {
  f:=by show bz (jo vals 1 400) line=_;rw[h0];rfl
  kn:=eA h.kn _ _
  only:=cO h.only ((cP _ _).1 dj) _
  e:=fun h1 h2=>by
   show({ x.e with cell:=i6 vals }:aa)=_;rw[h.e h1 h2];unfold bE;rw[if_neg kN,if_neg jd,if_neg iO,if_neg dR,if_neg dK,if_neg ki,if_pos rfl,if_neg kN,if_neg jd,if_neg iO,if_neg dR,if_neg dK,if_neg ki,if_pos rfl];simp only[aC.n,ck,abF]
  e':=fun q=>absurd q (by rintro(q|q);exact dR q;exact dK q)
  c:=fun q=>absurd q dR
  c':=h.c'
  s:=fun q=>absurd q dK }
theorem QA {kind nm:ByteArray} {b:cG} {v:aC} {x:cX} (h:cN kind nm b v x) (f:ao) : (aV kind x f).f=bz (aY kind f v).1 f.line∧((aY kind f v).1=0→cN kind nm b (aY kind f v).2 (aV kind x f)):=by
 have hf:=h.f;by_cases da:Lib.containsS (aJ kind) f.key=true
 ·by_cases hk:(v.ln f.key).isSome=true
  ·have hr:aY kind f v=(3,v):=by
    unfold aY;rw[if_neg (by rw[da];simp),if_pos hk]
   have dj:bF (aJ kind) f.key=true:=da;have gM:bF x.known f.key=true:=(h.kn _).trans hk;rw[hr];refine⟨?_,fun h0=>by cases h0⟩;unfold aV;simp only[hf,dj,gM,if_true,eZ,bY];rw[if_pos (by rw[qX];omega)]
  ·have hk:(v.ln f.key).isSome=false:=by simpa using hk
   have hm:f.key∈aJ kind:=(cP _ _).1 da;have hc:=mE hm;obtain⟨key,vals,line⟩:=f;simp only at hc da hk;rcases hc with⟨rfl,(rfl|rfl|rfl)⟩|⟨rfl,(rfl|rfl)⟩|⟨rfl,rfl⟩|⟨rfl,(rfl|rfl|rfl|rfl|rfl|rfl|rfl|rfl)⟩|⟨rfl,(rfl|rfl)⟩|⟨rfl,(rfl|rfl)⟩|⟨rfl,rfl⟩
   ·exact rP h vals line hk da
   ·exact qm h vals line hk da
   ·exact pw h vals line hk da
   ·exact m5 h vals line hk da
   ·exact m6 h vals line hk da
   ·exact my h vals line hk da
   ·exact m7 h vals line hk da
   ·exact nF h vals line hk da
   ·exact nG h vals line hk da
   ·exact m8 h vals line hk da
   ·exact oP h vals line hk da
   ·exact lC h vals line hk da
   ·exact oQ h vals line hk da
   ·exact nH h vals line hk da
   ·exact mw h vals line hk da
   ·exact m0 h vals line hk da
   ·exact qp h vals line hk da
   ·exact qo h vals line hk da
   ·exact oO h vals line hk da
 ·have da:Lib.containsS (aJ kind) f.key=false:=by simpa using da
  have hr:aY kind f v=(2,v):=by
   unfold aY;rw[if_pos da]
  have dj:bF (aJ kind) f.key=false:=da;rw[hr];refine⟨?_,fun h0=>by cases h0⟩;unfold aV;simp only[hf,dj,abC,if_false,bY];have h2:(bz 2 f.line).no≠0:=by rw[qX];omega
  rw[rU h2,if_pos h2]
theorem Bq {kind nm:ByteArray} {b:cG}:∀(fs:List ao) {v:aC} {x:cX},cN kind nm b v x→ (dJ kind fs x).f=(eY kind fs v).1∧((eY kind fs v).1.no=0→cN kind nm b (eY kind fs v).2 (dJ kind fs x))
 | [],v,x,h=>⟨h.f,fun _=>h⟩
 | f::l,v,x,h=>by
  have hs:=QA h f;unfold dJ eY;rw[if_neg (by rw[h.f];simp)];by_cases h0:(aY kind f v).1=0
  ·rw[if_neg (by rw[h0];simp)];exact Bq l (hs.2 h0)
  ·rw[if_pos h0];have hf:(aV kind x f).f=⟨(aY kind f v).1,f.line⟩:=by
    rw[hs.1];unfold bz;rw[if_neg h0]
   have eM:dJ kind l (aV kind x f)=aV kind x f:=by
    cases l with
    | nil=>rfl
    | cons g l=>unfold dJ;rw[if_pos (by rw[hf];exact h0)]
   rw[eM];exact⟨hf,fun h1=>absurd h1 h0⟩
end Go.Proofs.YtjlhbfbdcfajfaaGreatDoor
