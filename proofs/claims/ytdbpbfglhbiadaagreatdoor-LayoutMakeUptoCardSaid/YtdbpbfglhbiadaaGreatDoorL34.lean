/- Vld1 Ts5 La3 La4 La5 La6 Smp3 Tm2 -/
import Derived.Test.YtdbpbfglhbiadaaGreatDoorL00
import Derived.Test.YtdbpbfglhbiadaaGreatDoorL31
import Derived.Lib.ItoaLen
import Derived.Test.YtdbpbfglhbiadaaGreatDoorL32
import Derived.Test.YtdbpbfglhbiadaaGreatDoorL33
import Derived.Test.YtdbpbfglhbiadaaGreatDoorL11
import Derived.Test.YtdbpbfglhbiadaaGreatDoorL18
set_option maxHeartbeats 8000000
set_option maxRecDepth 100000
namespace Go.Proofs.YtdbpbfglhbiadaaGreatDoor
open Go.RowKit Go
structure df (e:aa):Prop where
 title:dR e.title
 seed:dR e.seed
 prec:∀s∈e.prec,dR s
 cont:∀x∈e.cont,dR x.name∧∀s∈x.cands,dR s
 styl:∀x∈e.styl,dR x.name
 len:e.cont.length+e.styl.length≤34359738368
theorem bq {s:ByteArray} (h:s.size≤1000):dR s:=aaM h (by omega)
theorem Gw {n:Int} (h:FC n):dR (rY n):=by
 refine bq ?_;show(Lib.itoa n).toArray.size≤1000;rw[ab6];unfold Lib.itoa;obtain⟨h1,h2⟩:=h;split
 ·have:=Lib.nDigits_le20 n.natAbs (by omega);rw[aaO,Lib.decDigits_length];omega
 ·have:=Lib.nDigits_le20 n.toNat (by omega);rw[Lib.decDigits_length];omega
theorem yd (k:ByteArray):∀s∈aO k,s.size≤100:=by
 unfold aO
 repeat' split
 all_goals decide
theorem Cj (k:ByteArray) (n:Int):dR (jE k n):=by
 refine bq ?_;unfold jE;split
 ·decide
 ·rw[aai];cases h:(aO k)[n.toNat-1]? with
  | none=>decide
  | some s=>exact aaM (yd k s (ack h)) (by omega)
theorem DF {fr:List ByteArray} (h:∀s∈fr,dR s) (i:Int):dR (nameAt fr i):=by
 unfold nameAt;split
 ·rw[aai];cases hh:fr[i.toNat]? with
  | none=>exact bq (by decide)
  | some s=>exact h s (ack hh)
 ·exact bq (by decide)
theorem ut {fr:List ByteArray} (h:∀s∈fr,dR s) (idx:List Int):∀s∈dO idx fr,dR s:=by
 intro s hs;obtain⟨i,_,rfl⟩:=acC.1 hs;exact DF h i
theorem ww {r:Raw} (h:r.short 67108864):dR ⟨(iC r.q).toArray⟩:=by
 obtain⟨h1,h2⟩:=mU h (by omega);have l1:=lA h1;have l2:=lA h2;show(iC r.q).toArray.size≤17592186044416;rw[ab6];unfold iC;rw[aaD,aaD];have l3:(if r.q.neg then[45] else([]:List UInt8)).length≤1:=by split<;>simp
 have l4:(if bJ r.q.d=[49] then[] else 47::bJ r.q.d).length≤1+(bJ r.q.d).length:=by split<;>simp;omega
 omega
def yu (f:ar):Prop:=J5 f∧f.vals.length≤274877906944
theorem om {k s:ByteArray} (hk:k.size≤1000) (hs:dR s):yu ⟨k,[s],0⟩:=⟨⟨bq hk,by simpa using hs,by simp⟩,by simp⟩
theorem o4 {k:ByteArray} {l:List ByteArray} (hk:k.size≤1000) (hl:∀s∈l,dR s) (hn:l.length≤274877906944):yu ⟨k,l,0⟩:=⟨⟨bq hk,hl,aaM hn (by omega)⟩,hn⟩
theorem kg {k:ByteArray} {n:Int} (hk:k.size≤1000) (h:FC n):yu (gJ k n):=om hk (Gw h)
theorem vR {k:ByteArray} {n:Int} (hk:k.size≤1000):yu (jY k n):=om hk (Cj k n)
theorem fE {x:aw} (hk:x.kind.size≤1000) (hn:dR x.name) (hl:x.fields.length≤1000) (hf:∀f∈x.fields,yu f):il x:=⟨bq hk,hn,aaM hl (by omega),hf⟩
theorem Cg {x:ae} (h:oU x) (hn:dR x.name) (hc:∀s∈x.cands,dR s):il (fl x):=by
 obtain⟨h1,h2,h3,h4,h5,h6,h7,h8⟩:=h;refine fE (abv rfl) hn ?_ ?_
 ·show([jY aM x.method,gJ bb x.seats,gJ bM x.ranks]++(if x.method=2 then[gJ ay x.digits] else[])++[jY cT x.ties,jY aP x.over,jY cU x.skip,(⟨bY,x.cands,0⟩:ar)]).length≤1000;split<;>simp
 ·intro f hf;have hf':f∈[jY aM x.method,gJ bb x.seats,gJ bM x.ranks]++(if x.method=2 then[gJ ay x.digits] else[])++[jY cT x.ties,jY aP x.over,jY cU x.skip,(⟨bY,x.cands,0⟩:ar)]:=hf;rcases abW.1 hf' with hf'|hf'
  ·rcases abW.1 hf' with hf'|hf'
   ·simp only[aaP,abL,or_false] at hf';rcases hf' with rfl|rfl|rfl
    ·exact vR (by decide)
    ·exact kg (by decide) h2
    ·exact kg (by decide) h3
   ·split at hf'
    ·simp only[aaP,abL,or_false] at hf';subst hf';exact kg (by decide) h4
    ·cases hf'
  ·simp only[aaP,abL,or_false] at hf';rcases hf' with rfl|rfl|rfl|rfl
   ·exact vR (by decide)
   ·exact vR (by decide)
   ·exact vR (by decide)
   ·exact o4 (by decide) hc h8
theorem wy {prec conts:List ByteArray} {x:aj} (hx:x.prec.length≤274877906944∧x.cont.length≤274877906944) (hn:dR x.name) (hp:∀s∈prec,dR s) (hc:∀s∈conts,dR s):il (fw prec conts x):=by
 refine fE (abv rfl) hn (by simp[fw]) ?_;intro f hf;have hf':f∈[(⟨af,dO x.prec prec,0⟩:ar),⟨ax,dO x.cont conts,0⟩]:=hf;simp only[aaP,abL,or_false] at hf';rcases hf' with rfl|rfl
 ·exact o4 (by decide) (ut hp _) (by unfold dO;rw[ace];exact hx.1)
 ·exact o4 (by decide) (ut hc _) (by unfold dO;rw[ace];exact hx.2)
theorem NA {e:aa} (h:dV e) (hs:df e):Fi (eX e):=by
 refine⟨hs.title,?_,fun x hx=>?_⟩
 ·have:=hs.len;simp only[eX,aaD,ace,aaO,abZ];omega
 ·have hx':x∈([(⟨aH,⟨#[]⟩,[gJ cV e.dots,gJ bi e.blank,gJ aW e.marked],0⟩:aw),⟨ak,⟨#[]⟩,[gJ bQ e.scan,gJ bR e.batch],0⟩,⟨af,⟨#[]⟩,[⟨bP,e.prec,0⟩],0⟩]
   ++e.cont.map fl++e.styl.map (fw e.prec (e.cont.map (·.name)))
   ++[⟨aJ,⟨#[]⟩,[⟨bH,[⟨(iC e.risk.q).toArray⟩],0⟩,⟨cz,[e.seed],0⟩],0⟩,⟨aN,⟨#[]⟩,[gJ dm e.cell],0⟩]):=hx
  rcases abW.1 hx' with hx'|hx'
  ·rcases abW.1 hx' with hx'|hx'
   ·rcases abW.1 hx' with hx'|hx'
    ·simp only[aaP,abL,or_false] at hx';rcases hx' with rfl|rfl|rfl
     ·refine fE (abv rfl) (bq (abv rfl)) (by simp) fun f hf=>?_;simp only[aaP,abL,or_false] at hf;rcases hf with rfl|rfl|rfl
      ·exact kg (by decide) h.dots
      ·exact kg (by decide) h.blank
      ·exact kg (by decide) h.marked
     ·refine fE (abv rfl) (bq (abv rfl)) (by simp) fun f hf=>?_;simp only[aaP,abL,or_false] at hf;rcases hf with rfl|rfl
      ·exact kg (by decide) h.scan
      ·exact kg (by decide) h.batch
     ·refine fE (abv rfl) (bq (abv rfl)) (by simp) fun f hf=>?_;simp only[aaP,abL,or_false] at hf;subst hf;exact o4 (by decide) hs.prec h.lp
    ·obtain⟨c,hc,rfl⟩:=acC.1 hx';exact Cg (h.conts c hc) (hs.cont c hc).1 (hs.cont c hc).2
   ·obtain⟨c,hc,rfl⟩:=acC.1 hx';refine wy (h.styls c hc) (hs.styl c hc) hs.prec fun s ZU=>?_;obtain⟨d,hd,rfl⟩:=acC.1 ZU;exact(hs.cont d hd).1
  ·simp only[aaP,abL,or_false] at hx';rcases hx' with rfl|rfl
   ·refine fE (abv rfl) (bq (abv rfl)) (by simp) fun f hf=>?_;simp only[aaP,abL,or_false] at hf;rcases hf with rfl|rfl
    ·exact om (by decide) (ww h.short)
    ·exact om (by decide) hs.seed
   ·refine fE (abv rfl) (bq (abv rfl)) (by simp) fun f hf=>?_;simp only[aaP,abL,or_false] at hf;subst hf;exact kg (by decide) h.cell
def oR (v:az):Prop:=v.risk.short 2
theorem Dk (l:List UInt8) (r:Raw) (h:(iU l).2=some r):r.short 2:=by
 unfold iU at h;split at h
 ·cases h
 split at h
 ·cases h
 ·injection h with h
  subst h;have h1:=iw (ek l);have h2:=iw (dQ l);exact zA _ _ _ (by omega) (by omega)
theorem KW {key s:ByteArray} {v:az} (h:oR v):oR (wT key s v).2:=by
 unfold wT;split
 ·exact h
 split
 ·show oR (v.withRisk _);unfold az.withRisk;split
  ·exact h
  ·rename_i r hr;exact Dk _ r hr
 split
 ·split
  ·exact h
  ·exact h
 split
 ·exact h
 split
 ·exact h
 ·exact h
theorem wO {kind:ByteArray} {f:ar} {v:az} (h:oR v):oR (aX kind f v).2:=by
 unfold aX;split
 ·exact h
 split
 ·exact h
 split
 ·exact h
 split
 ·exact h
 ·exact KW h
theorem uq {kind:ByteArray}:∀{fs:List ar} {v:az},oR v→oR (eJ kind fs v).2
 | [],v,h=>h
 | f::l,v,h=>by
  unfold eJ;split
  ·exact wO h
  ·exact uq (wO h)
theorem uO {x:aw} {b:bZ} (h:b.e.risk.short 2):(gr x b).2.e.risk.short 2:=by
 have hz:oR az.zero:=⟨ab0 _,ab0 _⟩;unfold gr;split
 ·exact h
 split
 ·exact h
 split
 ·exact h
 ·show(be x.kind x.name (eJ x.kind x.fields az.zero).2 (b.named x.kind x.name)).e.risk.short 2;have hr:(eJ x.kind x.fields az.zero).2.risk.short 2:=uq hz;unfold be
  repeat' split
  all_goals first|exact h|exact hr
theorem sP:∀{l:List aw} {b:bZ},b.e.risk.short 2→(di l b).2.e.risk.short 2
 | [],b,h=>h
 | x::l,b,h=>by
  unfold di;split
  ·exact uO h
  ·exact sP (uO h)
theorem yc (s:cI):(cX s).1.risk.short 67108864:=by
 have hz:aa.zero.risk.short 67108864:=⟨ab0 _,ab0 _⟩;unfold cX;split
 ·exact hz
 split
 ·exact hz
 split
 ·exact hz
 split
 ·exact hz
 ·have:(di s.blocks (bZ.start s.title)).2.e.risk.short 2:=sP ⟨ab0 _,ab0 _⟩;exact⟨aaM this.1 (by omega),aaM this.2 (by omega)⟩
theorem F9:av Tryz.prog 43 false (aU [(0,.st 8)] fun((x:Raw),_)=>.nd (x.short 536870912) (.lf (aB x.valid))):=
 gH fun w S x vs r hS he hl hr=>by
  obtain⟨(x:Raw),_⟩:=x;obtain⟨v,h1,h2⟩:=he 0 (.agg (kS (.st 8) x)) aaw;obtain⟨a1,rfl⟩:=hr
  match vs,hl,h1 with
  | [u],_,h1=>
   injection h1 with h1
   subst h1;exact Calls.mono (Ke (Hp h2) hS a1) fun e w' h=>⟨_,fun _=>False,h.1,h.2,fun _ q=>q.elim,rfl,rfl⟩
noncomputable def Cs5:ik Tryz.prog:=dE CP [⟨_,_,_,CZ⟩,⟨_,_,_,Mb⟩,⟨_,_,_,F9⟩,⟨_,_,_,LM⟩] []
def vpT (e:aa) (q:aa×eE):T XV:=.nd (dV e) (.nd (Fi (eX e)) (Mp (.lf (aB false)) [q.2.no==0] (.nd (e.risk.short 536870912) (Mp (.lf (aB false)) [e.risk.valid] (.nd (q.1.risk.short 67108864∧e.risk.short 67108864) (.lf (aB (kL q.1 e))))))))
theorem FN:av Tryz.prog 15 false (aU [(0,.st 5)] fun((e:aa),_)=>.nd (dV e∧df e) (.lf (aB (gn e)))):=
 bC (C:=Cs5) (nL _ _) false 99 [(0,.st 5)] (fun((e:aa),_)=>vpT e (cX (eX e)))
  (fun⟨(e:aa),_⟩ r _ ⟨⟨h1,h2⟩,h⟩=>by
   obtain rfl:aB (gn e)=r:=h;refine⟨?_,.inr rfl⟩;have e0:gn e=([(cX (eX e)).2.no==0].all id&&([e.risk.valid].all id&&kL (cX (eX e)).1 e)):=by
    unfold gn;rw[acG,adw,Bool.and_true,acG,adw,Bool.and_true];rfl
   rw[e0];refine⟨h1,NA h1 h2,sY (ret:=.lf (aB false)) (r:=aB) rfl _ fun _=>⟨⟨aaM h1.short.1 (by decide),aaM h1.short.2 (by decide)⟩,?_⟩⟩;exact sY (ret:=.lf (aB false)) (t:=.nd ((cX (eX e)).1.risk.short 67108864∧e.risk.short 67108864) (.lf (aB (kL (cX (eX e)).1 e)))) (r:=aB) rfl _ fun _=>⟨⟨yc _,h1.short⟩,rfl⟩) Tryz.func15
noncomputable abbrev shF:=Tryz.f67
noncomputable def CO (t:TypeId):Option Ty:=List.lookup t [(128,.st 23),(60,.st 18)]
noncomputable def Csh:ik Tryz.prog:=dE CO [⟨_,_,_,Oi⟩,⟨_,_,_,Ns⟩,⟨_,_,_,FN⟩] []
noncomputable abbrev XX:Rg Tryz.prog shF.ntmps:=vI Csh shF
abbrev shC:List CS:=[.d tI,.d tI,.d tI,.d tI,.d tI,.own (.st 18) 60,.d tI,.d tI]
abbrev agb:List CS:=[.d .str,.d (.list .str),.d tI,.d tI,.d tI,.d tI,.d tI,.d tI,.d tI]
abbrev nD:=eT shC
abbrev J7:=eT agb
abbrev sSh:SS:=.box 128 shC
abbrev sCo:SS:=.box 87 agb
def nD.d (s:nD):Int:=s.2.2.2.2.1
def nD.ts (s:nD):List fa:=s.2.2.2.2.2.1
def nD.rows (s:nD):Int:=s.2.2.2.2.2.2.1
def nD.cols (s:nD):Int:=s.2.2.2.2.2.2.2.1
def nD.put (s:nD) (ts:List fa) (rows cols:Int):nD:=(s.1,s.2.1,s.2.2.1,s.2.2.2.1,s.d,ts,rows,cols,())
def J7.ranks (c:J7):Int:=c.2.2.2.2.1
def Kf (d k ca r row:Int):fa:=(k,ca,r,3+2*d*(2+r),3+2*d*row,())
def nE (d k ca row:Int):Nat→Int→List fa
 | 0,_=>[]
 | n+1,r=>Kf d k ca r row::nE d k ca row n (r+1)
theorem rj (d k ca row:Int):∀(n:Nat) (r:Int),(nE d k ca row n r).length=n
 | 0,_=>rfl
 | n+1,r=>by rw[nE,aaO,rj]
abbrev XZ:List (Nat×SS):=[(2,AU),(7,sSh),(9,sI),(10,sCo),(40,Dh),(41,sI),(42,sI),(64,sI),(65,sI)]
abbrev X0:List (Nat×SS):=[(2,AU),(7,sSh),(9,sI),(10,sCo),(11,sI),(40,Dh),(41,sI),(42,sI),(64,sI),(65,sI),(76,sI),(77,sI)]
abbrev V1:=LE X0 XZ []
def ado (d n:Int) (t:T V1):T V1:=.nd (0≤d∧d≤1000∧0≤n∧n≤1000) t
def XY (e:fH) (s:nD) (k:Int) (c:J7) (ca:Int) (l:List Int) (n i m j q r:Int):T V1:=.br (decide (r<q)) (.nd (cf (2+r)) (ado s.d (2+r) (ado s.d s.rows (.nd ((s.ts.length+1)*41≤140737488355328) (.nd (cf (r+1)) (.lf (.back (e,s.put (Kf s.d k ca r s.rows::s.ts) s.rows s.cols,k,c,ca,l,n,i,m,j,q,r+1,())))))))) (.lf (.out (e,s,k,c,l,n,i,m,j,())))
def adp (s:nD) (q r:Int):Prop:=0≤r∧r≤q∧q≤7∧(0≤s.d∧s.d≤7)∧(0≤s.rows∧s.rows≤900)∧(s.ts.length:Int)+(q-r)≤100000
def qj (e:fH) (s:nD) (k:Int) (c:J7) (ca:Int) (l:List Int) (n i m j q r:Int):V1:=.out (e,s.put ((nE s.d k ca s.rows (q-r).toNat r).reverse++s.ts) s.rows s.cols,k,c,l,n,i,m,j,())
theorem NK:eS XX 2 4 X0 XZ [] fun((e:fH),(s:nD),(k:Int),(c:J7),(ca:Int),(l:List Int),(n:Int),(i:Int),(m:Int),(j:Int),(q:Int),(r:Int),_)=>.nd (adp s q r) (.lf (qj e s k c ca l n i m j q r)):=by
 refine eY _ (nL _ _) 99 2 4 X0 XZ [] (fun((e:fH),(s:nD),(k:Int),(c:J7),(ca:Int),(l:List Int),(n:Int),(i:Int),(m:Int),(j:Int),(q:Int),(r:Int),_)=>XY e s k c ca l n i m j q r) (fun(_,_,_,_,_,_,_,_,_,_,(q:Int),(r:Int),_)=>(q-r).toNat) ?_;rintro⟨(e:fH),(s:nD),(k:Int),(c:J7),(ca:Int),(l:List Int),(n:Int),(i:Int),(m:Int),(j:Int),(q:Int),(r:Int),_⟩ x _ ⟨⟨h0,h1,h2,h3,h4,h5⟩,hr⟩;obtain rfl:qj e s k c ca l n i m j q r=x:=hr;show∃z,(XY e s k c ca l n i m j q r).hit z∧_;unfold XY;by_cases hk:r<q
 ·refine⟨.back (e,s.put (Kf s.d k ca r s.rows::s.ts) s.rows s.cols,k,c,ca,l,n,i,m,j,q,r+1,()),aZ (decide_eq_true hk) ⟨⟨by omega,by omega⟩,⟨by omega,by omega,by omega,by omega⟩,⟨by omega,by omega,by omega,by omega⟩,by omega,⟨by omega,by omega⟩,rfl⟩,?_,⟨by omega,by omega,h2,h3,h4,?_⟩,?_⟩
  ·show(q-(r+1)).toNat<(q-r).toNat;omega
  ·show((s.ts.length+1:Nat):Int)+(q-(r+1))≤100000;omega
  ·show qj e (s.put (Kf s.d k ca r s.rows::s.ts) s.rows s.cols) k c ca l n i m j q (r+1)=qj e s k c ca l n i m j q r;unfold qj;rw[show(q-r).toNat=(q-(r+1)).toNat+1 by omega,nE,ab8,abP];rfl
 ·refine⟨.out (e,s,k,c,l,n,i,m,j,()),bh (decide_eq_false hk) rfl,?_⟩;show _=qj e s k c ca l n i m j q r;unfold qj;rw[show(q-r).toNat=0 by omega];rfl
def jf (d k q:Int):Nat→Int→Int→List fa
 | 0,_,_=>[]
 | n+1,j,row=>nE d k j (row+1) q.toNat 0++jf d k q n (j+1) (row+1)
abbrev X3:List (Nat×SS):=[(2,AU),(7,sSh),(9,sI),(10,sCo),(40,Dh),(41,sI),(42,sI),(64,sI),(65,sI)]
abbrev X2:List (Nat×SS):=[(2,AU),(7,sSh),(40,Dh),(41,sI),(42,sI)]
abbrev abO:=LE X3 X2 []
def nD.row1 (s:nD) (k j q:Int):nD:=s.put ((nE s.d k j (s.rows+1) (q-0).toNat 0).reverse++s.ts) (s.rows+1) s.cols
def X1 (e:fH) (s:nD) (k:Int) (c:J7) (l:List Int) (n i m j:Int):T abO:=.br (decide (j<m)) (.nd (cf (s.rows+1)) (.nd (adp (s.put s.ts (s.rows+1) s.cols) c.ranks 0) (.nd (cf (j+1)) (.lf (.back (e,s.row1 k j c.ranks,k,c,l,n,i,m,j+1,())))))) (.lf (.out (e,s,l,n,i,())))
def adr (s:nD) (c:J7) (m j:Int):Prop:=0≤j∧j≤m∧m≤7∧(0≤c.ranks∧c.ranks≤7)∧(0≤s.d∧s.d≤7)∧(0≤s.rows∧s.rows+(m-j)≤900)∧(s.ts.length:Int)+7*(m-j)≤10000
def qm (e:fH) (s:nD) (k:Int) (c:J7) (l:List Int) (n i m j:Int):abO:=.out (e,s.put ((jf s.d k c.ranks (m-j).toNat j s.rows).reverse++s.ts) (s.rows+(m-j)) s.cols,l,n,i,())
theorem NL:eS XX 1 2 X3 X2 [] fun((e:fH),(s:nD),(k:Int),(c:J7),(l:List Int),(n:Int),(i:Int),(m:Int),(j:Int),_)=>.nd (adr s c m j) (.lf (qm e s k c l n i m j)):=by
 refine eY _ ((nL _ _).add 2 _ NK) 99 1 2 X3 X2 [] (fun((e:fH),(s:nD),(k:Int),(c:J7),(l:List Int),(n:Int),(i:Int),(m:Int),(j:Int),_)=>X1 e s k c l n i m j) (fun(_,_,_,_,_,_,_,(m:Int),(j:Int),_)=>(m-j).toNat) ?_;rintro⟨(e:fH),(s:nD),(k:Int),(c:J7),(l:List Int),(n:Int),(i:Int),(m:Int),(j:Int),_⟩ x _ ⟨⟨h0,h1,h2,h3,h4,h5,h6⟩,hr⟩;obtain rfl:qm e s k c l n i m j=x:=hr;show∃z,(X1 e s k c l n i m j).hit z∧_;unfold X1;have bG:=rj s.d k j (s.rows+1) c.ranks.toNat 0;by_cases hk:j<m
 ·refine⟨.back (e,s.row1 k j c.ranks,k,c,l,n,i,m,j+1,()),aZ (decide_eq_true hk) ⟨⟨by omega,by omega⟩,⟨by omega,h3.1,h3.2,h4,?_,?_⟩,⟨by omega,by omega⟩,rfl⟩,?_,⟨by omega,by omega,h2,h3,h4,?_,?_⟩,?_⟩
  ·show 0≤s.rows+1∧s.rows+1≤900;omega
  ·show(s.ts.length:Int)+(c.ranks-0)≤100000;omega
  ·show(m-(j+1)).toNat<(m-j).toNat;omega
  ·show 0≤s.rows+1∧s.rows+1+(m-(j+1))≤900;omega
  ·show((((nE s.d k j (s.rows+1) (c.ranks-0).toNat 0).reverse++s.ts).length:Nat):Int)+7*(m-(j+1))≤10000;rw[aaD,aaH,acS,bG];omega
  ·show qm e (s.row1 k j c.ranks) k c l n i m (j+1)=qm e s k c l n i m j;unfold qm;rw[show(m-j).toNat=(m-(j+1)).toNat+1 by omega,jf,acU,abP];show(LE.out (e,s.put ((jf s.d k c.ranks (m-(j+1)).toNat (j+1) (s.rows+1)).reverse++((nE s.d k j (s.rows+1) (c.ranks-0).toNat 0).reverse++s.ts)) (s.rows+1+(m-(j+1))) s.cols,l,n,i,()):abO)=_;rw[acS,show s.rows+1+(m-(j+1))=s.rows+(m-j) by omega]
 ·refine⟨.out (e,s,l,n,i,()),bh (decide_eq_false hk) rfl,?_⟩;show _=qm e s k c l n i m j;unfold qm;rw[show m-j=0 by omega,Int.add_zero];rfl
theorem mE (d k q:Int):∀(n:Nat) (j row:Int),(jf d k q n j row).length=n*q.toNat
 | 0,_,_=>by rw[adY];rfl
 | n+1,j,row=>by rw[jf,aaD,rj,mE,Nat.succ_mul,adn]
def alM (x:ae):J7:=(x.name,x.cands,x.method,x.seats,x.ranks,x.digits,x.ties,x.over,x.skip,())
def fH.co (e:fH):List ae:=e.2.2.2.2.2.1
def kG (c v:Int):Int:=if v>c then v else c
def gA (cs:List ae) (d:Int):List Int→Int→List fa
 | [],_=>[]
 | k::ks,row=>jf d k (cs.getD k.toNat ae.z0).ranks (cs.getD k.toNat ae.z0).cands.length 0 row++gA cs d ks (row+(cs.getD k.toNat ae.z0).cands.length+1)
def dl (cs:List ae):List Int→Int→Int
 | [],row=>row
 | k::ks,row=>dl cs ks (row+(cs.getD k.toNat ae.z0).cands.length+1)
def fB (cs:List ae):List Int→Int→Int
 | [],c=>c
 | k::ks,c=>fB cs ks (kG c (2+(cs.getD k.toNat ae.z0).ranks))
abbrev X6:List (Nat×SS):=[(2,AU),(7,sSh),(40,Dh),(41,sI),(42,sI)]
abbrev X5:List (Nat×SS):=[(2,AU),(7,sSh)]
abbrev RG:=LE X6 X5 []
def nD.mid (s:nD) (k:Int) (x:ae):nD:=s.put ((jf s.d k x.ranks ((x.cands.length:Int)-0).toNat 0 s.rows).reverse++s.ts) (s.rows+((x.cands.length:Int)-0)+1) (kG s.cols (2+x.ranks))
def aiA (e:fH) (s:nD) (l:List Int) (n i k:Int) (x:ae):T RG:=.nd (cf (2+x.ranks)) (.nd (adr (s.put s.ts s.rows (kG s.cols (2+x.ranks))) (alM x) x.cands.length 0) (.nd (cf (s.rows+((x.cands.length:Int)-0)+1)) (.nd (cf (i+1)) (.lf (.back (e,s.mid k x,l,n,i+1,()))))))
def adt (e:fH) (s:nD) (l:List Int) (n i k:Int):T RG:=.nd (0≤k∧k<e.co.length) (aiA e s l n i k (e.co.getD k.toNat ae.z0))
def X4 (e:fH) (s:nD) (l:List Int) (n i:Int):T RG:=.br (decide (i<n)) (.nd (0≤i∧i<l.length) (adt e s l n i (l.getD i.toNat 0))) (.lf (.out (e,s,())))
def uR (x:ae):Prop:=(1≤x.ranks∧x.ranks≤7)∧1≤x.cands.length∧x.cands.length≤7
def ads (e:fH) (s:nD) (l:List Int) (n i:Int):Prop:=0≤i∧i≤l.length∧n=l.length∧l.length≤4∧(∀k∈l,0≤k∧k<e.co.length)∧(∀x∈e.co,uR x)∧(0≤s.d∧s.d≤7)∧(0≤s.rows∧s.rows+8*(l.length-i)≤100)∧(s.ts.length:Int)+49*(l.length-i)≤1000
def qo (e:fH) (s:nD) (l:List Int) (i:Nat):RG:=.out (e,s.put ((gA e.co s.d (l.drop i) s.rows).reverse++s.ts) (dl e.co (l.drop i) s.rows) (fB e.co (l.drop i) s.cols),())
theorem XW:eS XX 0 0 X6 X5 [] fun((e:fH),(s:nD),(l:List Int),(n:Int),(i:Int),_)=>.nd (ads e s l n i) (.lf (qo e s l i.toNat)):=by
 refine eY _ ((nL _ _).add 1 _ NL) 99 0 0 X6 X5 [] (fun((e:fH),(s:nD),(l:List Int),(n:Int),(i:Int),_)=>X4 e s l n i) (fun(_,_,(l:List Int),_,(i:Int),_)=>l.length-i.toNat) ?_;rintro⟨(e:fH),(s:nD),(l:List Int),(n:Int),(i:Int),_⟩ x _ ⟨⟨h0,h1,rfl,h2,h3,h4,h5,h6,h7⟩,hr⟩;obtain⟨k,rfl⟩:∃k:Nat,i=k:=⟨i.toNat,by omega⟩;obtain rfl:qo e s l k=x:=hr;show∃z,(X4 e s l l.length k).hit z∧_;unfold X4;rw[aak];by_cases hk:k<l.length
 ·obtain⟨c,hc⟩:∃c,l.getD k 0=c:=⟨_,rfl⟩;have LC:=h3 c (by rw[←hc,aai,aae hk];exact abF hk);have Qe:=getD_drop (0:Int) hk;rw[hc] at Qe ⊢;unfold adt;obtain⟨y,hy⟩:∃y,e.co.getD c.toNat ae.z0=y:=⟨_,rfl⟩;have Sf:=h4 y (by rw[←hy,aai,aae (by omega)];exact abF _);rw[hy];have bG:=mE s.d c y.ranks y.cands.length 0 s.rows;have hq:y.cands.length*y.ranks.toNat≤7*7:=Nat.mul_le_mul Sf.2.2 (by have:=Sf.1.2;omega);obtain⟨⟨g1,g2⟩,g3,g4⟩:=Sf;refine⟨.back (e,s.mid c y,l,(l.length:Int),(k:Int)+1,()),aZ (decide_eq_true (by omega)) ⟨⟨by omega,by omega⟩,LC,⟨by omega,by omega⟩,⟨by omega,by omega,by omega,⟨?_,?_⟩,h5,?_,?_⟩,⟨by omega,by omega⟩,⟨by omega,by omega⟩,rfl⟩,?_,⟨by omega,by omega,rfl,h2,h3,h4,h5,?_,?_⟩,?_⟩
  ·show 0≤y.ranks;omega
  ·show y.ranks≤7;omega
  ·show 0≤s.rows∧s.rows+((y.cands.length:Int)-0)≤900;omega
  ·show(s.ts.length:Int)+7*((y.cands.length:Int)-0)≤10000;omega
  ·show l.length-(k+1)<l.length-k;omega
  ·show 0≤s.rows+((y.cands.length:Int)-0)+1∧s.rows+((y.cands.length:Int)-0)+1+8*(l.length-((k:Int)+1))≤100;omega
  ·show((((jf s.d c y.ranks ((y.cands.length:Int)-0).toNat 0 s.rows).reverse++s.ts).length:Nat):Int)+49*(l.length-((k:Int)+1))≤1000;rw[aaD,aaH,acS,aak,bG];omega
  ·show qo e (s.mid c y) l (k+1)=qo e s l k;unfold qo;rw[Qe,gA,dl,fB,hy,acU,abP];show(LE.out (e,s.put ((gA e.co s.d (l.drop (k+1)) (s.rows+((y.cands.length:Int)-0)+1)).reverse++((jf s.d c y.ranks ((y.cands.length:Int)-0).toNat 0 s.rows).reverse++s.ts)) (dl e.co (l.drop (k+1)) (s.rows+((y.cands.length:Int)-0)+1)) (fB e.co (l.drop (k+1)) (kG s.cols (2+y.ranks))),()):RG)=_;rw[acS,aak]
 ·refine⟨.out (e,s,()),bh (decide_eq_false (by omega)) rfl,?_⟩;show _=qo e s l k;unfold qo;rw[aaL (by omega)];rfl
def zeO (e:aa):fH:=(e.title,e.dots,e.blank,e.marked,e.prec,e.cont,e.styl,e.scan,e.batch,e.risk.neg,e.risk.num,e.risk.den,e.cell,e.seed,())
def Bc (n:Int):XV:=.tup [(false,[.val (.pointer none)]),(false,[.sym (.int .i64 n)])]
def Iv (x:V0):XV:=.tup [(false,[.ref (.st 23) x 0]),(false,[.sym (.int .i64 0)])]
def aiz (e:aa) (p st:Int):nD:=(p,st,(0:Int),(0:Int),e.dots,([]:List fa),(0:Int),(7:Int),())
def adq (p st d rows cols:Int) (ts:List fa):V0:=(p,st,6+2*d*cols,6+2*d*(rows+1),d,ts,rows,cols,())
def shD (p st d rows cols:Int) (ts:List fa):T XV:=.nd (cf (2*d)) (.nd (cf (2*d*cols)) (.nd (cf (6+2*d*cols)) (.nd (cf (2*d)) (.nd (cf (rows+1)) (.nd (cf (2*d*(rows+1))) (.nd (cf (6+2*d*(rows+1))) (.lf (Iv (adq p st d rows cols ts)))))))))
def shB (e:aa) (p st:Int) (ks:List Int):T XV:=.nd (ads (zeO e) (aiz e p st) ks ks.length 0) (shD p st e.dots (dl e.cont (ks.drop (Int.toNat 0)) 0) (fB e.cont (ks.drop (Int.toNat 0)) 7) ((gA e.cont e.dots (ks.drop (Int.toNat 0)) 0).reverse++[]).reverse)
def shA (e:aa) (p st:Int):T XV:=.nd (0≤st∧st<e.styl.length) (shB e p st (e.styl.getD st.toNat aj.z0).cont)
def Wr (e:aa) (p:Int):T XV:=.nd (dV e∧df e) (.br (!gn e) (.lf (Bc 8)) (.br (decide (p<0)) (.lf (Bc 4)) (.br (decide (p≥e.prec.length)) (.lf (Bc 4)) (.nd (wA e.styl e.styl.length 0) (shA e p (fP p e.styl 0))))))
theorem Kv:av Tryz.prog 67 true (aU [(0,.st 5),(1,sI)] fun((e:aa),(p:Int),_)=>Wr e p):=
 bC (C:=Csh) ((((nL _ _).add 2 _ NK).add 1 _ NL).add 0 _ XW) true 99 [(0,.st 5),(1,sI)] (fun((e:aa),(p:Int),_)=>Wr e p) (fun _ _ _ h=>⟨h,.inl rfl⟩) Tryz.func67
def bo (e:aa) (p:Int):List Int:=(e.styl.getD (fP p e.styl 0).toNat aj.z0).cont
def lI (e:aa) (p:Int):V0:=adq p (fP p e.styl 0) e.dots (dl e.cont (bo e p) 0) (fB e.cont (bo e p) 7) (gA e.cont e.dots (bo e p) 0)
theorem CQ:∀{l:List aj} {p:Int} {i:Nat},(∃s∈l,p∈s.prec)→(i:Int)≤fP p l i∧fP p l i<(i+l.length:Nat)
 | [],_,_,⟨_,h,_⟩=>by cases h
 | s::l,p,i,⟨t,ht,hp⟩=>by
  unfold fP;rw[aaO];by_cases h:p∈s.prec
  ·rw[if_pos h];omega
  ·rw[if_neg h];rcases aaP.1 ht with rfl|ht
   ·exact absurd hp h
   ·have:=CQ (i:=i+1) ⟨t,ht,hp⟩;omega
theorem oJ {e:aa} (h:tg e):∀x∈e.cont,uR x:=fun x hx=>⟨(h.cont x hx).ranks,(h.cont x hx).cands⟩
theorem rA {cs:List ae} (hc:∀x∈cs,uR x):∀{ks:List Int} {row:Int},(∀k∈ks,0≤k∧k<cs.length)→row≤dl cs ks row∧dl cs ks row≤row+8*ks.length
 | [],row,_=>⟨Int.le_refl _,by simp[dl]⟩
 | k::ks,row,h=>by
  have hk:=h k aaw;have hx:=hc (cs.getD k.toNat ae.z0) (by rw[aai,aae (by omega)];exact abF _);have ih:=rA hc (ks:=ks) (row:=row+(cs.getD k.toNat ae.z0).cands.length+1) fun k' mn=>h k' (aaN _ mn);have:=hx.2;rw[dl,aaO];omega
theorem Y3 {c v:Int} (h1:7≤c∧c≤9) (h2:v≤9):7≤kG c v∧kG c v≤9:=by unfold kG;split<;>omega
theorem sJ {cs:List ae} (hc:∀x∈cs,uR x):∀{ks:List Int} {c:Int},(∀k∈ks,0≤k∧k<cs.length)→7≤c∧c≤9→7≤fB cs ks c∧fB cs ks c≤9
 | [],c,_,h=>h
 | k::ks,c,h,h1=>by
  have hk:=h k aaw;have hx:=hc (cs.getD k.toNat ae.z0) (by rw[aai,aae (by omega)];exact abF _);rw[fB];exact sJ hc (fun k' mn=>h k' (aaN _ mn)) (Y3 h1 (by have:=hx.1.2;omega))
theorem wz {e:aa} (hf:tg e) {p:Int} (h0:0≤p) (h1:p<e.prec.length):(0≤fP p e.styl 0∧fP p e.styl 0<e.styl.length)∧RE e.prec.length e.cont.length (e.styl.getD (fP p e.styl 0).toNat aj.z0):=by
 have h2:=CQ (l:=e.styl) (p:=p) (i:=0) (by
  obtain⟨s,hs,hp⟩:=hf.has p.toNat (by omega);exact⟨s,hs,by rwa [show((p.toNat:Nat):Int)=p by omega] at hp⟩)
 rw[ab7] at h2;have h2:0≤fP p e.styl 0∧fP p e.styl 0<e.styl.length:=h2;refine⟨h2,hf.styl.each _ ?_⟩;rw[aai,aae (by omega)];exact abF _
theorem Iq {e:aa} (h:dV e):wA e.styl e.styl.length 0:=⟨by omega,by omega,rfl,by have:=h.ls;omega,fun s hs=>by have:=(h.styls s hs).1;omega⟩
def shG (e:aa) (p:Int):T XV:=.nd (dV e∧df e) (.br (!gn e) (.lf (Bc 8)) (.br (decide (p<0)) (.lf (Bc 4)) (.br (decide (p≥e.prec.length)) (.lf (Bc 4)) (.lf (Iv (lI e p))))))
theorem K8 {a b:Int} (ha:0≤a∧a≤14) (hb:0≤b∧b≤1000):0≤a*b∧a*b≤14*1000:=⟨Int.mul_nonneg ha.1 hb.1,Int.mul_le_mul ha.2 hb.2 hb.1 (by omega)⟩
theorem NJ:av Tryz.prog 67 true (aU [(0,.st 5),(1,sI)] fun((e:aa),(p:Int),_)=>shG e p):=
 Kv.imp fun⟨(e:aa),(p:Int),_⟩ r hr=>by
  obtain⟨h0,h⟩:=hr;have h:(T.br (!gn e) (.lf (Bc 8)) (.br (decide (p<0)) (.lf (Bc 4)) (.br (decide (p≥e.prec.length)) (.lf (Bc 4)) (.lf (Iv (lI e p)))))).hit r:=h;refine⟨r,⟨h0,?_⟩,fun _ _ _ hv=>hv⟩;rcases hB h with⟨b1,h⟩|⟨b1,h⟩
  ·exact aZ b1 h
  refine bh b1 ?_;rcases hB h with⟨b2,h⟩|⟨b2,h⟩
  ·exact aZ b2 h
  refine bh b2 ?_;rcases hB h with⟨b3,h⟩|⟨b3,h⟩
  ·exact aZ b3 h
  refine bh b3 ⟨Iq h0.1,?_⟩;obtain rfl:Iv (lI e p)=r:=h;have hf:=AQ (show gn e=true by simpa using b1);have h2:0≤p:=by simpa using b2
  have h3:p<e.prec.length:=by simpa using b3
  obtain⟨hs,hy⟩:=wz hf h2 h3;have hc:=oJ hf;have hr:=rA hc (row:=0) hy.cont;have hw:=sJ hc (c:=7) hy.cont (by omega);have hl:=hy.lcont;have hd:=hf.dots;refine⟨hs,⟨by omega,by omega,rfl,hl.2,hy.cont,hc,(show 0≤e.dots∧e.dots≤7 by omega),?_,?_⟩,?_⟩
  ·show(0:Int)≤0∧(0:Int)+8*(((e.styl.getD (fP p e.styl 0).toNat aj.z0).cont.length:Int)-0)≤100;omega
  ·show((([]:List fa).length:Nat):Int)+49*(((e.styl.getD (fP p e.styl 0).toNat aj.z0).cont.length:Int)-0)≤1000;rw[abZ];omega
  ·unfold lI;show(shD p (fP p e.styl 0) e.dots (dl e.cont (bo e p) 0) (fB e.cont (bo e p) 7) ((gA e.cont e.dots (bo e p) 0).reverse++[]).reverse).hit _;rw[acn,aap];have hr:0≤dl e.cont (bo e p) 0∧dl e.cont (bo e p) 0≤0+8*(bo e p).length:=hr;have hl:(bo e p).length≤4:=hl.2;have hw:7≤fB e.cont (bo e p) 7∧fB e.cont (bo e p) 7≤9:=hw;generalize dl e.cont (bo e p) 0=R at hr;generalize fB e.cont (bo e p) 7=C at hw;have m1:=K8 (a:=2*e.dots) (b:=C) (by omega) (by omega);have m2:=K8 (a:=2*e.dots) (b:=R+1) (by omega) (by omega);exact⟨⟨by omega,by omega⟩,⟨by omega,by omega⟩,⟨by omega,by omega⟩,⟨by omega,by omega⟩,⟨by omega,by omega⟩,⟨by omega,by omega⟩,⟨by omega,by omega⟩,rfl⟩
noncomputable def Cmk:ik Tryz.prog:=dE CO [⟨_,_,_,NJ⟩] []
def lN (e:aa) (p:Int):Cp:=((lI e p).1,(lI e p).2.1,(lI e p).2.2.1,(lI e p).2.2.2.1,(lI e p).2.2.2.2.1,(lI e p).2.2.2.2.2.1,())
def Pb:Cp:=(0,0,0,0,0,[],())
def Zq (l:Cp) (f:Int):XV:=.tup [(true,kS (.st 19) l),(false,[.sym (.int .i64 f)])]
def Zp (n:Int):XV:=.tup [(true,[.sym (.int .i64 0),.sym (.int .i64 0),.sym (.int .i64 0),.sym (.int .i64 0),.sym (.int .i64 0),.val (.slice none 0 0)]),(false,[.sym (.int .i64 n)])]
theorem Gt {w:World} {S:Nat→Prop} {v:Value} {n:Int} (h:XR [] w S (Zp n) v):XR [] w S (Zq Pb n) v:=by
 obtain⟨vs,e,h⟩:=h;cases h with
 | cons h1 h2=>
  obtain⟨us,e1,h1⟩:=h1;refine⟨_,e,.cons ⟨us,e1,?_⟩ h2⟩;cases h1 with
  | cons a1 h1=>cases h1 with
   | cons a2 h1=>cases h1 with
    | cons a3 h1=>cases h1 with
     | cons a4 h1=>cases h1 with
      | cons a5 h1=>cases h1 with
       | cons a6 h1=>
        cases h1
        exact .cons a1 (.cons a2 (.cons a3 (.cons a4 (.cons a5 (.cons ⟨none,0,0,a6.1,RS.nil _ _,fun e=>by cases e⟩ .nil)))))
def mkE (n:Int):T XV:=.br true (.lf (Zp n)) .bad
def OP (e:aa) (p:Int):T XV:=.nd (dV e∧df e) (.br (!gn e) (mkE 8) (.br (decide (p<0)) (mkE 4) (.br (decide (p≥e.prec.length)) (mkE 4) (.br false (.lf (Zp 0)) (.lf (Zq (lN e p) 0))))))
def oB (e:aa) (p:Int):Int:=if gn e=false then 8 else if p<0∨(e.prec.length:Int)≤p then 4 else 0
def jV (e:aa) (p:Int):Cp:=if oB e p=0 then lN e p else Pb
theorem DU:av Tryz.prog 26 true (aU [(0,.st 5),(1,sI)] fun((e:aa),(p:Int),_)=>.nd (dV e∧df e) (.lf (Zq (jV e p) (oB e p)))):=
 (bC (C:=Cmk) (nL _ _) true 99 [(0,.st 5),(1,sI)] (G:=fun((e:aa),(p:Int),_)=>OP e p) (fun((e:aa),(p:Int),_)=>OP e p) (fun _ _ _ h=>⟨h,.inl rfl⟩) Tryz.func26).imp fun⟨(e:aa),(p:Int),_⟩ r hr=>by
  obtain⟨h0,rfl⟩:=hr;show∃q,(OP e p).hit q∧_;unfold jV;cases hv:gn e with
  | false=>
   have h1:oB e p=8:=by unfold oB;rw[hv];rfl
   rw[h1];exact⟨_,⟨h0,aZ (by rw[hv];rfl) (aZ rfl rfl)⟩,fun w S v h=>Gt h⟩
  | true=>
   by_cases hp:p<0∨(e.prec.length:Int)≤p
   ·have h1:oB e p=4:=by unfold oB;rw[hv,if_neg (by decide),if_pos hp]
    rw[h1];by_cases hp1:p<0
    ·exact⟨_,⟨h0,bh (by rw[hv];rfl) (aZ (decide_eq_true hp1) (aZ rfl rfl))⟩,fun w S v h=>Gt h⟩
    ·exact⟨_,⟨h0,bh (by rw[hv];rfl) (bh (decide_eq_false hp1) (aZ (decide_eq_true (by omega)) (aZ rfl rfl)))⟩,fun w S v h=>Gt h⟩
   ·have h1:oB e p=0:=by unfold oB;rw[hv,if_neg (by decide),if_neg hp]
    rw[h1];exact⟨_,⟨h0,bh (by rw[hv];rfl) (bh (decide_eq_false (by omega)) (bh (decide_eq_false (by omega)) (bh rfl rfl)))⟩,fun w S v h=>h⟩
noncomputable abbrev rwF:=Tryz.f68
noncomputable abbrev aiQ:Rg Tryz.prog rwF.ntmps:=vI C0 rwF
abbrev Yg:List (Nat×SS):=[(2,AU),(6,sI),(7,sI),(15,Dh),(16,sI),(17,sI)]
abbrev Ye:List (Nat×SS):=[(6,sI),(7,sI)]
abbrev RH:=LE Yg Ye []
def lK (cs:List ae):List Int→Int→Int
 | [],b=>b
 | k::ks,b=>lK cs ks (kG b (cs.getD k.toNat ae.z0).ranks)
def aiR (e:fH) (a b:Int) (l:List Int) (n i k:Int) (x:ae):T RH:=.nd (0≤k∧k<e.co.length) (.nd (cf ((x.cands.length:Int)+1)) (.nd (cf (a+((x.cands.length:Int)+1))) (.nd (0≤k∧k<e.co.length) (.nd (cf (i+1)) (.lf (.back (e,a+((x.cands.length:Int)+1),kG b x.ranks,l,n,i+1,())))))))
def adC (e:fH) (a b:Int) (l:List Int) (n i k:Int):T RH:=aiR e a b l n i k (e.co.getD k.toNat ae.z0)
def Yd (e:fH) (a b:Int) (l:List Int) (n i:Int):T RH:=.br (decide (i<n)) (.nd (0≤i∧i<l.length) (adC e a b l n i (l.getD i.toNat 0))) (.lf (.out (a,b,())))
def Yf (e:fH) (a:Int) (l:List Int) (n i:Int):Prop:=0≤i∧i≤l.length∧n=l.length∧l.length≤4∧(∀k∈l,0≤k∧k<e.co.length)∧(∀x∈e.co,uR x)∧0≤a∧a+8*(l.length-i)≤100
theorem Yc:eS aiQ 0 0 Yg Ye [] fun((e:fH),(a:Int),(b:Int),(l:List Int),(n:Int),(i:Int),_)=>.nd (Yf e a l n i) (.lf (.out (dl e.co (l.drop i.toNat) a,lK e.co (l.drop i.toNat) b,()))):=by
 refine eY _ (nL _ _) 99 0 0 Yg Ye [] (fun((e:fH),(a:Int),(b:Int),(l:List Int),(n:Int),(i:Int),_)=>Yd e a b l n i) (fun(_,_,_,(l:List Int),_,(i:Int),_)=>l.length-i.toNat) ?_;rintro⟨(e:fH),(a:Int),(b:Int),(l:List Int),(n:Int),(i:Int),_⟩ x _ ⟨⟨h0,h1,rfl,h2,h3,h4,h5,h6⟩,hr⟩;obtain⟨k,rfl⟩:∃k:Nat,i=k:=⟨i.toNat,by omega⟩;obtain rfl:(LE.out (dl e.co (l.drop k) a,lK e.co (l.drop k) b,()):RH)=x:=hr;show∃z,(Yd e a b l l.length k).hit z∧_;unfold Yd;rw[aak];by_cases hk:k<l.length
 ·obtain⟨c,hc⟩:∃c,l.getD k 0=c:=⟨_,rfl⟩;have LC:=h3 c (by rw[←hc,aai,aae hk];exact abF hk);have Qe:=getD_drop (0:Int) hk;rw[hc] at Qe ⊢;unfold adC;obtain⟨y,hy⟩:∃y,e.co.getD c.toNat ae.z0=y:=⟨_,rfl⟩;have Sf:=h4 y (by rw[←hy,aai,aae (by omega)];exact abF _);rw[hy,Qe,dl,lK,hy];obtain⟨_,g3,g4⟩:=Sf;refine⟨.back (e,a+((y.cands.length:Int)+1),kG b y.ranks,l,(l.length:Int),(k:Int)+1,()),aZ (decide_eq_true (by omega)) ⟨⟨by omega,by omega⟩,LC,⟨by omega,by omega⟩,⟨by omega,by omega⟩,LC,⟨by omega,by omega⟩,rfl⟩,(by show l.length-(k+1)<l.length-k;omega),⟨by omega,by omega,rfl,h2,h3,h4,by omega,by omega⟩,?_⟩;show(LE.out (dl e.co (l.drop (k+1)) (a+((y.cands.length:Int)+1)),lK e.co (l.drop (k+1)) (kG b y.ranks),()):RH)=_;rw[Int.add_assoc]
 ·rw[aaL (by omega)];exact⟨.out (a,b,()),bh (decide_eq_false (by omega)) rfl,rfl⟩
def rwX (a b:Int):XV:=.tup [(false,[.sym (.int .i64 a)]),(false,[.sym (.int .i64 b)])]
def rwA (e:aa) (ks:List Int):T XV:=.nd (Yf (zeO e) 0 ks ks.length 0) (.lf (rwX (dl e.cont (ks.drop (Int.toNat 0)) 0) (lK e.cont (ks.drop (Int.toNat 0)) 0)))
theorem NT:av Tryz.prog 68 false (aU [(0,.st 5),(1,sI)] fun((e:aa),(st:Int),_)=>.nd (0≤st∧st<e.styl.length) (rwA e (e.styl.getD st.toNat aj.z0).cont)):=
 bC (C:=C0) ((nL _ _).add 0 _ Yc) false 99 [(0,.st 5),(1,sI)] (fun((e:aa),(st:Int),_)=>.nd (0≤st∧st<e.styl.length) (rwA e (e.styl.getD st.toNat aj.z0).cont)) (fun⟨_,_,_⟩ r _ h=>⟨h,.inr (by obtain⟨_,_,h⟩:=h;obtain rfl:=h;rfl)⟩) Tryz.func68
noncomputable abbrev rmF:=Tryz.f28
noncomputable def Crm:ik Tryz.prog:=dE CO [⟨_,_,_,KA⟩,⟨_,_,_,NT⟩] []
noncomputable abbrev Yq:Rg Tryz.prog rmF.ntmps:=vI Crm rmF
abbrev laC:List CS:=[.d tI,.d tI,.d tI,.d tI,.d tI,.own (.st 18) 60]
abbrev qY:=eT laC
abbrev lvC:List CS:=[.d tI,.d tI,.d tI,.d tI,.d tI,.d (.list (.st 18))]
abbrev gh:=eT lvC
abbrev NQ:SS:=.box 54 lvC
abbrev sLa:SS:=.box 54 laC
def qY.ts (s:qY):List fa:=s.2.2.2.2.2.1
def qY.put (s:qY) (ts:List fa):qY:=(s.1,s.2.1,s.2.2.1,s.2.2.2.1,s.2.2.2.2.1,ts,())
def fH.d (e:fH):Int:=e.2.1
abbrev Yr:List (Nat×SS):=[(2,AU),(4,NQ),(8,sLa),(9,sI),(11,sI),(12,sI),(48,Dh),(49,sI),(50,sI)]
abbrev Ys:List (Nat×SS):=[(2,AU),(4,NQ),(8,sLa),(9,sI),(11,sI),(12,sI),(13,sI),(48,Dh),(49,sI),(50,sI)]
abbrev abR:=LE Ys Yr []
def Yt (e:fH) (v:gh) (s:qY) (row k c r:Int) (l:List Int) (n i q:Int):T abR:=.br (decide (r<q)) (.nd (cf (2*e.d)) (.nd (cf (2+r)) (.nd (cf (2*e.d*(2+r))) (.nd (cf (3+2*e.d*(2+r))) (.nd (cf (2*e.d)) (.nd (cf (2*e.d*row)) (.nd (cf (3+2*e.d*row)) (.nd ((s.ts.length+1)*41≤140737488355328) (.nd (cf (r+1)) (.lf (.back (e,v,s.put (Kf e.d k c r row::s.ts),row,k,c,r+1,l,n,i,())))))))))))) (.lf (.out (e,v,s,row,k,c,l,n,i,())))
def aiX (e:fH) (v:gh) (s:qY) (row k c r:Int) (l:List Int) (n i:Int):T abR:=.nd (0≤k∧k<e.co.length) (Yt e v s row k c r l n i (e.co.getD k.toNat ae.z0).ranks)
def jS (e:fH) (k:Int):ae:=e.co.getD k.toNat ae.z0
def adH (e:fH) (_:gh) (s:qY) (row k r:Int):Prop:=(0≤k∧k<e.co.length)∧0≤r∧r≤(jS e k).ranks∧(jS e k).ranks≤7∧(0≤e.d∧e.d≤7)∧(0≤row∧row≤900)∧(s.ts.length:Int)+((jS e k).ranks-r)≤100000
def qt (e:fH) (v:gh) (s:qY) (row k c r:Int) (l:List Int) (n i:Int):abR:=.out (e,v,s.put ((nE e.d k c row ((jS e k).ranks-r).toNat r).reverse++s.ts),row,k,c,l,n,i,())
theorem NV:eS Yq 2 4 Ys Yr [] fun((e:fH),(v:gh),(s:qY),(row:Int),(k:Int),(c:Int),(r:Int),(l:List Int),(n:Int),(i:Int),_)=>.nd (adH e v s row k r) (.lf (qt e v s row k c r l n i)):=by
 refine eY _ (nL _ _) 99 2 4 Ys Yr [] (fun((e:fH),(v:gh),(s:qY),(row:Int),(k:Int),(c:Int),(r:Int),(l:List Int),(n:Int),(i:Int),_)=>aiX e v s row k c r l n i) (fun((e:fH),_,_,_,(k:Int),_,(r:Int),_,_,_,_)=>((jS e k).ranks-r).toNat) ?_;rintro⟨(e:fH),(v:gh),(s:qY),(row:Int),(k:Int),(c:Int),(r:Int),(l:List Int),(n:Int),(i:Int),_⟩ x _ ⟨⟨h0,h1,h2,h3,h4,h5,h6⟩,hr⟩;obtain rfl:qt e v s row k c r l n i=x:=hr;show∃z,(T.nd (0≤k∧k<e.co.length) (Yt e v s row k c r l n i (jS e k).ranks)).hit z∧_;obtain⟨q,hq⟩:∃q,(jS e k).ranks=q:=⟨_,rfl⟩;rw[hq] at h2 h3 h6 ⊢;unfold Yt;by_cases hk:r<q
 ·have m1:=K8 (a:=2*e.d) (b:=2+r) (by omega) (by omega);have m2:=K8 (a:=2*e.d) (b:=row) (by omega) (by omega);refine⟨.back (e,v,s.put (Kf e.d k c r row::s.ts),row,k,c,r+1,l,n,i,()),⟨h0,aZ (decide_eq_true hk) ⟨⟨by omega,by omega⟩,⟨by omega,by omega⟩,⟨by omega,by omega⟩,⟨by omega,by omega⟩,⟨by omega,by omega⟩,⟨by omega,by omega⟩,⟨by omega,by omega⟩,by omega,⟨by omega,by omega⟩,rfl⟩⟩,?_,⟨h0,by omega,(by rw[hq];omega),(by rw[hq];omega),h4,h5,?_⟩,?_⟩
  ·show((jS e k).ranks-(r+1)).toNat<((jS e k).ranks-r).toNat;rw[hq];omega
  ·show((s.ts.length+1:Nat):Int)+((jS e k).ranks-(r+1))≤100000;rw[hq];omega
  ·show qt e v (s.put (Kf e.d k c r row::s.ts)) row k c (r+1) l n i=qt e v s row k c r l n i;unfold qt;rw[hq,show(q-r).toNat=(q-(r+1)).toNat+1 by omega,nE,ab8,abP];rfl
 ·refine⟨.out (e,v,s,row,k,c,l,n,i,()),⟨h0,bh (decide_eq_false hk) rfl⟩,?_⟩;show _=qt e v s row k c r l n i;unfold qt;rw[hq,show(q-r).toNat=0 by omega];rfl
abbrev Yw:List (Nat×SS):=[(2,AU),(4,NQ),(8,sLa),(9,sI),(11,sI),(12,sI),(48,Dh),(49,sI),(50,sI)]
abbrev Yv:List (Nat×SS):=[(2,AU),(4,NQ),(8,sLa),(9,sI),(48,Dh),(49,sI),(50,sI)]
abbrev V2:=LE Yw Yv []
def adJ (e:fH) (v:gh) (s:qY) (row k c:Int) (l:List Int) (n i m:Int):T V2:=.br (decide (c<m)) (.nd (adH e v s row k 0) (.nd (cf (row+1)) (.nd (cf (c+1)) (.lf (.back (e,v,s.put ((nE e.d k c row ((jS e k).ranks-0).toNat 0).reverse++s.ts),row+1,k,c+1,l,n,i,())))))) (.lf (.out (e,v,s,row,l,n,i,())))
def Yu (e:fH) (v:gh) (s:qY) (row k c:Int) (l:List Int) (n i:Int):T V2:=.nd (0≤k∧k<e.co.length) (adJ e v s row k c l n i (jS e k).cands.length)
def adI (e:fH) (_:gh) (s:qY) (row k c:Int):Prop:=(0≤k∧k<e.co.length)∧0≤c∧c≤(jS e k).cands.length∧(jS e k).cands.length≤7∧(0≤(jS e k).ranks∧(jS e k).ranks≤7)∧(0≤e.d∧e.d≤7)∧(0≤row∧row+((jS e k).cands.length-c)≤900)∧(s.ts.length:Int)+7*((jS e k).cands.length-c)≤10000
def qu (e:fH) (v:gh) (s:qY) (row k c:Int) (l:List Int) (n i m:Int):V2:=.out (e,v,s.put ((jf e.d k (jS e k).ranks (m-c).toNat c (row-1)).reverse++s.ts),row+(m-c),l,n,i,())
theorem NW:eS Yq 1 2 Yw Yv [] fun((e:fH),(v:gh),(s:qY),(row:Int),(k:Int),(c:Int),(l:List Int),(n:Int),(i:Int),_)=>.nd (adI e v s row k c) (.lf (qu e v s row k c l n i (jS e k).cands.length)):=by
 refine eY _ ((nL _ _).add 2 _ NV) 99 1 2 Yw Yv [] (fun((e:fH),(v:gh),(s:qY),(row:Int),(k:Int),(c:Int),(l:List Int),(n:Int),(i:Int),_)=>Yu e v s row k c l n i) (fun((e:fH),_,_,_,(k:Int),(c:Int),_,_,_,_)=>(((jS e k).cands.length:Int)-c).toNat) ?_;rintro⟨(e:fH),(v:gh),(s:qY),(row:Int),(k:Int),(c:Int),(l:List Int),(n:Int),(i:Int),_⟩ x _ ⟨⟨h0,h1,h2,h3,h4,h5,h6,h7⟩,hr⟩;obtain rfl:qu e v s row k c l n i (jS e k).cands.length=x:=hr;show∃z,(Yu e v s row k c l n i).hit z∧_;unfold Yu;obtain⟨m,hm⟩:∃m:Nat,(jS e k).cands.length=m:=⟨_,rfl⟩;rw[hm] at h2 h3 h6 h7 ⊢;unfold adJ;have bG:=rj e.d k c row (jS e k).ranks.toNat 0;by_cases hk:c<m
 ·refine⟨.back (e,v,s.put ((nE e.d k c row ((jS e k).ranks-0).toNat 0).reverse++s.ts),row+1,k,c+1,l,n,i,()),⟨h0,aZ (decide_eq_true hk) ⟨⟨h0,by omega,h4.1,h4.2,h5,by omega,by omega⟩,⟨by omega,by omega⟩,⟨by omega,by omega⟩,rfl⟩⟩,?_,⟨h0,by omega,(by rw[hm];omega),(by rw[hm];omega),h4,h5,(by rw[hm];omega),?_⟩,?_⟩
  ·show(((jS e k).cands.length:Int)-(c+1)).toNat<(((jS e k).cands.length:Int)-c).toNat;rw[hm];omega
  ·show((((nE e.d k c row ((jS e k).ranks-0).toNat 0).reverse++s.ts).length:Nat):Int)+7*(((jS e k).cands.length:Int)-(c+1))≤10000;rw[aaD,aaH,acS,bG,hm];omega
  ·show qu e v (s.put ((nE e.d k c row ((jS e k).ranks-0).toNat 0).reverse++s.ts)) (row+1) k (c+1) l n i (jS e k).cands.length=qu e v s row k c l n i m;unfold qu;rw[hm,show((m:Int)-c).toNat=((m:Int)-(c+1)).toNat+1 by omega,jf,acU,abP,Int.sub_add_cancel,acS];show(LE.out (e,v,s.put ((jf e.d k (jS e k).ranks ((m:Int)-(c+1)).toNat (c+1) (row+1-1)).reverse++((nE e.d k c row (jS e k).ranks.toNat 0).reverse++s.ts)),row+1+((m:Int)-(c+1)),l,n,i,()):V2)=_;rw[Int.add_sub_cancel,show row+1+((m:Int)-(c+1))=row+(m-c) by omega]
 ·refine⟨.out (e,v,s,row,l,n,i,()),⟨h0,bh (decide_eq_false hk) rfl⟩,?_⟩;show _=qu e v s row k c l n i m;unfold qu;rw[show(m:Int)-c=0 by omega,Int.add_zero];rfl
abbrev Yz:List (Nat×SS):=[(2,AU),(4,NQ),(8,sLa),(9,sI),(48,Dh),(49,sI),(50,sI)]
abbrev Yy:List (Nat×SS):=[(4,NQ),(8,sLa)]
abbrev V3:=LE Yz Yy []
def qY.add (s:qY) (e:fH) (row k:Int):qY:=s.put ((jf e.d k (jS e k).ranks (((jS e k).cands.length:Int)-0).toNat 0 (row-1)).reverse++s.ts)
def adL (e:fH) (v:gh) (s:qY) (row:Int) (l:List Int) (n i k:Int):T V3:=.nd (adI e v s row k 0) (.nd (cf (row+(((jS e k).cands.length:Int)-0)+1)) (.nd (cf (i+1)) (.lf (.back (e,v,s.add e row k,row+(((jS e k).cands.length:Int)-0)+1,l,n,i+1,())))))
def Yx (e:fH) (v:gh) (s:qY) (row:Int) (l:List Int) (n i:Int):T V3:=.br (decide (i<n)) (.nd (0≤i∧i<l.length) (adL e v s row l n i (l.getD i.toNat 0))) (.lf (.out (v,s,())))
def adK (e:fH) (s:qY) (row:Int) (l:List Int) (n i:Int):Prop:=0≤i∧i≤l.length∧n=l.length∧l.length≤4∧(∀k∈l,0≤k∧k<e.co.length)∧(∀x∈e.co,uR x)∧(0≤e.d∧e.d≤7)∧(0≤row∧row+8*(l.length-i)≤100)∧(s.ts.length:Int)+49*(l.length-i)≤1000
def qw (e:fH) (v:gh) (s:qY) (row:Int) (l:List Int) (i:Nat):V3:=.out (v,s.put ((gA e.co e.d (l.drop i) (row-1)).reverse++s.ts),())
theorem Yp:eS Yq 0 0 Yz Yy [] fun((e:fH),(v:gh),(s:qY),(row:Int),(l:List Int),(n:Int),(i:Int),_)=>.nd (adK e s row l n i) (.lf (qw e v s row l i.toNat)):=by
 refine eY _ ((nL _ _).add 1 _ NW) 99 0 0 Yz Yy [] (fun((e:fH),(v:gh),(s:qY),(row:Int),(l:List Int),(n:Int),(i:Int),_)=>Yx e v s row l n i) (fun(_,_,_,_,(l:List Int),_,(i:Int),_)=>l.length-i.toNat) ?_;rintro⟨(e:fH),(v:gh),(s:qY),(row:Int),(l:List Int),(n:Int),(i:Int),_⟩ x _ ⟨⟨h0,h1,rfl,h2,h3,h4,h5,h6,h7⟩,hr⟩;obtain⟨k,rfl⟩:∃k:Nat,i=k:=⟨i.toNat,by omega⟩;obtain rfl:qw e v s row l k=x:=hr;show∃z,(Yx e v s row l l.length k).hit z∧_;unfold Yx;rw[aak];by_cases hk:k<l.length
 ·obtain⟨c,hc⟩:∃c,l.getD k 0=c:=⟨_,rfl⟩;have LC:=h3 c (by rw[←hc,aai,aae hk];exact abF hk);have Qe:=getD_drop (0:Int) hk;rw[hc] at Qe ⊢;unfold adL;have Sf:uR (jS e c):=h4 _ (by unfold jS;rw[aai,aae (by omega)];exact abF _);obtain⟨y,hy⟩:∃y,jS e c=y:=⟨_,rfl⟩;have bG:=mE e.d c y.ranks y.cands.length 0 (row-1);rw[hy] at Sf;have hq:y.cands.length*y.ranks.toNat≤7*7:=Nat.mul_le_mul Sf.2.2 (by have:=Sf.1.2;omega);obtain⟨⟨g1,g2⟩,g3,g4⟩:=Sf;refine⟨.back (e,v,s.add e row c,row+(((jS e c).cands.length:Int)-0)+1,l,(l.length:Int),(k:Int)+1,()),aZ (decide_eq_true (by omega)) ⟨⟨by omega,by omega⟩,⟨LC,by omega,by omega,(by rw[hy];omega),(by rw[hy];omega),h5,(by rw[hy];omega),(by rw[hy];omega)⟩,(by rw[hy];exact⟨by omega,by omega⟩),⟨by omega,by omega⟩,rfl⟩,?_,⟨by omega,by omega,rfl,h2,h3,h4,h5,(by rw[hy];omega),?_⟩,?_⟩
  ·show l.length-(k+1)<l.length-k;omega
  ·show((((jf e.d c (jS e c).ranks (((jS e c).cands.length:Int)-0).toNat 0 (row-1)).reverse++s.ts).length:Nat):Int)+49*(l.length-((k:Int)+1))≤1000;rw[aaD,aaH,acS,aak,hy,bG];omega
  ·show qw e v (s.add e row c) (row+(((jS e c).cands.length:Int)-0)+1) l (k+1)=qw e v s row l k;unfold qw;rw[Qe,gA,acU,abP,acS,Int.add_sub_cancel];show(LE.out (v,s.put ((gA e.co e.d (l.drop (k+1)) (row+((jS e c).cands.length:Int))).reverse++((jf e.d c (jS e c).ranks (((jS e c).cands.length:Int)-0).toNat 0 (row-1)).reverse++s.ts)),()):V3)=.out (v,s.put ((gA e.co e.d (l.drop (k+1)) (row-1+((jS e c).cands.length:Int)+1)).reverse++((jf e.d c (jS e c).ranks (jS e c).cands.length 0 (row-1)).reverse++s.ts)),());rw[acS,aak,show row-1+((jS e c).cands.length:Int)+1=row+((jS e c).cands.length:Int) by omega]
 ·refine⟨.out (v,s,()),bh (decide_eq_false (by omega)) rfl,?_⟩;show _=qw e v s row l k;unfold qw;rw[aaL (by omega)];rfl
def rmX (p st W H d:Int) (o:List fa):XV:=.agg [.sym (.int .i64 p),.sym (.int .i64 st),.sym (.int .i64 W),.sym (.int .i64 H),.sym (.int .i64 d),.list (.st 18) o.reverse !o.isEmpty]
def rmD (e:aa) (p st:Int) (ks:List Int) (W H:Int):T XV:=.nd (0≤st∧st<e.styl.length) (.nd (adK (zeO e) ((p,st,W,H,e.dots,[],()):qY) 1 ks ks.length 0) (.lf (rmX p st W H e.dots ((gA e.cont e.dots (ks.drop (Int.toNat 0)) (1-1)).reverse++[]))))
def rmW (e:aa) (p st:Int) (ks:List Int) (R M:Int):T XV:=.nd (cf (2*e.dots)) (.nd (cf (2+M)) (.nd (cf (2*e.dots*kG 7 (2+M))) (.nd (cf (6+2*e.dots*kG 7 (2+M))) (.nd (cf (2*e.dots)) (.nd (cf (R+1)) (.nd (cf (2*e.dots*(R+1))) (.nd (cf (6+2*e.dots*(R+1))) (rmD e p st ks (6+2*e.dots*kG 7 (2+M)) (6+2*e.dots*(R+1))))))))))
def rmK (e:aa) (p st:Int) (ks:List Int):T XV:=.nd (Yf (zeO e) 0 ks ks.length 0) (rmW e p st ks (dl e.cont (ks.drop (Int.toNat 0)) 0) (lK e.cont (ks.drop (Int.toNat 0)) 0))
def rmS (e:aa) (p st:Int):T XV:=.nd (0≤st∧st<e.styl.length) (rmK e p st (e.styl.getD st.toNat aj.z0).cont)
def Wt (e:aa) (p:Int):T XV:=.nd (wA e.styl e.styl.length 0) (rmS e p (fP p e.styl 0))
theorem KD:av Tryz.prog 28 true (aU [(0,.st 5),(1,sI)] fun((e:aa),(p:Int),_)=>Wt e p):=
 bC (C:=Crm) ((((nL _ _).add 2 _ NV).add 1 _ NW).add 0 _ Yp) true 99 [(0,.st 5),(1,sI)] (fun((e:aa),(p:Int),_)=>Wt e p) (fun _ _ _ h=>⟨h,.inl rfl⟩) Tryz.func28
theorem aed {b:Int} (r:Int) (hb:0≤b):kG (kG 7 (2+b)) (2+r)=kG 7 (2+kG b r):=by
 unfold kG;split<;>split<;>split<;>(try split)<;>omega
theorem OH {b r:Int} (h:0≤b):0≤kG b r:=by unfold kG;split<;>omega
theorem EQ (cs:List ae):∀(ks:List Int) (b:Int),0≤b→fB cs ks (kG 7 (2+b))=kG 7 (2+lK cs ks b)
 | [],_,_=>rfl
 | k::ks,b,hb=>by rw[fB,lK,aed _ hb,EQ cs ks _ (OH hb)]
theorem NU:av Tryz.prog 28 true (aU [(0,.st 5),(1,sI)] fun((e:aa),(p:Int),_)=>.nd (dV e∧tg e∧0≤p∧p<e.prec.length) (.lf (.agg (kS (.st 19) (lN e p))))):=
 KD.imp fun⟨(e:aa),(p:Int),_⟩ r hr=>by
  obtain⟨⟨h0,hf,h2,h3⟩,rfl⟩:=hr;obtain⟨hs,hy⟩:=wz hf h2 h3;have hc:=oJ hf;have hr:=rA hc (row:=0) hy.cont;have hw:=sJ hc (c:=7) hy.cont (by omega);have hl:=hy.lcont;have hd:=hf.dots;have hm:=EQ e.cont (bo e p) 0 (Int.le_refl _);have hm:fB e.cont (bo e p) 7=kG 7 (2+lK e.cont (bo e p) 0):=hm;have hr:0≤dl e.cont (bo e p) 0∧dl e.cont (bo e p) 0≤0+8*(bo e p).length:=hr;have hl:1≤(bo e p).length∧(bo e p).length≤4:=hl;have hw:7≤fB e.cont (bo e p) 7∧fB e.cont (bo e p) 7≤9:=hw;have UX:∀k∈bo e p,0≤k∧k<(zeO e).co.length:=hy.cont;have m1:=K8 (a:=2*e.dots) (b:=fB e.cont (bo e p) 7) (by omega) (by omega);have m2:=K8 (a:=2*e.dots) (b:=dl e.cont (bo e p) 0+1) (by omega) (by omega);rw[hm] at m1 hw;have hM:-100≤lK e.cont (bo e p) 0∧lK e.cont (bo e p) 0≤100:=by
   have hmm:∀(ks:List Int) (b:Int),0≤b→0≤lK e.cont ks b:=fun ks=>by
    induction ks with
    | nil=>intro b hb;exact hb
    | cons k ks ih=>intro b hb;exact ih _ (OH hb)
   have:=hmm (bo e p) 0 (Int.le_refl _);have h9:=hw.2;unfold kG at h9;split at h9<;>omega
  refine⟨rmX p (fP p e.styl 0) (6+2*e.dots*kG 7 (2+lK e.cont (bo e p) 0)) (6+2*e.dots*(dl e.cont (bo e p) 0+1)) e.dots ((gA e.cont e.dots (bo e p) 0).reverse++[]),⟨Iq h0,hs,⟨by omega,by omega,rfl,hl.2,UX,hc,by omega,?_⟩,⟨by omega,by omega⟩,(show cf (2+lK e.cont (bo e p) 0) from⟨by omega,by omega⟩),?_,?_,⟨by omega,by omega⟩,?_,?_,?_,hs,⟨by omega,by omega,rfl,hl.2,UX,hc,(show 0≤e.dots∧e.dots≤7 by omega),?_,?_⟩,rfl⟩,fun w S v hv=>?_⟩
  ·show(0:Int)+8*(((bo e p).length:Int)-0)≤100;omega
  ·exact⟨by show _≤2*e.dots*kG 7 (2+lK e.cont (bo e p) 0);omega,by show 2*e.dots*kG 7 (2+lK e.cont (bo e p) 0)≤_;omega⟩
  ·exact⟨by show _≤6+2*e.dots*kG 7 (2+lK e.cont (bo e p) 0);omega,by show 6+2*e.dots*kG 7 (2+lK e.cont (bo e p) 0)≤_;omega⟩
  ·exact⟨by show _≤dl e.cont (bo e p) 0+1;omega,by show dl e.cont (bo e p) 0+1≤_;omega⟩
  ·exact⟨by show _≤2*e.dots*(dl e.cont (bo e p) 0+1);omega,by show 2*e.dots*(dl e.cont (bo e p) 0+1)≤_;omega⟩
  ·exact⟨by show _≤6+2*e.dots*(dl e.cont (bo e p) 0+1);omega,by show 6+2*e.dots*(dl e.cont (bo e p) 0+1)≤_;omega⟩
  ·show(0:Int)≤1∧(1:Int)+8*(((bo e p).length:Int)-0)≤100;omega
  ·show((([]:List fa).length:Nat):Int)+49*(((bo e p).length:Int)-0)≤1000;rw[abZ];omega
  ·have hv:=AP hv;have e1:Mw (rmX p (fP p e.styl 0) (6+2*e.dots*kG 7 (2+lK e.cont (bo e p) 0)) (6+2*e.dots*(dl e.cont (bo e p) 0+1)) e.dots ((gA e.cont e.dots (bo e p) 0).reverse++[]))=.agg (kS (.st 19) (lN e p)):=by
    show XV.agg [.sym (.int .i64 p),.sym (.int .i64 (fP p e.styl 0)),.sym (.int .i64 (6+2*e.dots*kG 7 (2+lK e.cont (bo e p) 0))),.sym (.int .i64 (6+2*e.dots*(dl e.cont (bo e p) 0+1))),.sym (.int .i64 e.dots),.list (.st 18) ((gA e.cont e.dots (bo e p) 0).reverse++[]).reverse false]=_;rw[acn,aap,←hm];rfl
   rw[e1] at hv;exact hv
theorem F7:av Tryz.prog 66 false (aU [] fun _=>.lf (.agg (kS (.st 5) dX))):=
 gH fun w S x vs r hS he hl hr=>by
  obtain rfl:=hr
  match vs,hl with
  | [],_=>exact Calls.mono Kz fun e w' ⟨v,h1,⟨cs,h2,h3⟩,hb⟩=>⟨v,cY w w',h1,hb,fun b q=>.inr q,cs,h2,ki (t:=.st 5) h3⟩
theorem yK:dV dX where
 dots:=⟨by decide,by decide⟩
 blank:=⟨by decide,by decide⟩
 marked:=⟨by decide,by decide⟩
 scan:=⟨by decide,by decide⟩
 batch:=⟨by decide,by decide⟩
 cell:=⟨by decide,by decide⟩
 conts:=by intro x hx;obtain rfl:=ab5.1 hx;unfold oU FC;simp
 styls:=by intro x hx;obtain rfl:=ab5.1 hx;simp
 lc:=by simp[dX]
 ls:=by simp[dX]
 lp:=by simp[dX]
 short:=by simp[dX,Raw.short]
theorem De:df dX where
 title:=bq (by simp[dX,ByteArray.size])
 seed:=bq (by simp[dX,ByteArray.size])
 prec:=by intro s hs;simp only[dX,aaP,abL,or_false] at hs;rcases hs with rfl|rfl<;>exact bq (by simp[ByteArray.size])
 cont:=by
  intro x hx;obtain rfl:=ab5.1 hx;refine⟨bq (by simp[ByteArray.size]),fun s hs=>?_⟩;simp only[aaP,abL,or_false] at hs;rcases hs with rfl|rfl|rfl<;>exact bq (by simp[ByteArray.size])
 styl:=by intro x hx;obtain rfl:=ab5.1 hx;exact bq (by simp[ByteArray.size])
 len:=by simp[dX]
theorem Hh {P:Program} {f:FuncId} {g:ByteArray→Bool} (h:∀(s:ByteArray) (w:World),s.size≤9223372036854775807→Calls P f #[.string s] w (gW w (.bool (g s)))):av P f false (aU [(0,sS)] fun((s:ByteArray),_)=>.nd (s.size≤9223372036854775807) (.lf (aB (g s)))):=
 gH fun w S x vs r hS he hl hr=>by
  obtain⟨(s:ByteArray),_⟩:=x;obtain⟨v,h1,h2,_⟩:=he 0 (aS s) aaw;obtain⟨hs,rfl⟩:=hr
  match vs,hl,h1 with
  | [u],_,h1=>
   injection h1 with h1
   subst h1 h2;exact Calls.mono (h s w hs) fun e w' ⟨e1,e2⟩=>⟨_,fun _=>False,e1,e2▸Below.refl _ _,fun _ q=>q.elim,rfl,rfl⟩
theorem ol:av Tryz.prog 61 false (aU [(0,sS)] fun((s:ByteArray),_)=>.nd (s.size≤9223372036854775807) (.lf (aB (fQ s.data.toList)))):=Hh KT
theorem qZ:av Tryz.prog 150 false (aU [(0,sS)] fun((s:ByteArray),_)=>.nd (s.size≤9223372036854775807) (.lf (aB (ja s.data.toList)))):=Hh MV
theorem TE:av Tryz.prog 234 false (aU [(0,sS)] fun((s:ByteArray),_)=>.nd (s.size≤9223372036854775807) (.lf (aB (kH s.data.toList)))):=Hh Gl
noncomputable def C1:ik Tryz.prog:=dE uT [⟨_,_,_,find_ok⟩,⟨_,_,_,ol⟩,⟨_,_,_,qZ⟩,⟨_,_,_,TE⟩] []
theorem Jt {b y:Bool} {x:T XV} (h:b=true→x.hit (aB y)):(T.br b x (.lf (aB false))).hit (aB (b&&y)):=by
 cases b with
 | true=>exact⟨fun _=>h rfl,fun e=>by cases e⟩
 | false=>exact⟨(fun e=>by cases e),fun _=>rfl⟩
theorem By:av Tryz.prog 153 false (aU [(0,sS)] fun((s:ByteArray),_)=>.nd (s.size≤9223372036854775807) (.lf (aB (ox s)))):=
 bC (C:=C1) (nL _ _) false 99 [(0,sS)] (fun((s:ByteArray),_)=>.br (decide ((s.size:Int)≥1)) (.br (decide ((s.size:Int)≤24)) (.nd (s.size≤9223372036854775807) (.lf (aB (fQ s.data.toList)))) (.lf (aB false))) (.lf (aB false)))
  (fun⟨s,_⟩ r _ ⟨hs,h⟩=>by
   obtain rfl:aB (ox s)=r:=h;exact⟨Jt fun _=>Jt fun _=>⟨hs,rfl⟩,.inr rfl⟩) Tryz.func153
theorem KZ (l:List UInt8):-(6*10^l.length-6)≤l.foldl dD 0∧l.foldl dD 0≤23*10^l.length-23:=by
 have:∀k:List UInt8,-(6*10^k.reverse.length-6)≤k.reverse.foldl dD 0∧k.reverse.foldl dD 0≤23*10^k.reverse.length-23:=by
  intro k;induction k with
  | nil=>simp
  | cons x k ih=>
   rw[ab8,List.foldl_append,aaD,abE];obtain⟨P,hP⟩:∃P:Int,(10:Int)^k.reverse.length=P:=⟨_,rfl⟩;have e:(10:Int)^(k.reverse.length+1)=10*P:=by rw[Int.pow_succ,hP,Int.mul_comm]
   rw[hP] at ih;rw[e];have hx:=x.toNat_lt;show _≤10*_+(x.toNat:Int)-48∧10*_+(x.toNat:Int)-48≤_;omega
 have h:=this l.reverse
 rwa [aap] at h
theorem zw {l:List UInt8} (h:l.length≤6):-6000000≤l.foldl dD 0∧l.foldl dD 0≤23000000:=by
 have h1:=KZ l;have h2:10^l.length≤10^6:=acE (by omega) h;have h3:(10:Int)^l.length=((10^l.length:Nat):Int):=by simp
 rw[h3] at h1;have h4:10^6=1000000:=by decide
 omega
theorem Al {l:List UInt8} {k:Nat} {x:UInt8} (h:l[k]?=some x) (n:Int):(l.take (k+1)).foldl dD n=10*(l.take k).foldl dD n+(x.toNat:Int)-48:=by
 rw[js h,List.foldl_append];rfl
theorem KY:eS (vI C1 Tryz.f201) 0 0 [(0,sS),(4,sI),(5,sI)] [(0,sS),(4,sI)] [] fun((s:ByteArray),(n:Int),(i:Int),_)=>
 .nd (∃k:Nat,i=k∧k≤s.size∧k≤6∧(s.data.toList.take k).foldl dD 0=n) (.lf (.out (s,(dJ s.data.toList).1,()))):=by
  refine eY _ (nL _ _) 99 0 0 [(0,sS),(4,sI),(5,sI)] [(0,sS),(4,sI)] [] (fun((s:ByteArray),(n:Int),(i:Int),_)=>.br (decide (i<s.size)) (.br (decide (i<6)) (.nd (cf (10*n)) (.nd (0≤i∧i<s.size) (.nd (cf (10*n+IntKind.i64.wrap (s.data.toList.getD i.toNat 0).toNat)) (.nd (cf (10*n+IntKind.i64.wrap (s.data.toList.getD i.toNat 0).toNat-48)) (.nd (cf (i+1)) (.lf (.back (s,10*n+IntKind.i64.wrap (s.data.toList.getD i.toNat 0).toNat-48,i+1,())))))))) (.lf (.out (s,n,())))) (.lf (.out (s,n,()))))
   (fun(_,_,(i:Int),_)=>6-i.toNat) ?_
  rintro⟨(s:ByteArray),n,i,_⟩ r _ ⟨⟨k,rfl,h1,h2,rfl⟩,rfl⟩;have bG:s.data.toList.length=s.size:=abM;by_cases hi:k<s.size
  ·by_cases h6:k<6
   ·have hx:s.data.toList[k]?=some (s.data.toList.getD k 0):=by
     rw[aai,aae (by omega)];rfl
    have hb:=zw (l:=s.data.toList.take k) (by rw[acb];omega);have cm:=zw (l:=s.data.toList.take (k+1)) (by rw[acb];omega);rw[Al hx] at cm;have hc:=(s.data.toList.getD k 0).toNat_lt;have hw:IntKind.i64.wrap ((s.data.toList.getD k 0).toNat:Int)=((s.data.toList.getD k 0).toNat:Int):=by rw[IntKind.wrap_i64];omega
    refine⟨_,aZ (decide_eq_true (by omega)) (aZ (decide_eq_true (by omega)) ⟨⟨by omega,by omega⟩,⟨by omega,by omega⟩,?_,?_,⟨by omega,by omega⟩,rfl⟩),?_,⟨k+1,rfl,by omega,by omega,?_⟩,rfl⟩
    ·show cf (_+IntKind.i64.wrap ((s.data.toList.getD k 0).toNat:Int));rw[hw];exact⟨by omega,by omega⟩
    ·show cf (_+IntKind.i64.wrap ((s.data.toList.getD k 0).toNat:Int)-48);rw[hw];exact⟨by omega,by omega⟩
    ·show 6-(k+1)<6-k;omega
    ·rw[Al hx];show _=_+IntKind.i64.wrap ((s.data.toList.getD k 0).toNat:Int)-48;rw[hw]
   ·obtain rfl:k=6:=by omega
    exact⟨_,aZ (decide_eq_true (by omega)) (bh (decide_eq_false (by omega)) rfl),rfl⟩
  ·refine⟨_,bh (decide_eq_false (by omega)) rfl,?_⟩;simp only[dJ,acx (show s.data.toList.length≤6 by omega),acx (show s.data.toList.length≤k by omega)]
theorem oZ:av Tryz.prog 201 false (aU [(0,sS)] fun((s:ByteArray),_)=>.nd (s.size≤9223372036854775807) (.lf (.tup [(false,[.sym (.int .i64 (dJ s.data.toList).1)]),(false,[.sym (.bool (dJ s.data.toList).2)])]))):=
 bC (C:=C1) ((nL _ _).add 0 _ KY) false 99 [(0,sS)] (fun((s:ByteArray),_)=>.nd (∃k:Nat,(0:Int)=k∧k≤s.size∧k≤6∧(s.data.toList.take k).foldl dD 0=0) (.nd (s.size≤9223372036854775807) (.lf (.tup [(false,[.sym (.int .i64 (dJ s.data.toList).1)]),(false,[.sym (.bool (kH s.data.toList))])]))))
  (fun⟨s,_⟩ r _ ⟨hs,h⟩=>⟨⟨⟨0,rfl,ab0 _,ab0 _,rfl⟩,hs,h⟩,.inr (by obtain rfl:=h;rfl)⟩) Tryz.func201
end Go.Proofs.YtdbpbfglhbiadaaGreatDoor
