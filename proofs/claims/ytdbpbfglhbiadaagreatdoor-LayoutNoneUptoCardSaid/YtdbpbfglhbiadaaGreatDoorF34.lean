/- Vld1 Ts5 La3 La4 La5 Smp3 La7 Tm2 Tm3 -/
import Derived.Test.YtdbpbfglhbiadaaGreatDoorF00
import Derived.Test.YtdbpbfglhbiadaaGreatDoorF31
import Derived.Lib.ItoaLen
import Derived.Test.YtdbpbfglhbiadaaGreatDoorF32
import Derived.Test.YtdbpbfglhbiadaaGreatDoorF33
import Derived.Test.YtdbpbfglhbiadaaGreatDoorF11
import Derived.Test.YtdbpbfglhbiadaaGreatDoorF18
set_option maxHeartbeats 8000000
set_option maxRecDepth 100000
namespace Go.Proofs.YtdbpbfglhbiadaaGreatDoor
open Go.RowKit Go
structure cf (e:aa):Prop where
 title:cZ e.title
 seed:cZ e.seed
 prec:∀s∈e.prec,cZ s
 cont:∀x∈e.cont,cZ x.name/\∀s∈x.cands,cZ s
 styl:∀x∈e.styl,cZ x.name
 len:e.cont.length+e.styl.length<=34359738368
theorem aY {s:ByteArray} (h:s.size<=1000):cZ s:=aao h (by omega)
theorem Eg {n:Int} (h:CZ n):cZ (o9 n):=by
 refine aY ?_;show(Lib.itoa n).toArray.size<=1000;rw[aa5];unfold Lib.itoa;obtain⟨h1,h2⟩:=h;split
 ·have:=Lib.nDigits_le20 n.natAbs (by omega);rw[aar,Lib.decDigits_length];omega
 ·have:=Lib.nDigits_le20 n.toNat (by omega);rw[Lib.decDigits_length];omega
theorem uX (k:ByteArray):∀s∈az k,s.size<=100:=by
 unfold az
 repeat' split
 all_goals decide
theorem zr (k:ByteArray) (n:Int):cZ (iF k n):=by
 refine aY ?_;unfold iF;split
 ·decide
 ·rw[aac];cases h:(az k)[n.toNat-1]? with
  | none=>decide
  | some s=>exact aao (uX k s (abL h)) (by omega)
theorem AR {fr:List ByteArray} (h:∀s∈fr,cZ s) (i:Int):cZ (nameAt fr i):=by
 unfold nameAt;split
 ·rw[aac];cases hh:fr[i.toNat]? with
  | none=>exact aY (by decide)
  | some s=>exact h s (abL hh)
 ·exact aY (by decide)
theorem qV {fr:List ByteArray} (h:∀s∈fr,cZ s) (idx:List Int):∀s∈cV idx fr,cZ s:=by
 intro s hs;obtain⟨i,_,rfl⟩:=acX.1 hs;exact AR h i
theorem tm {r:Raw} (h:r.short 67108864):cZ ⟨(gD r.q).toArray⟩:=by
 obtain⟨h1,h2⟩:=kZ h (by omega);have l1:=jY h1;have l2:=jY h2;show(gD r.q).toArray.size<=17592186044416;rw[aa5];unfold gD;rw[aaj,aaj];have l3:(if r.q.neg then[45] else([]:List UInt8)).length<=1:=by split<;>simp
 have l4:(if bj r.q.d=[49] then[] else 47::bj r.q.d).length<=1+(bj r.q.d).length:=by split<;>simp;omega
 omega
def vk (f:ao):Prop:=Ht f/\f.vals.length<=274877906944
theorem mg {k s:ByteArray} (hk:k.size<=1000) (hs:cZ s):vk ⟨k,[s],0⟩:=⟨⟨aY hk,by simpa using hs,by simp⟩,by simp⟩
theorem mZ {k:ByteArray} {l:List ByteArray} (hk:k.size<=1000) (hl:∀s∈l,cZ s) (hn:l.length<=274877906944):vk ⟨k,l,0⟩:=⟨⟨aY hk,hl,aao hn (by omega)⟩,hn⟩
theorem je {k:ByteArray} {n:Int} (hk:k.size<=1000) (h:CZ n):vk (fM k n):=mg hk (Eg h)
theorem sA {k:ByteArray} {n:Int} (hk:k.size<=1000):vk (iS k n):=mg hk (zr k n)
theorem eK {x:av} (hk:x.kind.size<=1000) (hn:cZ x.name) (hl:x.fields.length<=1000) (hf:∀f∈x.fields,vk f):gv x:=⟨aY hk,hn,aao hl (by omega),hf⟩
theorem zm {x:ae} (h:mS x) (hn:cZ x.name) (hc:∀s∈x.cands,cZ s):gv (eu x):=by
 obtain⟨h1,h2,h3,h4,h5,h6,h7,h8⟩:=h;refine eK (aaz rfl) hn ?_ ?_
 ·show([iS be x.method,fM bz x.seats,fM gg x.ranks]++(if x.method=2 then[fM aC x.digits] else[])++[iS gV x.ties,iS bV x.over,iS gW x.skip,(⟨ft,x.cands,0⟩:ao)]).length<=1000;split<;>simp
 ·intro f hf;have hf':f∈[iS be x.method,fM bz x.seats,fM gg x.ranks]++(if x.method=2 then[fM aC x.digits] else[])++[iS gV x.ties,iS bV x.over,iS gW x.skip,(⟨ft,x.cands,0⟩:ao)]:=hf;rcases aaH.1 hf' with hf'|hf'
  ·rcases aaH.1 hf' with hf'|hf'
   ·simp only[aas,aaC,or_false] at hf';rcases hf' with rfl|rfl|rfl
    ·exact sA (by decide)
    ·exact je (by decide) h2
    ·exact je (by decide) h3
   ·split at hf'
    ·simp only[aas,aaC,or_false] at hf';subst hf';exact je (by decide) h4
    ·cases hf'
  ·simp only[aas,aaC,or_false] at hf';rcases hf' with rfl|rfl|rfl|rfl
   ·exact sA (by decide)
   ·exact sA (by decide)
   ·exact sA (by decide)
   ·exact mZ (by decide) hc h8
theorem tp {prec conts:List ByteArray} {x:ai} (hx:x.prec.length<=274877906944/\x.cont.length<=274877906944) (hn:cZ x.name) (hp:∀s∈prec,cZ s) (hc:∀s∈conts,cZ s):gv (eG prec conts x):=by
 refine eK (aaz rfl) hn (by simp[eG]) ?_;intro f hf;have hf':f∈[(⟨af,cV x.prec prec,0⟩:ao),⟨ax,cV x.cont conts,0⟩]:=hf;simp only[aas,aaC,or_false] at hf';rcases hf' with rfl|rfl
 ·exact mZ (by decide) (qV hp _) (by unfold cV;rw[abm];exact hx.1)
 ·exact mZ (by decide) (qV hc _) (by unfold cV;rw[abm];exact hx.2)
theorem Ll {e:aa} (h:du e) (hs:cf e):CC (dY e):=by
 refine⟨hs.title,?_,λx hx=>?_⟩
 ·have:=hs.len;simp only[dY,aaj,abm,aar,aa1];omega
 ·have hx':x∈([(⟨bR,⟨#[]⟩,[fM il e.dots,fM ct e.blank,fM bF e.marked],0⟩:av),⟨aO,⟨#[]⟩,[fM fq e.scan,fM fu e.batch],0⟩,⟨af,⟨#[]⟩,[⟨ed,e.prec,0⟩],0⟩]
   ++e.cont.map eu++e.styl.map (eG e.prec (e.cont.map (·.name)))
   ++[⟨bG,⟨#[]⟩,[⟨dP,[⟨(gD e.risk.q).toArray⟩],0⟩,⟨gm,[e.seed],0⟩],0⟩,⟨bo,⟨#[]⟩,[fM im e.cell],0⟩]):=hx
  rcases aaH.1 hx' with hx'|hx'
  ·rcases aaH.1 hx' with hx'|hx'
   ·rcases aaH.1 hx' with hx'|hx'
    ·simp only[aas,aaC,or_false] at hx';rcases hx' with rfl|rfl|rfl
     ·refine eK (aaz rfl) (aY (aaz rfl)) (by simp) λf hf=>?_;simp only[aas,aaC,or_false] at hf;rcases hf with rfl|rfl|rfl
      ·exact je (by decide) h.dots
      ·exact je (by decide) h.blank
      ·exact je (by decide) h.marked
     ·refine eK (aaz rfl) (aY (aaz rfl)) (by simp) λf hf=>?_;simp only[aas,aaC,or_false] at hf;rcases hf with rfl|rfl
      ·exact je (by decide) h.scan
      ·exact je (by decide) h.batch
     ·refine eK (aaz rfl) (aY (aaz rfl)) (by simp) λf hf=>?_;simp only[aas,aaC,or_false] at hf;subst hf;exact mZ (by decide) hs.prec h.lp
    ·obtain⟨c,hc,rfl⟩:=acX.1 hx';exact zm (h.conts c hc) (hs.cont c hc).1 (hs.cont c hc).2
   ·obtain⟨c,hc,rfl⟩:=acX.1 hx';refine tp (h.styls c hc) (hs.styl c hc) hs.prec λs Xq=>?_;obtain⟨d,hd,rfl⟩:=acX.1 Xq;exact(hs.cont d hd).1
  ·simp only[aas,aaC,or_false] at hx';rcases hx' with rfl|rfl
   ·refine eK (aaz rfl) (aY (aaz rfl)) (by simp) λf hf=>?_;simp only[aas,aaC,or_false] at hf;rcases hf with rfl|rfl
    ·exact mg (by decide) (tm h.short)
    ·exact mg (by decide) hs.seed
   ·refine eK (aaz rfl) (aY (aaz rfl)) (by simp) λf hf=>?_;simp only[aas,aaC,or_false] at hf;subst hf;exact je (by decide) h.cell
def mP (v:aF):Prop:=v.risk.short 2
theorem AA (l:List UInt8) (r:Raw) (h:(gQ l).2=some r):r.short 2:=by
 unfold gQ at h;split at h
 ·cases h
 split at h
 ·cases h
 ·injection h with h
  subst h;have h1:=gy (dn l);have h2:=gy (cY l);exact wS _ _ _ (by omega) (by omega)
theorem IP {key s:ByteArray} {v:aF} (h:mP v):mP (tN key s v).2:=by
 unfold tN;split
 ·exact h
 split
 ·show mP (v.withRisk _);unfold aF.withRisk;split
  ·exact h
  ·rename_i r hr;exact AA _ r hr
 split
 ·split
  ·exact h
  ·exact h
 split
 ·exact h
 split
 ·exact h
 ·exact h
theorem tH {kind:ByteArray} {f:ao} {v:aF} (h:mP v):mP (bN kind f v).2:=by
 unfold bN;split
 ·exact h
 split
 ·exact h
 split
 ·exact h
 split
 ·exact h
 ·exact IP h
theorem qU {kind:ByteArray}:∀{fs:List ao} {v:aF},mP v->mP (dM kind fs v).2
 | [],v,h=>h
 | f::l,v,h=>by
  unfold dM;split
  ·exact tH h
  ·exact qU (tH h)
theorem rK {x:av} {b:cm} (h:b.e.risk.short 2):(fw x b).2.e.risk.short 2:=by
 have hz:mP aF.zero:=⟨aaS _,aaS _⟩;unfold fw;split
 ·exact h
 split
 ·exact h
 split
 ·exact h
 ·show(aV x.kind x.name (dM x.kind x.fields aF.zero).2 (b.named x.kind x.name)).e.risk.short 2;have hr:(dM x.kind x.fields aF.zero).2.risk.short 2:=qU hz;unfold aV
  repeat' split
  all_goals first|exact h|exact hr
theorem pJ:∀{l:List av} {b:cm},b.e.risk.short 2->(ck l b).2.e.risk.short 2
 | [],b,h=>h
 | x::l,b,h=>by
  unfold ck;split
  ·exact rK h
  ·exact pJ (rK h)
theorem uV (s:bP):(bY s).1.risk.short 67108864:=by
 have hz:aa.zero.risk.short 67108864:=⟨aaS _,aaS _⟩;unfold bY;split
 ·exact hz
 split
 ·exact hz
 split
 ·exact hz
 split
 ·exact hz
 ·have:(ck s.blocks (cm.start s.title)).2.e.risk.short 2:=pJ ⟨aaS _,aaS _⟩;exact⟨aao this.1 (by omega),aao this.2 (by omega)⟩
theorem DR:au Tryz.prog 43 false (aD [(0,.st 8)] λ((x:Raw),_)=>.nd (x.short 536870912) (.lf (aB x.valid))):=
 fK λw S x vs r hS he hl hr=>by
  obtain⟨(x:Raw),_⟩:=x;obtain⟨v,h1,h2⟩:=he 0 (.agg (jV (.st 8) x)) aah;obtain⟨a1,rfl⟩:=hr
  match vs,hl,h1 with
  | [u],_,h1=>
   injection h1 with h1
   subst h1;exact Calls.mono (H9 (E6 h2) hS a1) λe w' h=>⟨_,λ_=>False,h.1,h.2,λ_ q=>q.elim,rfl,rfl⟩
noncomputable def Cs5:gb Tryz.prog:=ci z8 [⟨_,_,_,Ai⟩,⟨_,_,_,JV⟩,⟨_,_,_,DR⟩,⟨_,_,_,JA⟩] []
def vpT (e:aa) (q:aa×dH):T XV:=.nd (du e) (.nd (CC (dY e)) (J9 (.lf (aB false)) [q.2.no==0] (.nd (e.risk.short 536870912) (J9 (.lf (aB false)) [e.risk.valid] (.nd (q.1.risk.short 67108864/\e.risk.short 67108864) (.lf (aB (jz q.1 e))))))))
theorem Dm:au Tryz.prog 15 false (aD [(0,.st 5)] λ((e:aa),_)=>.nd (du e/\cf e) (.lf (aB (fp e)))):=
 bg (C:=Cs5) (nL _ _) false 99 [(0,.st 5)] (λ((e:aa),_)=>vpT e (bY (dY e)))
  (λ⟨(e:aa),_⟩ r _ ⟨⟨h1,h2⟩,h⟩=>by
   obtain rfl:aB (fp e)=r:=h;refine⟨?_,.inr rfl⟩;have e0:fp e=([(bY (dY e)).2.no==0].all id&&([e.risk.valid].all id&&jz (bY (dY e)).1 e)):=by
    unfold fp;rw[ac9,ad8,Bool.and_true,ac9,ad8,Bool.and_true];rfl
   rw[e0];refine⟨h1,Ll h1 h2,pQ (ret:=.lf (aB false)) (r:=aB) rfl _ λ_=>⟨⟨aao h1.short.1 (by decide),aao h1.short.2 (by decide)⟩,?_⟩⟩;exact pQ (ret:=.lf (aB false)) (t:=.nd ((bY (dY e)).1.risk.short 67108864/\e.risk.short 67108864) (.lf (aB (jz (bY (dY e)).1 e)))) (r:=aB) rfl _ λ_=>⟨⟨uV _,h1.short⟩,rfl⟩) Tryz.func15
noncomputable abbrev shF:=Tryz.f67
noncomputable def oQ (t:TypeId):Option Ty:=List.lookup t [(128,.st 23),(60,.st 18)]
noncomputable def Csh:gb Tryz.prog:=ci oQ [⟨_,_,_,LS⟩,⟨_,_,_,Lb⟩,⟨_,_,_,Dm⟩] []
noncomputable abbrev VH:Rg Tryz.prog shF.ntmps:=vE Csh shF
abbrev shC:List CS:=[.d tI,.d tI,.d tI,.d tI,.d tI,.own (.st 18) 60,.d tI,.d tI]
abbrev adF:List CS:=[.d .str,.d (.list .str),.d tI,.d tI,.d tI,.d tI,.d tI,.d tI,.d tI]
abbrev lH:=dZ shC
abbrev Hw:=dZ adF
abbrev ZJ:SS:=.box 128 shC
abbrev sCo:SS:=.box 87 adF
def lH.d (s:lH):Int:=s.2.2.2.2.1
def lH.ts (s:lH):List ew:=s.2.2.2.2.2.1
def lH.rows (s:lH):Int:=s.2.2.2.2.2.2.1
def lH.cols (s:lH):Int:=s.2.2.2.2.2.2.2.1
def lH.put (s:lH) (ts:List ew) (rows cols:Int):lH:=(s.1,s.2.1,s.2.2.1,s.2.2.2.1,s.d,ts,rows,cols,())
def Hw.ranks (c:Hw):Int:=c.2.2.2.2.1
def PF (d k ca r row:Int):ew:=(k,ca,r,3+2*d*(2+r),3+2*d*row,())
def tl (d k ca row:Int):Nat->Int->List ew
 | 0,_=>[]
 | n+1,r=>PF d k ca r row::tl d k ca row n (r+1)
theorem tj (d k ca row:Int):∀(n:Nat) (r:Int),(tl d k ca row n r).length=n
 | 0,_=>rfl
 | n+1,r=>by rw[tl,aar,tj]
abbrev VJ:List (Nat×SS):=[(2,PG),(7,ZJ),(9,sI),(10,sCo),(40,FI),(41,sI),(42,sI),(64,sI),(65,sI)]
abbrev VK:List (Nat×SS):=[(2,PG),(7,ZJ),(9,sI),(10,sCo),(11,sI),(40,FI),(41,sI),(42,sI),(64,sI),(65,sI),(76,sI),(77,sI)]
abbrev TI:=LE VK VJ []
def aaT (d n:Int) (t:T TI):T TI:=.nd (0<=d/\d<=1000/\0<=n/\n<=1000) t
def VI (e:mN) (s:lH) (k:Int) (c:Hw) (ca:Int) (l:List Int) (n i m j q r:Int):T TI:=.br (decide (r<q)) (.nd (bX (2+r)) (aaT s.d (2+r) (aaT s.d s.rows (.nd ((s.ts.length+1)*41<=140737488355328) (.nd (bX (r+1)) (.lf (.back (e,s.put (PF s.d k ca r s.rows::s.ts) s.rows s.cols,k,c,ca,l,n,i,m,j,q,r+1,())))))))) (.lf (.out (e,s,k,c,l,n,i,m,j,())))
def aaU (s:lH) (q r:Int):Prop:=0<=r/\r<=q/\q<=7/\(0<=s.d/\s.d<=7)/\(0<=s.rows/\s.rows<=900)/\(s.ts.length:Int)+(q-r)<=100000
def oa (e:mN) (s:lH) (k:Int) (c:Hw) (ca:Int) (l:List Int) (n i m j q r:Int):TI:=.out (e,s.put ((tl s.d k ca s.rows (q-r).toNat r).reverse++s.ts) s.rows s.cols,k,c,l,n,i,m,j,())
theorem Lt:eD VH 2 4 VK VJ [] λ((e:mN),(s:lH),(k:Int),(c:Hw),(ca:Int),(l:List Int),(n:Int),(i:Int),(m:Int),(j:Int),(q:Int),(r:Int),_)=>.nd (aaU s q r) (.lf (oa e s k c ca l n i m j q r)):=by
 refine eI _ (nL _ _) 99 2 4 VK VJ [] (λ((e:mN),(s:lH),(k:Int),(c:Hw),(ca:Int),(l:List Int),(n:Int),(i:Int),(m:Int),(j:Int),(q:Int),(r:Int),_)=>VI e s k c ca l n i m j q r) (λ(_,_,_,_,_,_,_,_,_,_,(q:Int),(r:Int),_)=>(q-r).toNat) ?_;rintro⟨(e:mN),(s:lH),(k:Int),(c:Hw),(ca:Int),(l:List Int),(n:Int),(i:Int),(m:Int),(j:Int),(q:Int),(r:Int),_⟩ x _ ⟨⟨h0,h1,h2,h3,h4,h5⟩,hr⟩;obtain rfl:oa e s k c ca l n i m j q r=x:=hr;show∃z,(VI e s k c ca l n i m j q r).hit z/\_;unfold VI;by_cases hk:r<q
 ·refine⟨.back (e,s.put (PF s.d k ca r s.rows::s.ts) s.rows s.cols,k,c,ca,l,n,i,m,j,q,r+1,()),aH (decide_eq_true hk) ⟨⟨by omega,by omega⟩,⟨by omega,by omega,by omega,by omega⟩,⟨by omega,by omega,by omega,by omega⟩,by omega,⟨by omega,by omega⟩,rfl⟩,?_,⟨by omega,by omega,h2,h3,h4,?_⟩,?_⟩
  ·show(q-(r+1)).toNat<(q-r).toNat;omega
  ·show((s.ts.length+1:Nat):Int)+(q-(r+1))<=100000;omega
  ·show oa e (s.put (PF s.d k ca r s.rows::s.ts) s.rows s.cols) k c ca l n i m j q (r+1)=oa e s k c ca l n i m j q r;unfold oa;rw[show(q-r).toNat=(q-(r+1)).toNat+1 by omega,tl,abc,aaR];rfl
 ·refine⟨.out (e,s,k,c,l,n,i,m,j,()),aP (decide_eq_false hk) rfl,?_⟩;show _=oa e s k c ca l n i m j q r;unfold oa;rw[show(q-r).toNat=0 by omega];rfl
def lG (d k q:Int):Nat->Int->Int->List ew
 | 0,_,_=>[]
 | n+1,j,row=>tl d k j (row+1) q.toNat 0++lG d k q n (j+1) (row+1)
abbrev VN:List (Nat×SS):=[(2,PG),(7,ZJ),(9,sI),(10,sCo),(40,FI),(41,sI),(42,sI),(64,sI),(65,sI)]
abbrev VM:List (Nat×SS):=[(2,PG),(7,ZJ),(40,FI),(41,sI),(42,sI)]
abbrev Zk:=LE VN VM []
def lH.row1 (s:lH) (k j q:Int):lH:=s.put ((tl s.d k j (s.rows+1) (q-0).toNat 0).reverse++s.ts) (s.rows+1) s.cols
def VL (e:mN) (s:lH) (k:Int) (c:Hw) (l:List Int) (n i m j:Int):T Zk:=.br (decide (j<m)) (.nd (bX (s.rows+1)) (.nd (aaU (s.put s.ts (s.rows+1) s.cols) c.ranks 0) (.nd (bX (j+1)) (.lf (.back (e,s.row1 k j c.ranks,k,c,l,n,i,m,j+1,())))))) (.lf (.out (e,s,l,n,i,())))
def aaW (s:lH) (c:Hw) (m j:Int):Prop:=0<=j/\j<=m/\m<=7/\(0<=c.ranks/\c.ranks<=7)/\(0<=s.d/\s.d<=7)/\(0<=s.rows/\s.rows+(m-j)<=900)/\(s.ts.length:Int)+7*(m-j)<=10000
def oc (e:mN) (s:lH) (k:Int) (c:Hw) (l:List Int) (n i m j:Int):Zk:=.out (e,s.put ((lG s.d k c.ranks (m-j).toNat j s.rows).reverse++s.ts) (s.rows+(m-j)) s.cols,l,n,i,())
theorem Lu:eD VH 1 2 VN VM [] λ((e:mN),(s:lH),(k:Int),(c:Hw),(l:List Int),(n:Int),(i:Int),(m:Int),(j:Int),_)=>.nd (aaW s c m j) (.lf (oc e s k c l n i m j)):=by
 refine eI _ ((nL _ _).add 2 _ Lt) 99 1 2 VN VM [] (λ((e:mN),(s:lH),(k:Int),(c:Hw),(l:List Int),(n:Int),(i:Int),(m:Int),(j:Int),_)=>VL e s k c l n i m j) (λ(_,_,_,_,_,_,_,(m:Int),(j:Int),_)=>(m-j).toNat) ?_;rintro⟨(e:mN),(s:lH),(k:Int),(c:Hw),(l:List Int),(n:Int),(i:Int),(m:Int),(j:Int),_⟩ x _ ⟨⟨h0,h1,h2,h3,h4,h5,h6⟩,hr⟩;obtain rfl:oc e s k c l n i m j=x:=hr;show∃z,(VL e s k c l n i m j).hit z/\_;unfold VL;have bm:=tj s.d k j (s.rows+1) c.ranks.toNat 0;by_cases hk:j<m
 ·refine⟨.back (e,s.row1 k j c.ranks,k,c,l,n,i,m,j+1,()),aH (decide_eq_true hk) ⟨⟨by omega,by omega⟩,⟨by omega,h3.1,h3.2,h4,?_,?_⟩,⟨by omega,by omega⟩,rfl⟩,?_,⟨by omega,by omega,h2,h3,h4,?_,?_⟩,?_⟩
  ·show 0<=s.rows+1/\s.rows+1<=900;omega
  ·show(s.ts.length:Int)+(c.ranks-0)<=100000;omega
  ·show(m-(j+1)).toNat<(m-j).toNat;omega
  ·show 0<=s.rows+1/\s.rows+1+(m-(j+1))<=900;omega
  ·show((((tl s.d k j (s.rows+1) (c.ranks-0).toNat 0).reverse++s.ts).length:Nat):Int)+7*(m-(j+1))<=10000;rw[aaj,aak,Int.sub_zero,bm];omega
  ·show oc e (s.row1 k j c.ranks) k c l n i m (j+1)=oc e s k c l n i m j;unfold oc;rw[show(m-j).toNat=(m-(j+1)).toNat+1 by omega,lG,List.reverse_append,aaR];show(LE.out (e,s.put ((lG s.d k c.ranks (m-(j+1)).toNat (j+1) (s.rows+1)).reverse++((tl s.d k j (s.rows+1) (c.ranks-0).toNat 0).reverse++s.ts)) (s.rows+1+(m-(j+1))) s.cols,l,n,i,()):Zk)=_;rw[Int.sub_zero,show s.rows+1+(m-(j+1))=s.rows+(m-j) by omega]
 ·refine⟨.out (e,s,l,n,i,()),aP (decide_eq_false hk) rfl,?_⟩;show _=oc e s k c l n i m j;unfold oc;rw[show m-j=0 by omega,Int.add_zero];rfl
theorem nj (d k q:Int):∀(n:Nat) (j row:Int),(lG d k q n j row).length=n*q.toNat
 | 0,_,_=>by rw[aej];rfl
 | n+1,j,row=>by rw[lG,aaj,tj,nj,Nat.succ_mul,ad7]
def ajh (x:ae):Hw:=(x.name,x.cands,x.method,x.seats,x.ranks,x.digits,x.ties,x.over,x.skip,())
def mN.co (e:mN):List ae:=e.2.2.2.2.2.1
def vF (c v:Int):Int:=if v>c then v else c
def i6 (cs:List ae) (d:Int):List Int->Int->List ew
 | [],_=>[]
 | k::ks,row=>lG d k (cs.getD k.toNat ae.z0).ranks (cs.getD k.toNat ae.z0).cands.length 0 row++i6 cs d ks (row+(cs.getD k.toNat ae.z0).cands.length+1)
def fI (cs:List ae):List Int->Int->Int
 | [],row=>row
 | k::ks,row=>fI cs ks (row+(cs.getD k.toNat ae.z0).cands.length+1)
def gp (cs:List ae):List Int->Int->Int
 | [],c=>c
 | k::ks,c=>gp cs ks (vF c (2+(cs.getD k.toNat ae.z0).ranks))
abbrev VQ:List (Nat×SS):=[(2,PG),(7,ZJ),(40,FI),(41,sI),(42,sI)]
abbrev VP:List (Nat×SS):=[(2,PG),(7,ZJ)]
abbrev Pn:=LE VQ VP []
def lH.mid (s:lH) (k:Int) (x:ae):lH:=s.put ((lG s.d k x.ranks ((x.cands.length:Int)-0).toNat 0 s.rows).reverse++s.ts) (s.rows+((x.cands.length:Int)-0)+1) (vF s.cols (2+x.ranks))
def af6 (e:mN) (s:lH) (l:List Int) (n i k:Int) (x:ae):T Pn:=.nd (bX (2+x.ranks)) (.nd (aaW (s.put s.ts s.rows (vF s.cols (2+x.ranks))) (ajh x) x.cands.length 0) (.nd (bX (s.rows+((x.cands.length:Int)-0)+1)) (.nd (bX (i+1)) (.lf (.back (e,s.mid k x,l,n,i+1,()))))))
def aaY (e:mN) (s:lH) (l:List Int) (n i k:Int):T Pn:=.nd (0<=k/\k<e.co.length) (af6 e s l n i k (e.co.getD k.toNat ae.z0))
def VO (e:mN) (s:lH) (l:List Int) (n i:Int):T Pn:=.br (decide (i<n)) (.nd (0<=i/\i<l.length) (aaY e s l n i (l.getD i.toNat 0))) (.lf (.out (e,s,())))
def CL (x:ae):Prop:=(1<=x.ranks/\x.ranks<=7)/\1<=x.cands.length/\x.cands.length<=7
def aaX (e:mN) (s:lH) (l:List Int) (n i:Int):Prop:=0<=i/\i<=l.length/\n=l.length/\l.length<=4/\(∀k∈l,0<=k/\k<e.co.length)/\(∀x∈e.co,CL x)/\(0<=s.d/\s.d<=7)/\(0<=s.rows/\s.rows+8*(l.length-i)<=100)/\(s.ts.length:Int)+49*(l.length-i)<=1000
def od (e:mN) (s:lH) (l:List Int) (i:Nat):Pn:=.out (e,s.put ((i6 e.co s.d (l.drop i) s.rows).reverse++s.ts) (fI e.co (l.drop i) s.rows) (gp e.co (l.drop i) s.cols),())
theorem VG:eD VH 0 0 VQ VP [] λ((e:mN),(s:lH),(l:List Int),(n:Int),(i:Int),_)=>.nd (aaX e s l n i) (.lf (od e s l i.toNat)):=by
 refine eI _ ((nL _ _).add 1 _ Lu) 99 0 0 VQ VP [] (λ((e:mN),(s:lH),(l:List Int),(n:Int),(i:Int),_)=>VO e s l n i) (λ(_,_,(l:List Int),_,(i:Int),_)=>l.length-i.toNat) ?_;rintro⟨(e:mN),(s:lH),(l:List Int),(n:Int),(i:Int),_⟩ x _ ⟨⟨h0,h1,rfl,h2,h3,h4,h5,h6,h7⟩,hr⟩;obtain⟨k,rfl⟩:∃k:Nat,i=k:=⟨i.toNat,by omega⟩;obtain rfl:od e s l k=x:=hr;show∃z,(VO e s l l.length k).hit z/\_;unfold VO;rw[aae];by_cases hk:k<l.length
 ·obtain⟨c,hc⟩:∃c,l.getD k 0=c:=⟨_,rfl⟩;have UW:=h3 c (by rw[<-hc,aac,aaa hk];exact aaG hk);have hdr:=getD_drop (0:Int) hk;rw[hc] at hdr ⊢;unfold aaY;obtain⟨y,hy⟩:∃y,e.co.getD c.toNat ae.z0=y:=⟨_,rfl⟩;have hyb:=h4 y (by rw[<-hy,aac,aaa (by omega)];exact aaG _);rw[hy];have bm:=nj s.d c y.ranks y.cands.length 0 s.rows;have hq:y.cands.length*y.ranks.toNat<=7*7:=Nat.mul_le_mul hyb.2.2 (by have:=hyb.1.2;omega);obtain⟨⟨g1,g2⟩,g3,g4⟩:=hyb;refine⟨.back (e,s.mid c y,l,(l.length:Int),(k:Int)+1,()),aH (decide_eq_true (by omega)) ⟨⟨by omega,by omega⟩,UW,⟨by omega,by omega⟩,⟨by omega,by omega,by omega,⟨?_,?_⟩,h5,?_,?_⟩,⟨by omega,by omega⟩,⟨by omega,by omega⟩,rfl⟩,?_,⟨by omega,by omega,rfl,h2,h3,h4,h5,?_,?_⟩,?_⟩
  ·show 0<=y.ranks;omega
  ·show y.ranks<=7;omega
  ·show 0<=s.rows/\s.rows+((y.cands.length:Int)-0)<=900;omega
  ·show(s.ts.length:Int)+7*((y.cands.length:Int)-0)<=10000;omega
  ·show l.length-(k+1)<l.length-k;omega
  ·show 0<=s.rows+((y.cands.length:Int)-0)+1/\s.rows+((y.cands.length:Int)-0)+1+8*(l.length-((k:Int)+1))<=100;omega
  ·show((((lG s.d c y.ranks ((y.cands.length:Int)-0).toNat 0 s.rows).reverse++s.ts).length:Nat):Int)+49*(l.length-((k:Int)+1))<=1000;rw[aaj,aak,Int.sub_zero,aae,bm];omega
  ·show od e (s.mid c y) l (k+1)=od e s l k;unfold od;rw[hdr,i6,fI,gp,hy,List.reverse_append,aaR];show(LE.out (e,s.put ((i6 e.co s.d (l.drop (k+1)) (s.rows+((y.cands.length:Int)-0)+1)).reverse++((lG s.d c y.ranks ((y.cands.length:Int)-0).toNat 0 s.rows).reverse++s.ts)) (fI e.co (l.drop (k+1)) (s.rows+((y.cands.length:Int)-0)+1)) (gp e.co (l.drop (k+1)) (vF s.cols (2+y.ranks))),()):Pn)=_;rw[Int.sub_zero,aae]
 ·refine⟨.out (e,s,()),aP (decide_eq_false (by omega)) rfl,?_⟩;show _=od e s l k;unfold od;rw[aaq (by omega)];rfl
def zeO (e:aa):mN:=(e.title,e.dots,e.blank,e.marked,e.prec,e.cont,e.styl,e.scan,e.batch,e.risk.neg,e.risk.num,e.risk.den,e.cell,e.seed,())
def vT (n:Int):XV:=.tup [(false,[.val (.pointer none)]),(false,[.sym (.int .i64 n)])]
def FH (x:TH):XV:=.tup [(false,[.ref (.st 23) x 0]),(false,[.sym (.int .i64 0)])]
def af5 (e:aa) (p st:Int):lH:=(p,st,(0:Int),(0:Int),e.dots,([]:List ew),(0:Int),(7:Int),())
def aaV (p st d rows cols:Int) (ts:List ew):TH:=(p,st,6+2*d*cols,6+2*d*(rows+1),d,ts,rows,cols,())
def shD (p st d rows cols:Int) (ts:List ew):T XV:=.nd (bX (2*d)) (.nd (bX (2*d*cols)) (.nd (bX (6+2*d*cols)) (.nd (bX (2*d)) (.nd (bX (rows+1)) (.nd (bX (2*d*(rows+1))) (.nd (bX (6+2*d*(rows+1))) (.lf (FH (aaV p st d rows cols ts)))))))))
def shB (e:aa) (p st:Int) (ks:List Int):T XV:=.nd (aaX (zeO e) (af5 e p st) ks ks.length 0) (shD p st e.dots (fI e.cont (ks.drop (Int.toNat 0)) 0) (gp e.cont (ks.drop (Int.toNat 0)) 7) ((i6 e.cont e.dots (ks.drop (Int.toNat 0)) 0).reverse++[]).reverse)
def shA (e:aa) (p st:Int):T XV:=.nd (0<=st/\st<e.styl.length) (shB e p st (e.styl.getD st.toNat ai.z0).cont)
def Uf (e:aa) (p:Int):T XV:=.nd (du e/\cf e) (.br (!fp e) (.lf (vT 8)) (.br (decide (p<0)) (.lf (vT 4)) (.br (decide (p>=e.prec.length)) (.lf (vT 4)) (.nd (Ds e.styl e.styl.length 0) (shA e p (iI p e.styl 0))))))
theorem Iq:au Tryz.prog 67 true (aD [(0,.st 5),(1,sI)] λ((e:aa),(p:Int),_)=>Uf e p):=
 bg (C:=Csh) ((((nL _ _).add 2 _ Lt).add 1 _ Lu).add 0 _ VG) true 99 [(0,.st 5),(1,sI)] (λ((e:aa),(p:Int),_)=>Uf e p) (λ_ _ _ h=>⟨h,.inl rfl⟩) Tryz.func67
def dA (e:aa) (p:Int):List Int:=(e.styl.getD (iI p e.styl 0).toNat ai.z0).cont
def j7 (e:aa) (p:Int):TH:=aaV p (iI p e.styl 0) e.dots (fI e.cont (dA e p) 0) (gp e.cont (dA e p) 7) (i6 e.cont e.dots (dA e p) 0)
theorem z9:∀{l:List ai} {p:Int} {i:Nat},(∃s∈l,p∈s.prec)->(i:Int)<=iI p l i/\iI p l i<(i+l.length:Nat)
 | [],_,_,⟨_,h,_⟩=>by cases h
 | s::l,p,i,⟨t,ht,hp⟩=>by
  unfold iI;rw[aar];by_cases h:p∈s.prec
  ·rw[if_pos h];omega
  ·rw[if_neg h];rcases aas.1 ht with rfl|ht
   ·exact absurd hp h
   ·have:=z9 (i:=i+1) ⟨t,ht,hp⟩;omega
theorem pF {e:aa} (h:vA e):∀x∈e.cont,CL x:=λx hx=>⟨(h.cont x hx).ranks,(h.cont x hx).cands⟩
theorem tC {cs:List ae} (hc:∀x∈cs,CL x):∀{ks:List Int} {row:Int},(∀k∈ks,0<=k/\k<cs.length)->row<=fI cs ks row/\fI cs ks row<=row+8*ks.length
 | [],row,_=>⟨Int.le_refl _,by simp[fI]⟩
 | k::ks,row,h=>by
  have hk:=h k aah;have hx:=hc (cs.getD k.toNat ae.z0) (by rw[aac,aaa (by omega)];exact aaG _);have ih:=tC hc (ks:=ks) (row:=row+(cs.getD k.toNat ae.z0).cands.length+1) λk' kC=>h k' (aap _ kC);have:=hx.2;rw[fI,aar];omega
theorem Wv {c v:Int} (h1:7<=c/\c<=9) (h2:v<=9):7<=vF c v/\vF c v<=9:=by unfold vF;split<;>omega
theorem uW {cs:List ae} (hc:∀x∈cs,CL x):∀{ks:List Int} {c:Int},(∀k∈ks,0<=k/\k<cs.length)->7<=c/\c<=9->7<=gp cs ks c/\gp cs ks c<=9
 | [],c,_,h=>h
 | k::ks,c,h,h1=>by
  have hk:=h k aah;have hx:=hc (cs.getD k.toNat ae.z0) (by rw[aac,aaa (by omega)];exact aaG _);rw[gp];exact uW hc (λk' kC=>h k' (aap _ kC)) (Wv h1 (by have:=hx.1.2;omega))
theorem yb {e:aa} (hf:vA e) {p:Int} (h0:0<=p) (h1:p<e.prec.length):(0<=iI p e.styl 0/\iI p e.styl 0<e.styl.length)/\Pk e.prec.length e.cont.length (e.styl.getD (iI p e.styl 0).toNat ai.z0):=by
 have h2:=z9 (l:=e.styl) (p:=p) (i:=0) (by
  obtain⟨s,hs,hp⟩:=hf.has p.toNat (by omega);exact⟨s,hs,by rwa [show((p.toNat:Nat):Int)=p by omega] at hp⟩)
 rw[aa6] at h2;have h2:0<=iI p e.styl 0/\iI p e.styl 0<e.styl.length:=h2;refine⟨h2,hf.styl.each _ ?_⟩;rw[aac,aaa (by omega)];exact aaG _
theorem Qp {e:aa} (h:du e):Ds e.styl e.styl.length 0:=⟨by omega,by omega,rfl,by have:=h.ls;omega,λs hs=>by have:=(h.styls s hs).1;omega⟩
def shG (e:aa) (p:Int):T XV:=.nd (du e/\cf e) (.br (!fp e) (.lf (vT 8)) (.br (decide (p<0)) (.lf (vT 4)) (.br (decide (p>=e.prec.length)) (.lf (vT 4)) (.lf (FH (j7 e p))))))
theorem abD {a b:Int} (ha:0<=a/\a<=14) (hb:0<=b/\b<=1000):0<=a*b/\a*b<=14*1000:=⟨Int.mul_nonneg ha.1 hb.1,Int.mul_le_mul ha.2 hb.2 hb.1 (by omega)⟩
theorem Ak:au Tryz.prog 67 true (aD [(0,.st 5),(1,sI)] λ((e:aa),(p:Int),_)=>shG e p):=
 Iq.imp λ⟨(e:aa),(p:Int),_⟩ r hr=>by
  obtain⟨h0,h⟩:=hr;have h:(T.br (!fp e) (.lf (vT 8)) (.br (decide (p<0)) (.lf (vT 4)) (.br (decide (p>=e.prec.length)) (.lf (vT 4)) (.lf (FH (j7 e p)))))).hit r:=h;refine⟨r,⟨h0,?_⟩,λ_ _ _ hv=>hv⟩;rcases hB h with⟨b1,h⟩|⟨b1,h⟩
  ·exact aH b1 h
  refine aP b1 ?_;rcases hB h with⟨b2,h⟩|⟨b2,h⟩
  ·exact aH b2 h
  refine aP b2 ?_;rcases hB h with⟨b3,h⟩|⟨b3,h⟩
  ·exact aH b3 h
  refine aP b3 ⟨Qp h0.1,?_⟩;obtain rfl:FH (j7 e p)=r:=h;have hf:=Ft (show fp e=true by simpa using b1);have h2:0<=p:=by simpa using b2
  have h3:p<e.prec.length:=by simpa using b3
  obtain⟨hs,hy⟩:=yb hf h2 h3;have hc:=pF hf;have hr:=tC hc (row:=0) hy.cont;have hw:=uW hc (c:=7) hy.cont (by omega);have hl:=hy.lcont;have hd:=hf.dots;refine⟨hs,⟨by omega,by omega,rfl,hl.2,hy.cont,hc,(show 0<=e.dots/\e.dots<=7 by omega),?_,?_⟩,?_⟩
  ·show(0:Int)<=0/\(0:Int)+8*(((e.styl.getD (iI p e.styl 0).toNat ai.z0).cont.length:Int)-0)<=100;omega
  ·show((([]:List ew).length:Nat):Int)+49*(((e.styl.getD (iI p e.styl 0).toNat ai.z0).cont.length:Int)-0)<=1000;rw[aa1];omega
  ·unfold j7;show(shD p (iI p e.styl 0) e.dots (fI e.cont (dA e p) 0) (gp e.cont (dA e p) 7) ((i6 e.cont e.dots (dA e p) 0).reverse++[]).reverse).hit _;rw[ack,aag];have hr:0<=fI e.cont (dA e p) 0/\fI e.cont (dA e p) 0<=0+8*(dA e p).length:=hr;have hl:(dA e p).length<=4:=hl.2;have hw:7<=gp e.cont (dA e p) 7/\gp e.cont (dA e p) 7<=9:=hw;generalize fI e.cont (dA e p) 0=R at hr;generalize gp e.cont (dA e p) 7=C at hw;have m1:=abD (a:=2*e.dots) (b:=C) (by omega) (by omega);have m2:=abD (a:=2*e.dots) (b:=R+1) (by omega) (by omega);exact⟨⟨by omega,by omega⟩,⟨by omega,by omega⟩,⟨by omega,by omega⟩,⟨by omega,by omega⟩,⟨by omega,by omega⟩,⟨by omega,by omega⟩,⟨by omega,by omega⟩,rfl⟩
noncomputable def Cmk:gb Tryz.prog:=ci oQ [⟨_,_,_,Ak⟩] []
def my (e:aa) (p:Int):zR:=((j7 e p).1,(j7 e p).2.1,(j7 e p).2.2.1,(j7 e p).2.2.2.1,(j7 e p).2.2.2.2.1,(j7 e p).2.2.2.2.2.1,())
def MM:zR:=(0,0,0,0,0,[],())
def WV (l:zR) (f:Int):XV:=.tup [(true,jV (.st 19) l),(false,[.sym (.int .i64 f)])]
def WU (n:Int):XV:=.tup [(true,[.sym (.int .i64 0),.sym (.int .i64 0),.sym (.int .i64 0),.sym (.int .i64 0),.sym (.int .i64 0),.val (.slice none 0 0)]),(false,[.sym (.int .i64 n)])]
theorem Ed {w:World} {S:Nat->Prop} {v:Value} {n:Int} (h:XR [] w S (WU n) v):XR [] w S (WV MM n) v:=by
 obtain⟨vs,e,h⟩:=h;cases h with
 | cons h1 h2=>
  obtain⟨us,e1,h1⟩:=h1;refine⟨_,e,.cons ⟨us,e1,?_⟩ h2⟩;cases h1 with
  | cons a1 h1=>cases h1 with
   | cons a2 h1=>cases h1 with
    | cons a3 h1=>cases h1 with
     | cons a4 h1=>cases h1 with
      | cons a5 h1=>cases h1 with
       | cons a6 h1=>
        cases h1
        exact .cons a1 (.cons a2 (.cons a3 (.cons a4 (.cons a5 (.cons ⟨none,0,0,a6.1,RS.nil _ _,λe=>by cases e⟩ .nil)))))
def mkE (n:Int):T XV:=.br true (.lf (WU n)) .bad
def Mo (e:aa) (p:Int):T XV:=.nd (du e/\cf e) (.br (!fp e) (mkE 8) (.br (decide (p<0)) (mkE 4) (.br (decide (p>=e.prec.length)) (mkE 4) (.br false (.lf (WU 0)) (.lf (WV (my e p) 0))))))
def o6 (e:aa) (p:Int):Int:=if fp e=false then 8 else if p<0\/(e.prec.length:Int)<=p then 4 else 0
def kd (e:aa) (p:Int):zR:=if o6 e p=0 then my e p else MM
theorem ub:au Tryz.prog 26 true (aD [(0,.st 5),(1,sI)] λ((e:aa),(p:Int),_)=>.nd (du e/\cf e) (.lf (WV (kd e p) (o6 e p)))):=
 (bg (C:=Cmk) (nL _ _) true 99 [(0,.st 5),(1,sI)] (G:=λ((e:aa),(p:Int),_)=>Mo e p) (λ((e:aa),(p:Int),_)=>Mo e p) (λ_ _ _ h=>⟨h,.inl rfl⟩) Tryz.func26).imp λ⟨(e:aa),(p:Int),_⟩ r hr=>by
  obtain⟨h0,rfl⟩:=hr;show∃q,(Mo e p).hit q/\_;unfold kd;cases hv:fp e with
  | false=>
   have h1:o6 e p=8:=by unfold o6;rw[hv];rfl
   rw[h1];exact⟨_,⟨h0,aH (by rw[hv];rfl) (aH rfl rfl)⟩,λw S v h=>Ed h⟩
  | true=>
   by_cases hp:p<0\/(e.prec.length:Int)<=p
   ·have h1:o6 e p=4:=by unfold o6;rw[hv,if_neg (by decide),if_pos hp]
    rw[h1];by_cases hp1:p<0
    ·exact⟨_,⟨h0,aP (by rw[hv];rfl) (aH (decide_eq_true hp1) (aH rfl rfl))⟩,λw S v h=>Ed h⟩
    ·exact⟨_,⟨h0,aP (by rw[hv];rfl) (aP (decide_eq_false hp1) (aH (decide_eq_true (by omega)) (aH rfl rfl)))⟩,λw S v h=>Ed h⟩
   ·have h1:o6 e p=0:=by unfold o6;rw[hv,if_neg (by decide),if_neg hp]
    rw[h1];exact⟨_,⟨h0,aP (by rw[hv];rfl) (aP (decide_eq_false (by omega)) (aP (decide_eq_false (by omega)) (aP rfl rfl)))⟩,λw S v h=>h⟩
abbrev lvC:List CS:=[.d tI,.d tI,.d tI,.d tI,.d tI,.d (.list (.st 18))]
abbrev ik:=dZ lvC
abbrev sLv:SS:=.box 54 lvC
theorem DN:au Tryz.prog 66 false (aD [] λ_=>.lf (.agg (jV (.st 5) dh))):=
 fK λw S x vs r hS he hl hr=>by
  obtain rfl:=hr
  match vs,hl with
  | [],_=>exact Calls.mono Iu λe w' ⟨v,h1,⟨cs,h2,h3⟩,hb⟩=>⟨v,bZ w w',h1,hb,λb q=>.inr q,cs,h2,jg (t:=.st 5) h3⟩
theorem vU:du dh where
 dots:=⟨by decide,by decide⟩
 blank:=⟨by decide,by decide⟩
 marked:=⟨by decide,by decide⟩
 scan:=⟨by decide,by decide⟩
 batch:=⟨by decide,by decide⟩
 cell:=⟨by decide,by decide⟩
 conts:=by intro x hx;obtain rfl:=aa3.1 hx;unfold mS CZ;simp
 styls:=by intro x hx;obtain rfl:=aa3.1 hx;simp
 lc:=by simp[dh]
 ls:=by simp[dh]
 lp:=by simp[dh]
 short:=by simp[dh,Raw.short]
theorem Ap:cf dh where
 title:=aY (by simp[dh,ByteArray.size])
 seed:=aY (by simp[dh,ByteArray.size])
 prec:=by intro s hs;simp only[dh,aas,aaC,or_false] at hs;rcases hs with rfl|rfl<;>exact aY (by simp[ByteArray.size])
 cont:=by
  intro x hx;obtain rfl:=aa3.1 hx;refine⟨aY (by simp[ByteArray.size]),λs hs=>?_⟩;simp only[aas,aaC,or_false] at hs;rcases hs with rfl|rfl|rfl<;>exact aY (by simp[ByteArray.size])
 styl:=by intro x hx;obtain rfl:=aa3.1 hx;exact aY (by simp[ByteArray.size])
 len:=by simp[dh]
def ik.ts (s:ik):List ew:=s.2.2.2.2.2.1
def ew.z:ew:=(0,0,0,0,0,())
def zR.ts (s:zR):List ew:=s.2.2.2.2.2.1
noncomputable def ak0:gb Tryz.prog:=ci oQ [⟨_,_,_,DN⟩,⟨_,_,_,ub⟩] []
theorem aaF:(kd dh 1).2.2.2.2.2.1.length=9:=by kernel_rfl
def TG:Int:=(kd dh 1).2.2.2.2.2.1.length
def ajW:T XV:=.nd (du dh/\cf dh) (.br true (.br true (.br true (.br true (.nd ((0:Int)<=0/\(0:Int)<TG) (.br true (.nd ((0:Int)<=0/\(0:Int)<TG) (.lf (aB true))) (.lf (aB false)))) (.lf (aB false))) (.lf (aB false))) (.lf (aB false))) (.lf (aB false)))
theorem ve:au Tryz.prog 25 false (aD [] λ_=>.lf (aB true)):=
 bg (C:=ak0) (nL _ _) false 99 [] (λ_=>ajW) (λ_ r _ h=>by
  obtain rfl:aB true=r:=h;have hl:(0:Int)<TG:=by unfold TG;rw[aaF];decide
  exact⟨⟨⟨vU,Ap⟩,aH rfl (aH rfl (aH rfl (aH rfl ⟨⟨by omega,hl⟩,aH rfl ⟨⟨by omega,hl⟩,rfl⟩⟩)))⟩,.inr rfl⟩) Tryz.func25
theorem xN {cs:List ae} (hc:∀x∈cs,CL x) (d:Int):∀{ks:List Int} {row:Int},(∀k∈ks,0<=k/\k<cs.length)->(i6 cs d ks row).length<=49*ks.length
 | [],row,_=>aam _
 | k::ks,row,h=>by
  have hk:=h k aah;have hx:=hc (cs.getD k.toNat ae.z0) (by rw[aac,aaa (by omega)];exact aaG _);have ih:=xN hc d (ks:=ks) (row:=row+(cs.getD k.toNat ae.z0).cands.length+1) λk' kC=>h k' (aap _ kC);have hq:(cs.getD k.toNat ae.z0).cands.length*(cs.getD k.toNat ae.z0).ranks.toNat<=7*7:=Nat.mul_le_mul hx.2.2 (by have:=hx.1.2;omega);rw[i6,aaj,nj,aar];omega
theorem MK {e:aa} (hf:vA e) {p:Int} (h0:0<=p) (h1:p<e.prec.length):(zR.ts (my e p)).length<=196:=by
 obtain⟨hs,hy⟩:=yb hf h0 h1;have:=xN (pF hf) e.dots (row:=0) hy.cont;have hl:=hy.lcont;show(i6 e.cont e.dots (dA e p) 0).length<=196;have:(i6 e.cont e.dots (dA e p) 0).length<=49*(dA e p).length:=this;have hl:(dA e p).length<=4:=hl.2;omega
theorem au.retVL {P:Program} {f:FuncId} {al:Bool} {F:List XV->T XV} (h:au P f al F) {w:World} {S:Nat->Prop} {xs:List XV} {vs:List Value} {u:Value} (hW:Wd w) (hS:∀b,S b->b<w.heap.size) (hx:F2 (XR [] w S) xs vs) (hr:(F xs).hit (.one (.sym u))):Calls P f vs.toArray w (iT w u):=
 Calls.mono (h w S xs vs _ hW hS hx hr) λ_ _ ⟨_,_,h1,h2,_,h3⟩=>⟨h1.trans (congrArg _ h3.1),h2⟩
theorem EZ {P:Program} {f:FuncId} {g:ByteArray->Bool} (h:∀(s:ByteArray) (w:World),s.size<=9223372036854775807->Calls P f #[.string s] w (ga w (.bool (g s)))):au P f false (aD [(0,sS)] λ((s:ByteArray),_)=>.nd (s.size<=9223372036854775807) (.lf (aB (g s)))):=
 fK λw S x vs r hS he hl hr=>by
  obtain⟨(s:ByteArray),_⟩:=x;obtain⟨v,h1,h2,_⟩:=he 0 (aS s) aah;obtain⟨hs,rfl⟩:=hr
  match vs,hl,h1 with
  | [u],_,h1=>
   injection h1 with h1
   subst h1 h2;exact Calls.mono (h s w hs) λe w' ⟨e1,e2⟩=>⟨_,λ_=>False,e1,e2▸Below.refl _ _,λ_ q=>q.elim,rfl,rfl⟩
theorem mf:au Tryz.prog 61 false (aD [(0,sS)] λ((s:ByteArray),_)=>.nd (s.size<=9223372036854775807) (.lf (aB (eW s.data.toList)))):=EZ IK
theorem oM:au Tryz.prog 150 false (aD [(0,sS)] λ((s:ByteArray),_)=>.nd (s.size<=9223372036854775807) (.lf (aB (gX s.data.toList)))):=EZ KF
theorem QW:au Tryz.prog 234 false (aD [(0,sS)] λ((s:ByteArray),_)=>.nd (s.size<=9223372036854775807) (.lf (aB (ju s.data.toList)))):=EZ D4
noncomputable def C1:gb Tryz.prog:=ci rQ [⟨_,_,_,find_ok⟩,⟨_,_,_,mf⟩,⟨_,_,_,oM⟩,⟨_,_,_,QW⟩] []
theorem GK {b y:Bool} {x:T XV} (h:b=true->x.hit (aB y)):(T.br b x (.lf (aB false))).hit (aB (b&&y)):=by
 cases b with
 | true=>exact⟨λ_=>h rfl,λe=>by cases e⟩
 | false=>exact⟨(λe=>by cases e),λ_=>rfl⟩
theorem yD:au Tryz.prog 153 false (aD [(0,sS)] λ((s:ByteArray),_)=>.nd (s.size<=9223372036854775807) (.lf (aB (mj s)))):=
 bg (C:=C1) (nL _ _) false 99 [(0,sS)] (λ((s:ByteArray),_)=>.br (decide ((s.size:Int)>=1)) (.br (decide ((s.size:Int)<=24)) (.nd (s.size<=9223372036854775807) (.lf (aB (eW s.data.toList)))) (.lf (aB false))) (.lf (aB false)))
  (λ⟨s,_⟩ r _ ⟨hs,h⟩=>by
   obtain rfl:aB (mj s)=r:=h;exact⟨GK λ_=>GK λ_=>⟨hs,rfl⟩,.inr rfl⟩) Tryz.func153
theorem IS (l:List UInt8):-(6*10^l.length-6)<=l.foldl cK 0/\l.foldl cK 0<=23*10^l.length-23:=by
 have:∀k:List UInt8,-(6*10^k.reverse.length-6)<=k.reverse.foldl cK 0/\k.reverse.foldl cK 0<=23*10^k.reverse.length-23:=by
  intro k;induction k with
  | nil=>simp
  | cons x k ih=>
   rw[abc,List.foldl_append,aaj,aaA];obtain⟨P,hP⟩:∃P:Int,(10:Int)^k.reverse.length=P:=⟨_,rfl⟩;have e:(10:Int)^(k.reverse.length+1)=10*P:=by rw[Int.pow_succ,hP,Int.mul_comm]
   rw[hP] at ih;rw[e];have hx:=x.toNat_lt;show _<=10*_+(x.toNat:Int)-48/\10*_+(x.toNat:Int)-48<=_;omega
 have h:=this l.reverse
 rwa [aag] at h
theorem wO {l:List UInt8} (h:l.length<=6):-6000000<=l.foldl cK 0/\l.foldl cK 0<=23000000:=by
 have h1:=IS l;have h2:10^l.length<=10^6:=ac0 (by omega) h;have h3:(10:Int)^l.length=((10^l.length:Nat):Int):=by simp
 rw[h3] at h1;have h4:10^6=1000000:=by decide
 omega
theorem xA {l:List UInt8} {k:Nat} {x:UInt8} (h:l[k]?=some x) (n:Int):(l.take (k+1)).foldl cK n=10*(l.take k).foldl cK n+(x.toNat:Int)-48:=by
 rw[iz h,List.foldl_append];rfl
theorem IR:eD (vE C1 Tryz.f201) 0 0 [(0,sS),(4,sI),(5,sI)] [(0,sS),(4,sI)] [] λ((s:ByteArray),(n:Int),(i:Int),_)=>
 .nd (∃k:Nat,i=k/\k<=s.size/\k<=6/\(s.data.toList.take k).foldl cK 0=n) (.lf (.out (s,(cP s.data.toList).1,()))):=by
  refine eI _ (nL _ _) 99 0 0 [(0,sS),(4,sI),(5,sI)] [(0,sS),(4,sI)] [] (λ((s:ByteArray),(n:Int),(i:Int),_)=>.br (decide (i<s.size)) (.br (decide (i<6)) (.nd (bX (10*n)) (.nd (0<=i/\i<s.size) (.nd (bX (10*n+IntKind.i64.wrap (s.data.toList.getD i.toNat 0).toNat)) (.nd (bX (10*n+IntKind.i64.wrap (s.data.toList.getD i.toNat 0).toNat-48)) (.nd (bX (i+1)) (.lf (.back (s,10*n+IntKind.i64.wrap (s.data.toList.getD i.toNat 0).toNat-48,i+1,())))))))) (.lf (.out (s,n,())))) (.lf (.out (s,n,()))))
   (λ(_,_,(i:Int),_)=>6-i.toNat) ?_
  rintro⟨(s:ByteArray),n,i,_⟩ r _ ⟨⟨k,rfl,h1,h2,rfl⟩,rfl⟩;have bm:s.data.toList.length=s.size:=aaD;by_cases hi:k<s.size
  ·by_cases h6:k<6
   ·have hx:s.data.toList[k]?=some (s.data.toList.getD k 0):=by
     rw[aac,aaa (by omega)];rfl
    have hb:=wO (l:=s.data.toList.take k) (by rw[aa7];omega);have bH:=wO (l:=s.data.toList.take (k+1)) (by rw[aa7];omega);rw[xA hx] at bH;have hc:=(s.data.toList.getD k 0).toNat_lt;have hw:IntKind.i64.wrap ((s.data.toList.getD k 0).toNat:Int)=((s.data.toList.getD k 0).toNat:Int):=by rw[IntKind.wrap_i64];omega
    refine⟨_,aH (decide_eq_true (by omega)) (aH (decide_eq_true (by omega)) ⟨⟨by omega,by omega⟩,⟨by omega,by omega⟩,?_,?_,⟨by omega,by omega⟩,rfl⟩),?_,⟨k+1,rfl,by omega,by omega,?_⟩,rfl⟩
    ·show bX (_+IntKind.i64.wrap ((s.data.toList.getD k 0).toNat:Int));rw[hw];exact⟨by omega,by omega⟩
    ·show bX (_+IntKind.i64.wrap ((s.data.toList.getD k 0).toNat:Int)-48);rw[hw];exact⟨by omega,by omega⟩
    ·show 6-(k+1)<6-k;omega
    ·rw[xA hx];show _=_+IntKind.i64.wrap ((s.data.toList.getD k 0).toNat:Int)-48;rw[hw]
   ·obtain rfl:k=6:=by omega
    exact⟨_,aH (decide_eq_true (by omega)) (aP (decide_eq_false (by omega)) rfl),rfl⟩
  ·refine⟨_,aP (decide_eq_false (by omega)) rfl,?_⟩;simp only[cP,acR (show s.data.toList.length<=6 by omega),acR (show s.data.toList.length<=k by omega)]
theorem mX:au Tryz.prog 201 false (aD [(0,sS)] λ((s:ByteArray),_)=>.nd (s.size<=9223372036854775807) (.lf (.tup [(false,[.sym (.int .i64 (cP s.data.toList).1)]),(false,[.sym (.bool (cP s.data.toList).2)])]))):=
 bg (C:=C1) ((nL _ _).add 0 _ IR) false 99 [(0,sS)] (λ((s:ByteArray),_)=>.nd (∃k:Nat,(0:Int)=k/\k<=s.size/\k<=6/\(s.data.toList.take k).foldl cK 0=0) (.nd (s.size<=9223372036854775807) (.lf (.tup [(false,[.sym (.int .i64 (cP s.data.toList).1)]),(false,[.sym (.bool (ju s.data.toList))])]))))
  (λ⟨s,_⟩ r _ ⟨hs,h⟩=>⟨⟨⟨0,rfl,aaS _,aaS _,rfl⟩,hs,h⟩,.inr (by obtain rfl:=h;rfl)⟩) Tryz.func201
def Gr (k:ByteArray):List ByteArray->T XV
 | []=>.lf (.one (.val (.slice none 0 0)))
 | a::l=>.br (k.toList==a.toList) (.lf (.one (.list .str (aJ a) true))) (Gr k l)
theorem xk {k:ByteArray}:∀{l:List ByteArray},(k∉l->aJ k=[])->∃q,(Gr k l).hit q/\∀(w:World) (S:Nat->Prop) (v:Value),XR [] w S q v->XR [] w S (.one (.list .str (aJ k) true)) v
 | [],h=>⟨_,rfl,λw S v ⟨e,_⟩=>⟨none,0,0,e,by rw[h (by simp)];exact RS.nil _ _,λ_ _=>rfl⟩⟩
 | a::l,h=>by
  by_cases e:k=a
  ·subst e;exact⟨_,aH (by simp) rfl,λ_ _ _ h=>h⟩
  ·obtain⟨q,h1,h2⟩:=xk (k:=k) (l:=l) λhl=>h (by simp[e,hl]);exact⟨q,aP (by rw[dJ];exact decide_eq_false e) h1,h2⟩
theorem o8:au Tryz.prog 111 true (aD [(0,sS)] λ((s:ByteArray),_)=>.lf (.one (.list .str (aJ s) true))):=
 au.imp (l0:=[(0,sS)]) (F:=λ((k:ByteArray),_)=>Gr k gU) (bg (C:=C1) (nL _ _) true 99 [(0,sS)] (λ((k:ByteArray),_)=>Gr k gU) (λ_ _ _ h=>⟨h,.inl rfl⟩) Tryz.func111) λ⟨(k:ByteArray),_⟩ r h=>by
  obtain rfl:XV.one (.list .str (aJ k) true)=r:=h;refine xk λh=>?_;simp only[gU,aas,aaC,or_false,not_or] at h;obtain⟨h1,h2,h3,h4,h5,h6,h7⟩:=h;exact(if_neg h1).trans ((if_neg h2).trans ((if_neg h3).trans ((if_neg h4).trans ((if_neg h5).trans ((if_neg h6).trans (if_neg h7))))))
def nt (p:Int×Int) (no line:Int):Int×Int:=if p.1=0/\no≠0 then(no,line) else p
abbrev stN:List CS:=[.any,.any,.any,.any,.any,.any,.any,.any,.any,.any,.any,.any,.any,.any,.any,.any,.any,.d tI,.d tI]
abbrev sN:SS:=.box 118 stN
abbrev pN:List Nat:=[0,1,2,3,4,5,6,7,8,9,10,11,12,13,14,15,16,17]
abbrev sF:SS:=.st 0
abbrev fZ:=dZ stN
def ZP (p:Int×Int):fZ:=((),(),(),(),(),(),(),(),(),(),(),(),(),(),(),(),(),p.1,p.2,())
def fZ.f (x:fZ):Int×Int:=(x.2.2.2.2.2.2.2.2.2.2.2.2.2.2.2.2.2.1,x.2.2.2.2.2.2.2.2.2.2.2.2.2.2.2.2.2.2.1)
def fZ.err (x:fZ):Int:=x.f.1
def fZ.note (x:fZ) (no line:Int):fZ:=ZP (nt x.f no line)
def fZ.setF (_:fZ) (no line:Int):fZ:=ZP (no,line)
theorem IT {p:Int×Int} {no:Int} (line:Int) (h:p.1=0) (hn:no≠0):nt p no line=(no,line):=if_pos ⟨h,hn⟩
theorem QX {p:Int×Int} (no line:Int) (h:p.1≠0):nt p no line=p:=if_neg λq=>h q.1
theorem L5 {p:Int×Int} (line:Int):nt p 0 line=p:=if_neg λq=>q.2 rfl
theorem aby {p:Int×Int} {c d line ug:Int} (hc:c≠0):nt (nt p c line) d ug=nt p c line:=by
 by_cases h:p.1=0
 ·rw[IT line h hc];exact QX d ug hc
 ·rw[QX c line h,QX d ug h]
theorem L8 {x:fZ} {no:Int} (line:Int) (h:x.err=0) (hn:no≠0):x.note no line=x.setF no line:=congrArg ZP (IT line h hn)
theorem L9 {x:fZ} (no line:Int) (h:x.err≠0):x.note no line=x:=congrArg ZP (QX no line h)
theorem yB {x:fZ} (line:Int):x.note 0 line=x:=congrArg ZP (L5 line)
abbrev an (r:XV) (x:fZ):XV×fZ×Unit:=(r,x,())
theorem jy:fk Tryz.prog 62 pN [(0,sN),(1,sI),(2,sI)] [(0,sN)] λ((x:fZ),(no:Int),(line:Int),_)=>.nd ((0:Int)≠no) (.lf (an (.tup []) (x.note no line))):=
 jA (C:=C1) (nL _ _) 99 [(0,sN),(1,sI),(2,sI)] [(0,sN)] (λ((x:fZ),(no:Int),(line:Int),_)=>.br (x.err==0) (.lf (an (.tup []) (x.setF no line))) (.lf (an (.tup []) x)))
  (λ⟨(x:fZ),no,line,_⟩ r _ ⟨hn,h⟩=>by
   obtain rfl:an (.tup []) (x.note no line)=r:=h;by_cases e:x.err=0
   ·exact aH (beq_iff_eq.2 e) (congrArg (an _) (L8 line e (acj hn)).symm)
   ·exact aP (beq_eq_false_iff_ne.2 e) (congrArg (an _) (L9 no line e).symm)) Tryz.func62
noncomputable def C2:gb Tryz.prog:=ci rQ [⟨_,_,_,find_ok⟩,⟨_,_,_,mf⟩,⟨_,_,_,oM⟩,⟨_,_,_,yD⟩,⟨_,_,_,mX⟩,⟨_,_,_,o8⟩] [⟨_,_,_,_,_,jy⟩]
theorem qg:fk Tryz.prog 200 pN [(0,sN),(1,sF)] [(0,sN)] λ((x:fZ),(f:ao),_)=>.lf (an (aS (bc f.vals)) (x.note (cT f.vals) f.line)):=
 jA (C:=C2) (nL _ _) 99 [(0,sN),(1,sF)] [(0,sN)] (λ((x:fZ),(f:ao),_)=>.br (!((f.vals.length:Int)==1)) (.nd ((0:Int)≠7) (.lf (an (aS ⟨#[]⟩) (x.note 7 f.line)))) (.nd ((0:Int)<=0/\(0:Int)<f.vals.length) (.lf (an (aS (f.vals.getD 0 ⟨#[]⟩)) x))))
  (λ⟨(x:fZ),(f:ao),_⟩ r _ h=>by
   obtain rfl:an (aS (bc f.vals)) (x.note (cT f.vals) f.line)=r:=h;by_cases e:f.vals.length=1
   ·refine aP (by rw[e];rfl) ⟨⟨by omega,by omega⟩,?_⟩;rw[bc,cT,if_neg (by simp[e]),if_neg (by simp[e]),yB];rfl
   ·refine aH (by simp;omega) ⟨by decide,?_⟩;rw[bc,cT,if_pos e,if_pos e];rfl) Tryz.func200
noncomputable def C3:gb Tryz.prog:=ci rQ [⟨_,_,_,find_ok⟩,⟨_,_,_,mf⟩,⟨_,_,_,oM⟩,⟨_,_,_,yD⟩,⟨_,_,_,mX⟩,⟨_,_,_,o8⟩] [⟨_,_,_,_,_,jy⟩,⟨_,_,_,_,_,qg⟩]
theorem Ws {x:fZ} {no:Int} (line:Int) (h:x.err=0) (hn:no≠0):(x.note no line).err=no:=by rw[L8 line h hn];rfl
theorem L6 {x:fZ} {c d line ug:Int} (hc:c≠0):(x.note c line).note d ug=x.note c line:=congrArg ZP (aby hc)
theorem Cu {x:fZ} {a:XV} {c d e line:Int} (h:(if c=0 then d else c)=e):an a ((x.note c line).note d line)=an a (x.note e line):=by
 subst h;by_cases hc:c=0
 ·rw[if_pos hc,hc,yB]
 ·rw[if_neg hc,L6 hc]
theorem Ka {x:fZ} {a:XV} {c e line:Int} (h:c=e):an a (x.note c line)=an a (x.note e line):=by rw[h]
theorem rk:∀(xs:List ByteArray) (s:ByteArray) (i:Nat),Lib.idxFromS xs s i<=i+xs.length
 | [],_,_=>by show(-1:Int)<=_;omega
 | x::l,s,i=>by
  unfold Lib.idxFromS;split
  ·simp only[aar];omega
  ·have:=rk l s (i+1);simp only[aar];omega
theorem M8:fk Tryz.prog 152 pN [(0,sN),(1,sF),(2,sI),(3,sI)] [(0,sN)] λ((x:fZ),(f:ao),(a:Int),(b:Int),_)=>.nd ((bc f.vals).size<=9223372036854775807) (.lf (an (aI (kV f.vals)) (x.note (pX f.vals a b) f.line))):=
 jA (C:=C3) (nL _ _) 99 [(0,sN),(1,sF),(2,sI),(3,sI)] [(0,sN)] (λ((x:fZ),(f:ao),(a:Int),(b:Int),_)=>.nd ((bc f.vals).size<=9223372036854775807) (.br (!(cP (bc f.vals).data.toList).2) (.nd ((0:Int)≠5) (.lf (an (aI (kV f.vals)) ((x.note (cT f.vals) f.line).note 5 f.line)))) (.br (decide (kV f.vals<a)) (.nd ((0:Int)≠4) (.lf (an (aI (kV f.vals)) ((x.note (cT f.vals) f.line).note 4 f.line)))) (.br (decide (kV f.vals>b)) (.nd ((0:Int)≠4) (.lf (an (aI (kV f.vals)) ((x.note (cT f.vals) f.line).note 4 f.line)))) (.lf (an (aI (kV f.vals)) (x.note (cT f.vals) f.line)))))))
  (λ⟨(x:fZ),(f:ao),(a:Int),(b:Int),_⟩ r _ ⟨hs,h⟩=>by
   obtain rfl:an (aI (kV f.vals)) (x.note (pX f.vals a b) f.line)=r:=h;refine⟨hs,λh1=>⟨by decide,Cu ?_⟩,λh1=>⟨λh2=>⟨by decide,Cu ?_⟩,λh2=>⟨λh3=>⟨by decide,Cu ?_⟩,λh3=>?_⟩⟩⟩
   ·unfold pX cT;split<;>simp_all
   ·unfold pX cT;split<;>simp_all
   ·unfold pX cT;split<;>simp_all
   ·refine Ka ?_;have:=of_decide_eq_false h2;have:=of_decide_eq_false h3;unfold pX cT;split<;>simp_all) Tryz.func152
theorem Tj:fk Tryz.prog 151 pN [(0,sN),(1,sF),(2,sL)] [(0,sN)] λ((x:fZ),(f:ao),(l:List ByteArray),_)=>.nd (l.length<=99) (.lf (an (aI (jG f.vals l)) (x.note (oD f.vals l) f.line))):=
 jA (C:=C3) (nL _ _) 99 [(0,sN),(1,sF),(2,sL)] [(0,sN)] (λ((x:fZ),(f:ao),(l:List ByteArray),_)=>.br (decide (Lib.idxOfS l (bc f.vals)<0)) (.nd ((0:Int)≠2) (.nd (bX (jG f.vals l)) (.lf (an (aI (jG f.vals l)) ((x.note (cT f.vals) f.line).note 2 f.line))))) (.nd (bX (jG f.vals l)) (.lf (an (aI (jG f.vals l)) (x.note (cT f.vals) f.line)))))
  (λ⟨(x:fZ),(f:ao),(l:List ByteArray),_⟩ r _ ⟨hs,h⟩=>by
   obtain rfl:an (aI (jG f.vals l)) (x.note (oD f.vals l) f.line)=r:=h;have hb:bX (jG f.vals l):=by
    have:=rk l (bc f.vals) 0;have:=lk l (bc f.vals) 0;unfold jG bX Lib.idxOfS at*;omega
   refine⟨λh1=>⟨by decide,hb,Cu ?_⟩,λh1=>⟨hb,?_⟩⟩
   ·unfold oD cT;split<;>simp_all
   ·refine Ka ?_;unfold oD cT;split<;>simp_all) Tryz.func151
theorem An:fk Tryz.prog 155 pN [(0,sN),(1,sF)] [(0,sN)] λ((x:fZ),(f:ao),_)=>.nd ((bc f.vals).size<=9223372036854775807) (.lf (an (aS (bc f.vals)) (x.note (ma f.vals) f.line))):=
 jA (C:=C3) (nL _ _) 99 [(0,sN),(1,sF)] [(0,sN)] (λ((x:fZ),(f:ao),_)=>.br (!((bc f.vals).toList==(⟨#[]⟩:ByteArray).toList)) (.nd ((bc f.vals).size<=9223372036854775807) (.br (!mj (bc f.vals)) (.nd ((0:Int)≠8) (.lf (an (aS (bc f.vals)) ((x.note (cT f.vals) f.line).note 8 f.line)))) (.lf (an (aS (bc f.vals)) (x.note (cT f.vals) f.line))))) (.lf (an (aS (bc f.vals)) (x.note (cT f.vals) f.line))))
  (λ⟨(x:fZ),(f:ao),_⟩ r _ ⟨hs,h⟩=>by
   obtain rfl:an (aS (bc f.vals)) (x.note (ma f.vals) f.line)=r:=h;refine⟨λh1=>⟨hs,λh2=>⟨by decide,Cu ?_⟩,λh2=>?_⟩,λh1=>?_⟩
   ·rw[dJ] at h1;unfold ma cT;split<;>simp_all
   ·refine Ka ?_;rw[dJ] at h1;unfold ma cT;split<;>simp_all
   ·refine Ka ?_;rw[dJ] at h1;unfold ma cT;split<;>simp_all) Tryz.func155
abbrev Kh:SS:=.box 93 [.d .str,.d (.list .str),.d tI]
abbrev xW:=dZ [.d .str,.d (.list .str),.d tI]
def xW.vs (f:xW):List ByteArray:=f.2.1
def xW.ln (f:xW):Int:=f.2.2.1
theorem Mg (s:ByteArray):mj s=cU s 1 24:=by
 unfold mj cU;cases eW s.data.toList<;>simp
abbrev Dr (l:List ByteArray):Prop:=∀s∈l,s.size<=9223372036854775807
abbrev mn (x:fZ) (f:xW):LE [(0,sN),(2,sI),(4,Kh),(7,sI)] [(0,sN),(4,Kh)] [(0,sN)]:=.out (x,f,())
abbrev tY (x:fZ) (m:Int) (f:xW) (i:Int):LE [(0,sN),(2,sI),(4,Kh),(7,sI)] [(0,sN),(4,Kh)] [(0,sN)]:=.back (x,m,f,i,())
theorem Bb (m:Int) (pre:List ByteArray) (s:ByteArray) (r:List ByteArray):ez m pre (s::r)=if(pre.length:Int)=m then 7 else if cU s 1 24=false then 8 else if Lib.containsS pre s then 3 else ez m (pre++[s]) r:=by rw[ez]
def Gh (x:fZ) (m:Int) (l:List ByteArray) (i:Int):Prop:=0<=i/\i<=l.length/\(x.err=0->i<=m)/\Dr l
theorem Rw:eD (JG C3 Tryz.f113 pN) 0 0 [(0,sN),(2,sI),(4,Kh),(7,sI)] [(0,sN),(4,Kh)] [(0,sN)] λ((x:fZ),(m:Int),(f:xW),(i:Int),_)=>
 .nd (Gh x m f.vs i) (.lf (mn (x.note (ez m (f.vs.take i.toNat) (f.vs.drop i.toNat)) f.ln) f)):=by
  refine eI _ (nL _ _) 99 0 0 [(0,sN),(2,sI),(4,Kh),(7,sI)] [(0,sN),(4,Kh)] [(0,sN)] (λ((x:fZ),(m:Int),(f:xW),(i:Int),_)=>.br (decide (i<f.vs.length)) (.br (x.err==0) (.br (decide (i>=m)) (.nd ((0:Int)≠7) (.nd (bX (i+1)) (.lf (tY (x.note 7 f.ln) m f (i+1))))) (.nd (0<=i/\i<f.vs.length) (.nd ((f.vs.getD i.toNat ⟨#[]⟩).size<=9223372036854775807) (.br (!mj (f.vs.getD i.toNat ⟨#[]⟩)) (.nd ((0:Int)≠8) (.nd (bX (i+1)) (.lf (tY (x.note 8 f.ln) m f (i+1))))) (.nd ((0:Int)<=0/\0<=i/\i<=f.vs.length) (.nd (0<=i/\i<f.vs.length) (.br (decide (Lib.idxOfS (f.vs.take i.toNat) (f.vs.getD i.toNat ⟨#[]⟩)>=0)) (.nd ((0:Int)≠3) (.nd (bX (i+1)) (.lf (tY (x.note 3 f.ln) m f (i+1))))) (.nd (bX (i+1)) (.lf (tY x m f (i+1))))))))))) (.lf (mn x f))) (.lf (mn x f)))
   (λ(_,_,(f:xW),(i:Int),_)=>f.vs.length-i.toNat) ?_
  rintro⟨(x:fZ),(m:Int),(f:xW),(i:Int),_⟩ r pZ ⟨hn,hr⟩;obtain⟨h0,h1,h2,h3⟩:Gh x m f.vs i:=hn;have hl:f.vs.length<=9223372036854775807:=pZ.2.2.1.2.1;obtain⟨k,rfl⟩:∃k:Nat,i=k:=⟨i.toNat,by omega⟩;obtain rfl:mn (x.note (ez m (f.vs.take k) (f.vs.drop k)) f.ln) f=r:=hr;by_cases hk:k<f.vs.length
  ·by_cases he:x.err=0
   ·have hx:=getD_drop (⟨#[]⟩:ByteArray) hk;have zI:f.vs[k]?=some (f.vs.getD k ⟨#[]⟩):=by rw[aac,aaa hk];rfl
    have hm:=h2 he;have hs:=h3 (f.vs.getD k ⟨#[]⟩) (abL zI);have dI:bX ((k:Int)+1):=⟨by omega,by omega⟩;have dec:f.vs.length-(k+1)<f.vs.length-k:=by omega
    have hp:mj (f.vs.getD k ⟨#[]⟩)=cU (f.vs.getD k ⟨#[]⟩) 1 24:=Mg _;have stop:∀c:Int,c≠0->ez m (f.vs.take k) (f.vs.drop k)=c->Gh (x.note c f.ln) m f.vs ((k:Int)+1)/\mn ((x.note c f.ln).note (ez m (f.vs.take (k+1)) (f.vs.drop (k+1))) f.ln) f=mn (x.note (ez m (f.vs.take k) (f.vs.drop k)) f.ln) f:=λc hc hg=>by
     refine⟨⟨by omega,by omega,λq=>absurd q (by rw[Ws _ he hc];exact hc),h3⟩,?_⟩;rw[hg,L6 hc]
    rw[hx] at stop ⊢;rw[Bb,aa7,aef (by omega)] at stop ⊢;by_cases h7:(k:Int)=m
    ·rw[if_pos h7] at stop ⊢;exact⟨_,aH (decide_eq_true (by omega)) (aH (beq_iff_eq.2 he) (aH (decide_eq_true (by omega)) ⟨by decide,dI,rfl⟩)),dec,stop 7 (by decide) rfl⟩
    rw[if_neg h7] at stop ⊢;have go:∀{y:T (LE [(0,sN),(2,sI),(4,Kh),(7,sI)] [(0,sN),(4,Kh)] [(0,sN)])} {q},y.hit q->_:=λ{y q} h=>aH (x:=T.br _ _ _) (y:=.lf (mn x f)) (b:=decide ((k:Int)<f.vs.length)) (decide_eq_true (by omega)) (aH (y:=.lf (mn x f)) (beq_iff_eq.2 he) (aP (b:=decide ((k:Int)>=m)) (x:=.nd ((0:Int)≠7) (.nd (bX ((k:Int)+1)) (.lf (tY (x.note 7 f.ln) m f (k+1))))) (y:=.nd (0<=(k:Int)/\(k:Int)<f.vs.length) (.nd ((f.vs.getD k ⟨#[]⟩).size<=9223372036854775807) y)) (decide_eq_false (by omega)) ⟨⟨by omega,by omega⟩,hs,h⟩));by_cases h8:cU (f.vs.getD k ⟨#[]⟩) 1 24=false
    ·rw[if_pos h8] at stop ⊢;exact⟨_,go (aH (by rw[aae,hp,h8];rfl) ⟨by decide,dI,rfl⟩),dec,stop 8 (by decide) rfl⟩
    rw[if_neg h8] at stop ⊢;by_cases Jt:Lib.containsS (f.vs.take k) (f.vs.getD k ⟨#[]⟩)
    ·rw[if_pos Jt] at stop ⊢;exact⟨_,go (aP (by rw[aae,hp];simpa using h8) ⟨⟨by omega,by omega,by omega⟩,⟨by omega,by omega⟩,aH Jt ⟨by decide,dI,rfl⟩⟩),dec,stop 3 (by decide) rfl⟩
    ·rw[if_neg Jt];refine⟨_,go (aP (by rw[aae,hp];simpa using h8) ⟨⟨by omega,by omega,by omega⟩,⟨by omega,by omega⟩,aP (adc.2 Jt:Lib.containsS _ _=false) ⟨dI,rfl⟩⟩),dec,⟨by omega,by omega,λ_=>by omega,h3⟩,?_⟩;show mn (x.note (ez m (f.vs.take (k+1)) (f.vs.drop (k+1))) f.ln) f=_;rw[iz zI]
   ·exact⟨_,aH (decide_eq_true (by omega)) (aP (beq_eq_false_iff_ne.2 he) rfl),congrArg (λz=>mn z f) (L9 _ _ he).symm⟩
  ·exact⟨_,aP (decide_eq_false (by omega)) rfl,congrArg (λz=>mn z f) (by rw[aaq (by omega)];exact(yB _).symm)⟩
def lsR (l:List ByteArray):XV:=.one (.list .str (l.reverse++[]).reverse !(l.reverse++[]).isEmpty)
theorem WC (l:List ByteArray):lsR l=.one (.list .str l !l.isEmpty):=by unfold lsR;simp
def Ux (x:fZ) (m:Int) (l:List ByteArray) (ln:Int):T (XV×fZ×Unit):=.nd (Gh x m l 0) (.nd ((0+l.length)*17<=140737488355328) (.lf (an (lsR l) (x.note (ez m (l.take 0) (l.drop 0)) ln))))
theorem ud:fk Tryz.prog 113 pN [(0,sN),(1,sF),(2,sI)] [(0,sN)] λ((x:fZ),(f:ao),(m:Int),_)=>.nd (Dr f.vals/\0<=m/\f.vals.length<=1099511627776) (.lf (an (.one (.list .str f.vals !f.vals.isEmpty)) (x.note (dc f.vals m) f.line))):=by
 refine YK (C:=C3) (pb:=pN) [(12,[6])] ((nL _ _).add 0 _ Rw) 99 [(0,sN),(1,sF),(2,sI)] [(0,sN)] (λ((x:fZ),(f:ao),(m:Int),_)=>.br ((f.vals.length:Int)==0) (.nd ((0:Int)≠7) (Ux (x.note 7 f.line) m f.vals f.line)) (Ux x m f.vals f.line)) ?_ Tryz.func113;rintro⟨(x:fZ),(f:ao),(m:Int),_⟩ r _ ⟨⟨h1,h2,h3⟩,h⟩;obtain rfl:an (.one (.list .str f.vals !f.vals.isEmpty)) (x.note (dc f.vals m) f.line)=r:=h;rw[<-WC];refine⟨λe=>?_,λe=>?_⟩
 ·have e:f.vals.length=0:=by have:=beq_iff_eq.1 e;omega
  have e2:=aaw e;refine⟨by decide,⟨by omega,by omega,λ_=>h2,h1⟩,by omega,Cu ?_⟩;rw[e2];rfl
 ·have e:f.vals≠[]:=λq=>by rw[q] at e;cases e
  refine⟨⟨by omega,by omega,λ_=>h2,h1⟩,by omega,Ka ?_⟩;unfold dc;rw[if_neg e];rfl
end Go.Proofs.YtdbpbfglhbiadaaGreatDoor
