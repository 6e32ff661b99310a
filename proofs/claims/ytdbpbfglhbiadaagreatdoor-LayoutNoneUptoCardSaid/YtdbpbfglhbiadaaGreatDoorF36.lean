/- Tm8 Tm12 -/
import Derived.Test.YtdbpbfglhbiadaaGreatDoorF00
import Derived.Test.YtdbpbfglhbiadaaGreatDoorF35
set_option maxHeartbeats 8000000
set_option maxRecDepth 100000
namespace Go.Proofs.YtdbpbfglhbiadaaGreatDoor
open Go Go.RowKit
noncomputable def aaN (t:TypeId):Option Ty:=List.lookup t [(9,.str),(3,tI),(87,.st 3),(42,.st 10),(189,.st 7),(188,.st 6)]
noncomputable def C7:gb Tryz.prog:=ci aaN [⟨_,_,_,find_ok⟩,⟨_,_,_,o8⟩] [⟨_,_,_,_,_,jy⟩,⟨_,_,_,_,_,OH⟩,⟨_,_,_,_,_,Jw⟩,⟨_,_,_,_,_,ud⟩,⟨_,_,_,_,_,NQ⟩]
abbrev sNb:SS:=.box 188 [.d (.list .str),.d (.list .str)]
abbrev sLb:SS:=.box 189 [.d tI,.d tI]
abbrev vm:=dZ [.d (.list .str),.d (.list .str)]
abbrev vp:=dZ [.d tI,.d tI]
abbrev PH:SS:=.c (.own .str 9)
abbrev bkL:List (Nat×SS):=[(0,sT),(3,sBb),(4,PH),(5,VU),(6,sNb),(7,sLb),(8,sI),(9,sI),(10,sI)]
abbrev bkO:List (Nat×SS):=[(0,sT),(3,sBb),(4,PH),(5,VU),(6,sNb),(7,sLb),(8,sI),(9,sI)]
noncomputable abbrev bfn:=Tryz.f63
def aM.m (x:aM):StM:=(x.1,x.2.1,x.2.2.1,x.2.2.2.1,x.2.2.2.2.1,(),(),x.2.2.2.2.2.2.2.1,x.2.2.2.2.2.2.2.2.1,x.2.2.2.2.2.2.2.2.2.1,x.2.2.2.2.2.2.2.2.2.2.1,x.2.2.2.2.2.2.2.2.2.2.2.1,x.2.2.2.2.2.2.2.2.2.2.2.2.1,x.2.2.2.2.2.2.2.2.2.2.2.2.2.1,(),(),(),x.f.1,x.f.2,())
def aM.setM (x:aM) (y:StM):aM:=(y.1,y.2.1,y.2.2.1,y.2.2.2.1,y.2.2.2.2.1,x.2.2.2.2.2.1,x.2.2.2.2.2.2.1,y.2.2.2.2.2.2.2.1,y.2.2.2.2.2.2.2.2.1,y.2.2.2.2.2.2.2.2.2.1,y.2.2.2.2.2.2.2.2.2.2.1,y.2.2.2.2.2.2.2.2.2.2.2.1,y.2.2.2.2.2.2.2.2.2.2.2.2.1,y.2.2.2.2.2.2.2.2.2.2.2.2.2.1,x.2.2.2.2.2.2.2.2.2.2.2.2.2.2.1,x.2.2.2.2.2.2.2.2.2.2.2.2.2.2.2.1,x.2.2.2.2.2.2.2.2.2.2.2.2.2.2.2.2.1,y.f.1,y.f.2,())
def aM.setE (x:aM) (e:aa) (f:dH):aM:=(e.title,e.dots,e.blank,e.marked,e.prec,x.2.2.2.2.2.1,x.2.2.2.2.2.2.1,e.scan,e.batch,e.risk.neg,e.risk.num,e.risk.den,e.cell,e.seed,x.2.2.2.2.2.2.2.2.2.2.2.2.2.2.1,x.2.2.2.2.2.2.2.2.2.2.2.2.2.2.2.1,x.2.2.2.2.2.2.2.2.2.2.2.2.2.2.2.2.1,f.no,f.line,())
def loc (x:aM) (kn:List ByteArray) (c:mT) (nm:vm) (ln:vp) (d s:Int):dT:=⟨x.e,⟨x.f.1,x.f.2⟩,kn.reverse,Kq c,nm.1,nm.2.1,ln.1,ln.2.1,d,s⟩
def jb.kind (b:jb):ByteArray:=b.1
abbrev Fj:=LE bkL bkO [(0,sT)]
def OZ (b:jb) (x:aM) (kn:List ByteArray) (c:mT) (nm:vm) (ln:vp) (d s i:Int):Fj:=.back (x,b,kn,c,nm,ln,d,s,i,())
def Co (b:jb) (x:aM) (kn:List ByteArray) (c:mT) (nm:vm) (ln:vp) (d s:Int):Fj:=.out (x,b,kn,c,nm,ln,d,s,())
def Ts (b:jb) (x:aM) (kn:List ByteArray) (c:mT) (nm:vm) (ln:vp) (d s i:Int):T Fj:=.nd (bX (i+1)) (.lf (OZ b x kn c nm ln d s (i+1)))
def adN (x:aM) (f:ao) (k:Int) (t:aM->T Fj):T Fj:=.nd (Dr f.vals/\(0:Int)<=k/\f.vals.length<=1099511627776) (t (x.note (dc f.vals k) f.line))
def bkC (b:jb) (x:aM) (kn:List ByteArray) (c:mT) (nm:vm) (ln:vp) (d s i:Int) (f:ao):T Fj:=
 .br (f.key.toList==aC.toList) (.br (f.key.toList==bz.toList) (Ts b x kn c nm ln f.line f.line i) (Ts b x kn c nm ln f.line s i)) (.br (f.key.toList==bz.toList) (Ts b x kn c nm ln d f.line i) (Ts b x kn c nm ln d s i))
def bkF (b:jb) (x:aM) (kn:List ByteArray) (c:mT) (nm:vm) (ln:vp) (d s i:Int) (f:ao):T Fj:=.nd (Jy b.kind f) (Ts b (x.setM (qI x.m b.kind f)) kn c nm ln d s i)
def bk2 (b:jb) (x:aM) (kn:List ByteArray) (c:mT) (nm:vm) (ln:vp) (d s i:Int) (f:ao):T Fj:=
 .br (is aA b) (adN x f 4 λx=>Ts b x kn c (nm.1,f.vals,()) (ln.1,f.line,()) d s i) (bkF b x kn c nm ln d s i f)
def bkR (b:jb) (x:aM) (kn:List ByteArray) (c:mT) (nm:vm) (ln:vp) (d s i:Int) (f:ao):T Fj:=
 .br (!(x.err==0)) (Ts b x kn c nm ln d s i)
 (.br (is aj b) (.nd (fOk f) (bkC b (x.note (j0 (Kq c) f).2 f.line) kn (Kp (j0 (Kq c) f).1) nm ln d s i f))
 (.br (is aA b) (.br (f.key.toList==af.toList) (adN x f 12 λx=>Ts b x kn c (f.vals,nm.2.1,()) (f.line,ln.2.1,()) d s i) (bk2 b x kn c nm ln d s i f)) (bk2 b x kn c nm ln d s i f)))
def Y9 (b:jb) (x:aM) (kn:List ByteArray) (c:mT) (nm:vm) (ln:vp) (d s i:Int) (f:ao):T Fj:=.nd ((kn.length+1)*17<=140737488355328) (bkR b x (f.key::kn) c nm ln d s i f)
def bkA (b:jb) (x:aM) (kn:List ByteArray) (c:mT) (nm:vm) (ln:vp) (d s i:Int) (f:ao):T Fj:=
 .br (decide (Lib.idxOfS kn.reverse f.key>=0)) (.nd ((0:Int)≠3) (Y9 b (x.note 3 f.line) kn c nm ln d s i f)) (Y9 b x kn c nm ln d s i f)
def bkB (b:jb) (x:aM) (kn:List ByteArray) (c:mT) (nm:vm) (ln:vp) (d s i:Int) (f:ao):T Fj:=
 .br (decide (Lib.idxOfS (aJ b.kind) f.key<0)) (.nd ((0:Int)≠2) (bkA b (x.note 2 f.line) kn c nm ln d s i f)) (bkA b x kn c nm ln d s i f)
def ao.zero:ao:=⟨⟨#[]⟩,[],0⟩
def jb.fs (b:jb):List ao:=b.2.2.1
def bkT (b:jb) (x:aM) (kn:List ByteArray) (c:mT) (nm:vm) (ln:vp) (d s i:Int):T Fj:=
 .br (decide (i<b.fs.length)) (.br (x.err==0) (.nd (0<=i/\i<b.fs.length) (bkB b x kn c nm ln d s i (b.fs.getD i.toNat ao.zero))) (.lf (Co b x kn c nm ln d s))) (.lf (Co b x kn c nm ln d s))
theorem ED (p:Int×Int) (no line:Int):(⟨p.1,p.2⟩:dH).note no line=⟨(nt p no line).1,(nt p no line).2⟩:=by
 unfold dH.note nt;by_cases h:p.1=0/\no≠0
 ·rw[if_pos h,if_pos h]
 ·rw[if_neg h,if_neg h]
def aM.er (x:aM):dH:=⟨x.f.1,x.f.2⟩
theorem m8 (x:aM) (no line:Int):(x.note no line).er=x.er.note no line:=(ED x.f no line).symm
theorem mY (x:aM) (no line:Int):x.note no line=x.setE x.e (x.er.note no line):=by rw[<-m8];rfl
theorem Oi (x:aM) (k:ByteArray) (f:ao):x.setM (qI x.m k f)=x.setE (gA k x.e f).1 (x.er.note (gA k x.e f).2 f.line):=by
 have h:∀c,x.er.note c f.line=⟨(nt x.f c f.line).1,(nt x.f c f.line).2⟩:=λc=>ED x.f c f.line;rw[h];unfold qI gA;split
 ·rfl
 split
 ·rfl
 split
 ·rfl
 split
 ·rfl
 split
 ·rfl
 split
 ·rfl
 split
 ·rfl
 split
 ·rfl
 split
 ·rfl
 rw[L5];rfl
theorem BF (k:ByteArray) (e:aa) (f:ao):(gA k e f).1.cont=e.cont/\(gA k e f).1.styl=e.styl:=by
 unfold gA;repeat (split;· exact⟨rfl,rfl⟩)
 exact⟨rfl,rfl⟩
def u9 (b:jb) (x:aM) (y:dT) (i:Int):Fj:=OZ b (x.setE y.e y.f) y.known.reverse (Kp y.c) (y.n0,y.n1,()) (y.l0,y.l1,()) y.digits y.seats i
def Cp (b:jb) (x:aM) (y:dT):Fj:=Co b (x.setE y.e y.f) y.known.reverse (Kp y.c) (y.n0,y.n1,()) (y.l0,y.l1,()) y.digits y.seats
theorem Mt {x:aM} {y:dT} (h1:y.e.cont=x.cont) (h2:y.e.styl=x.styl):loc (x.setE y.e y.f) y.known.reverse (Kp y.c) (y.n0,y.n1,()) (y.l0,y.l1,()) y.digits y.seats=y:=by
 have:(x.setE y.e y.f).e=y.e:=by
  show(⟨y.e.title,y.e.dots,y.e.blank,y.e.marked,y.e.prec,x.cont,x.styl,y.e.scan,y.e.batch,⟨y.e.risk.neg,y.e.risk.num,y.e.risk.den⟩,y.e.cell,y.e.seed⟩:aa)=y.e;rw[<-h1,<-h2]
 show(⟨(x.setE y.e y.f).e,y.f,y.known.reverse.reverse,y.c,y.n0,y.n1,y.l0,y.l1,y.digits,y.seats⟩:dT)=_;rw[this,aag]
theorem tq (k:ByteArray) (y:dT) (f:ao):(eA k y f).e.cont=y.e.cont/\(eA k y f).e.styl=y.e.styl:=by
 unfold eA;simp only;generalize (y.f.note (if cW (aJ k) f.key=true then 0 else 2) f.line).note (if cW y.known f.key=true then 3 else 0) f.line=f2;repeat (split;· exact⟨rfl,rfl⟩)
 exact BF k y.e f
theorem ZY {k:ByteArray} {b:jb}:is k b=true↔b.kind=k:=xZ
theorem Tt (b:jb) (x:aM) (kn:List ByteArray) (c:mT) (nm:vm) (ln:vp) (d s i:Int) (f:ao) (hf:Jy b.kind f) (hk:(kn.length+1)*17<=140737488355328) (hi:bX (i+1)):(bkB b x kn c nm ln d s i f).hit (u9 b x (eA b.kind (loc x kn c nm ln d s) f) (i+1)):=by
 obtain⟨⟨f1,f2⟩,_⟩:=hf;have hR:∀z:aM,z.er=((x.er.note (if cW (aJ b.kind) f.key=true then 0 else 2) f.line).note (if cW kn.reverse f.key=true then 3 else 0) f.line)->z=x.setE x.e z.er->(bkR b z (f.key::kn) c nm ln d s i f).hit (u9 b x (eA b.kind (loc x kn c nm ln d s) f) (i+1)):=by
  intro z he hz;have Nl:(kn.reverse++[f.key]).reverse=f.key::kn:=by simp
  have hnt:∀no,z.note no f.line=x.setE x.e (z.er.note no f.line):=λno=>by
   rw[mY,hz];rfl
  unfold eA bkR;simp only;have hs:(loc x kn c nm ln d s).f=x.er:=rfl;have CP:(loc x kn c nm ln d s).known=kn.reverse:=rfl;rw[hs,CP,<-he];by_cases h0:z.er.no=0
  ·rw[if_neg (by simpa using h0)];refine aP (by rw[show z.err=0 from h0];rfl) ?_;by_cases h1:b.kind=aj
   ·rw[if_pos h1];refine aH (ZY.2 h1) ⟨⟨f1,f2⟩,?_⟩;have pn:∀d' s',(Ts b (z.note (j0 (Kq c) f).2 f.line) (f.key::kn) (Kp (j0 (Kq c) f).1) nm ln d' s' i).hit (u9 b x { loc x kn c nm ln d s with f:=z.er.note (j0 (Kq c) f).2 f.line,known:=kn.reverse++[f.key],c:=(j0 (Kq c) f).1,digits:=d',seats:=s' } (i+1)):=λd' s'=>⟨hi,by
     unfold u9;simp only;rw[Nl,hnt];rfl⟩
    unfold bkC;by_cases hd:f.key=aC
    ·refine aH (xZ.2 hd) ?_;rw[if_pos hd];by_cases R9:f.key=bz
     ·exact aH (xZ.2 R9) (by rw[if_pos R9];exact pn _ _)
     ·exact aP (by rw[dJ];exact decide_eq_false R9) (by rw[if_neg R9];exact pn _ _)
    ·refine aP (by rw[dJ];exact decide_eq_false hd) ?_;rw[if_neg hd];by_cases R9:f.key=bz
     ·exact aH (xZ.2 R9) (by rw[if_pos R9];exact pn _ _)
     ·exact aP (by rw[dJ];exact decide_eq_false R9) (by rw[if_neg R9];exact pn _ _)
   ·rw[if_neg h1];refine aP (by rw[adc];exact λe=>h1 (ZY.1 e)) ?_;have h2:(bk2 b z (f.key::kn) c nm ln d s i f).hit (u9 b x (if b.kind=aA then { loc x kn c nm ln d s with f:=z.er.note (dc f.vals 4) f.line,known:=kn.reverse++[f.key],n1:=f.vals,l1:=f.line } else { loc x kn c nm ln d s with e:=(gA b.kind x.e f).1,f:=z.er.note (gA b.kind x.e f).2 f.line,known:=kn.reverse++[f.key] }) (i+1)):=by
     unfold bk2;by_cases h2:b.kind=aA
     ·rw[if_pos h2];refine aH (ZY.2 h2) ⟨⟨f1,by decide,f2⟩,hi,?_⟩;unfold u9;simp only;rw[Nl,hnt];rfl
     ·rw[if_neg h2];refine aP (by rw[adc];exact λe=>h2 (ZY.1 e)) ⟨⟨⟨f1,f2⟩,‹_›⟩,hi,?_⟩;unfold u9;simp only;rw[Nl,Oi,hz];rfl
    by_cases h3:b.kind=aA
    ·refine aH (ZY.2 h3) ?_;by_cases h4:f.key=af
     ·rw[if_pos ⟨h3,h4⟩];refine aH (xZ.2 h4) ⟨⟨f1,by decide,f2⟩,hi,?_⟩;unfold u9;simp only;rw[Nl,hnt];rfl
     ·rw[if_neg λq=>h4 q.2];exact aP (by rw[dJ];exact decide_eq_false h4) h2
    ·rw[if_neg λq=>h3 q.1];exact aP (by rw[adc];exact λe=>h3 (ZY.1 e)) h2
  ·rw[if_pos h0];refine aH (by rw[aci];exact beq_eq_false_iff_ne.2 h0) ⟨hi,?_⟩;unfold u9;simp only;rw[Nl,hz];rfl
 have hP:∀z:aM,z.er=((x.er.note (if cW (aJ b.kind) f.key=true then 0 else 2) f.line).note (if cW kn.reverse f.key=true then 3 else 0) f.line)->z=x.setE x.e z.er->(Y9 b z kn c nm ln d s i f).hit (u9 b x (eA b.kind (loc x kn c nm ln d s) f) (i+1)):=λz h1 h2=>⟨hk,hR z h1 h2⟩;have hA:∀z:aM,z.er=x.er.note (if cW (aJ b.kind) f.key=true then 0 else 2) f.line->z=x.setE x.e z.er->(bkA b z kn c nm ln d s i f).hit (u9 b x (eA b.kind (loc x kn c nm ln d s) f) (i+1)):=by
  intro z h1 h2;unfold bkA;by_cases h:cW kn.reverse f.key=true
  ·refine aH h ⟨by decide,hP _ ?_ ?_⟩
   ·rw[m8,h1,if_pos h]
   ·rw[mY,h2];rfl
  ·refine aP (by unfold cW at h;simpa using h) (hP _ ?_ h2);rw[h1,if_neg h];have:∀e:dH,e.note 0 f.line=e:=λe=>if_neg λq=>q.2 rfl;rw[this]
 unfold bkB;by_cases h:cW (aJ b.kind) f.key=true
 ·refine aP (by unfold cW at h;simpa using h) (hA _ ?_ rfl);rw[if_pos h];have:∀e:dH,e.note 0 f.line=e:=λe=>if_neg λq=>q.2 rfl;rw[this]
 ·refine aH (by unfold cW at h;simpa using h) ⟨by decide,hA _ ?_ ?_⟩
  ·rw[m8,if_neg h]
  ·rw[mY];rfl
def Vb (b:jb) (kn:List ByteArray) (i:Int):Prop:=0<=i/\i<=b.fs.length/\(kn.length:Int)=i/\b.fs.length<=1099511627776/\∀f∈b.fs,Jy b.kind f
theorem Ae {k:ByteArray} {l:List ao} {y:dT} {i:Nat} (hi:i<l.length) (h:y.f.no=0):da k (l.drop i) y=da k (l.drop (i+1)) (eA k y (l.getD i ao.zero)):=by
 rw[getD_drop ao.zero hi,da,if_neg (by simpa using h)]
theorem Dv {k:ByteArray} {l:List ao} {y:dT} (h:y.f.no≠0):da k l y=y:=by
 cases l with
 | nil=>rfl
 | cons f l=>rw[da,if_pos h]
theorem xS (b:jb) (x:aM) (kn:List ByteArray) (c:mT) (nm:vm) (ln:vp) (d s:Int):Co b x kn c nm ln d s=Cp b x (loc x kn c nm ln d s):=by
 show _=Co b x kn.reverse.reverse c nm ln d s;rw[aag]
theorem Af (k:ByteArray) (y:dT) (f:ao):(eA k y f).known=y.known++[f.key]:=by
 unfold eA;simp only;generalize (y.f.note (if cW (aJ k) f.key=true then 0 else 2) f.line).note (if cW y.known f.key=true then 3 else 0) f.line=f2;repeat (split;· rfl)
 rfl
theorem J0:eD (JG C7 bfn [0]) 0 0 bkL bkO [(0,sT)] λ((x:aM),(b:jb),(kn:List ByteArray),(c:mT),(nm:vm),(ln:vp),(d:Int),(s:Int),(i:Int),_)=>.nd (Vb b kn i) (.lf (Cp b x (da b.kind (b.fs.drop i.toNat) (loc x kn c nm ln d s)))):=by
 refine eI _ (nL _ _) 99 0 0 bkL bkO [(0,sT)] (λ((x:aM),(b:jb),(kn:List ByteArray),(c:mT),(nm:vm),(ln:vp),(d:Int),(s:Int),(i:Int),_)=>bkT b x kn c nm ln d s i)
  (λ(_,(b:jb),_,_,_,_,_,_,(i:Int),_)=>b.fs.length-i.toNat) ?_
 rintro⟨(x:aM),(b:jb),(kn:List ByteArray),(c:mT),(nm:vm),(ln:vp),(d:Int),(s:Int),(i:Int),_⟩ r _ ⟨⟨h0,h1,h2,h3,h4⟩,hr⟩;obtain rfl:Cp b x (da b.kind (b.fs.drop i.toNat) (loc x kn c nm ln d s))=r:=hr;obtain⟨k,rfl⟩:∃k:Nat,i=k:=⟨i.toNat,by omega⟩;rw[aae];show∃q,(bkT b x kn c nm ln d s k).hit q/\_;unfold bkT;by_cases hk:k<b.fs.length
 ·by_cases he:x.err=0
  ·have hy:(loc x kn c nm ln d s).f.no=0:=he;have hf:=h4 (b.fs.getD k ao.zero) (by rw[aac,aaa hk];exact aaG hk);refine⟨_,aH (decide_eq_true (by omega)) (aH (beq_iff_eq.2 he) ⟨⟨by omega,by omega⟩,Tt b x kn c nm ln d s k _ (by rw[aae];exact hf) (by omega) ⟨by omega,by omega⟩⟩),?_,?_⟩
   ·show b.fs.length-(k+1)<b.fs.length-k;omega
   ·rw[aae,Ae hk hy];obtain⟨r1,r2⟩:=tq b.kind (loc x kn c nm ln d s) (b.fs.getD k ao.zero);have nP:=Af b.kind (loc x kn c nm ln d s) (b.fs.getD k ao.zero);generalize eA b.kind (loc x kn c nm ln d s) (b.fs.getD k ao.zero)=y at*;refine⟨⟨by omega,by omega,?_,h3,h4⟩,?_⟩
    ·rw[nP,aak,aaj];show((kn.reverse.length+1:Nat):Int)=(k:Int)+1;rw[aak];omega
    ·show Cp b (x.setE y.e y.f) _=_;exact congrArg (λz=>Cp b (x.setE y.e y.f) (da b.kind (b.fs.drop (k+1)) z)) (Mt r1 r2)
  ·refine⟨_,aH (decide_eq_true (by omega)) (aP (beq_eq_false_iff_ne.2 he) rfl),?_⟩;rw[Dv (by exact he)];exact xS b x kn c nm ln d s
 ·refine⟨_,aP (decide_eq_false (by omega)) rfl,?_⟩;rw[aaq (by omega)];exact xS b x kn c nm ln d s
abbrev bmL:List (Nat×SS):=[(0,sT),(3,sBb),(4,PH),(5,VU),(6,sNb),(7,sLb),(8,sI),(9,sI),(12,sL),(13,sI)]
abbrev BmE:=LE bmL bkO [(0,sT)]
def jb.ln (b:jb):Int:=b.2.2.2.1
def jb.nm (b:jb):ByteArray:=b.2.1
def mT.me (c:mT):Int:=c.2.2.1
section
variable (b:jb) (kn:List ByteArray) (c:mT) (nm:vm) (ln:vp) (d s:Int) (l:List ByteArray) (i:Int)
def Y7 (x:aM):BmE:=.back (x,b,kn,c,nm,ln,d,s,l,i+1,())
def xQ (x:aM):BmE:=.out (x,b,kn,c,nm,ln,d,s,())
def bmN (x:aM):T BmE:=.nd (bX (i+1)) (.lf (Y7 b kn c nm ln d s l i x))
def bmF (x:aM):T BmE:=.nd ((0:Int)≠6) (bmN b kn c nm ln d s l i (x.note 6 b.ln))
def bmT (x:aM):T BmE:=
 .br (decide (i<l.length)) (.br (x.err==0) (.nd (0<=i/\i<l.length) (.br (decide (Lib.idxOfS kn.reverse (l.getD i.toNat ⟨#[]⟩)<0)) (.nd (0<=i/\i<l.length)
  (.br (!((l.getD i.toNat ⟨#[]⟩).toList==aC.toList)) (bmF b kn c nm ln d s l i x) (.br (c.me==2) (bmF b kn c nm ln d s l i x) (bmN b kn c nm ln d s l i x)))) (bmN b kn c nm ln d s l i x))) (.lf (xQ b kn c nm ln d s x))) (.lf (xQ b kn c nm ln d s x))
end
theorem JZ:eD (JG C7 bfn [0]) 1 3 bmL bkO [(0,sT)] λ((x:aM),(b:jb),(kn:List ByteArray),(c:mT),(nm:vm),(ln:vp),(d:Int),(s:Int),(l:List ByteArray),(i:Int),_)=>.nd (0<=i/\i<=l.length) (.lf (xQ b kn c nm ln d s (x.setE x.e (fh kn.reverse c.me b.ln (l.drop i.toNat) x.er)))):=by
 refine eI _ (nL _ _) 99 1 3 bmL bkO [(0,sT)] (λ((x:aM),(b:jb),(kn:List ByteArray),(c:mT),(nm:vm),(ln:vp),(d:Int),(s:Int),(l:List ByteArray),(i:Int),_)=>bmT b kn c nm ln d s l i x)
  (λ(_,_,_,_,_,_,_,_,(l:List ByteArray),(i:Int),_)=>l.length-i.toNat) ?_
 rintro⟨(x:aM),(b:jb),(kn:List ByteArray),(c:mT),(nm:vm),(ln:vp),(d:Int),(s:Int),(l:List ByteArray),(i:Int),_⟩ r pZ ⟨⟨h0,h1⟩,hr⟩;have hl:l.length<=9223372036854775807:=pZ.2.2.2.2.2.2.2.2.1;obtain rfl:xQ b kn c nm ln d s (x.setE x.e (fh kn.reverse c.me b.ln (l.drop i.toNat) x.er))=r:=hr;obtain⟨k,rfl⟩:∃k:Nat,i=k:=⟨i.toNat,by omega⟩;rw[aae];show∃q,(bmT b kn c nm ln d s l k x).hit q/\_;unfold bmT;by_cases hk:k<l.length
 ·have hx:=getD_drop (⟨#[]⟩:ByteArray) hk;by_cases he:x.err=0
  ·have dec:l.length-(k+1)<l.length-k:=by omega
   have dI:bX ((k:Int)+1):=⟨by omega,by omega⟩;rw[hx,fh,if_neg (by simpa using(show x.er.no=0 from he))];rw[aae];have key:∀no,(if cW kn.reverse (l.getD k ⟨#[]⟩)=true\/(l.getD k ⟨#[]⟩=aC/\c.me≠2) then(0:Int) else 6)=no->xQ b kn c nm ln d s ((x.note no b.ln).setE (x.note no b.ln).e (fh kn.reverse c.me b.ln (l.drop (k+1)) (x.note no b.ln).er))=xQ b kn c nm ln d s (x.setE x.e (fh kn.reverse c.me b.ln (l.drop (k+1)) (x.er.note (if cW kn.reverse (l.getD k ⟨#[]⟩)=true\/(l.getD k ⟨#[]⟩=aC/\c.me≠2) then 0 else 6) b.ln))):=by
    rintro no rfl;rw[m8];rfl
   have no0:(x.note 0 b.ln)=x:=sp _;by_cases hh:cW kn.reverse (l.getD k ⟨#[]⟩)=true
   ·refine⟨_,aH (decide_eq_true (by omega)) (aH (beq_iff_eq.2 he) ⟨⟨by omega,by omega⟩,aP (by unfold cW at hh;simpa using hh) ⟨dI,rfl⟩⟩),dec,⟨by omega,by omega⟩,?_⟩;have:=key 0 (if_pos (.inl hh));rw[no0] at this;exact this
   ·have hlt:decide (Lib.idxOfS kn.reverse (l.getD k ⟨#[]⟩)<0)=true:=by unfold cW at hh;simpa using hh
    by_cases hd:l.getD k ⟨#[]⟩=aC
    ·by_cases hm:c.me=2
     ·refine⟨_,aH (decide_eq_true (by omega)) (aH (beq_iff_eq.2 he) ⟨⟨by omega,by omega⟩,aH hlt ⟨⟨by omega,by omega⟩,aP (by rw[Bool.not_eq_false'];exact xZ.2 hd) (aH (beq_iff_eq.2 hm) ⟨by decide,dI,rfl⟩)⟩⟩),dec,⟨by omega,by omega⟩,key 6 (if_neg λq=>q.elim hh λq=>q.2 hm)⟩
     ·refine⟨_,aH (decide_eq_true (by omega)) (aH (beq_iff_eq.2 he) ⟨⟨by omega,by omega⟩,aH hlt ⟨⟨by omega,by omega⟩,aP (by rw[Bool.not_eq_false'];exact xZ.2 hd) (aP (beq_eq_false_iff_ne.2 hm) ⟨dI,rfl⟩)⟩⟩),dec,⟨by omega,by omega⟩,?_⟩;have:=key 0 (if_pos (.inr ⟨hd,hm⟩));rw[no0] at this;exact this
    ·refine⟨_,aH (decide_eq_true (by omega)) (aH (beq_iff_eq.2 he) ⟨⟨by omega,by omega⟩,aH hlt ⟨⟨by omega,by omega⟩,aH (by rw[aci,dJ];exact decide_eq_false hd) ⟨by decide,dI,rfl⟩⟩⟩),dec,⟨by omega,by omega⟩,key 6 (if_neg λq=>q.elim hh λq=>hd q.1)⟩
  ·refine⟨_,aH (decide_eq_true (by omega)) (aP (beq_eq_false_iff_ne.2 he) rfl),?_⟩;rw[hx,fh,if_pos (by exact he)];rfl
 ·refine⟨_,aP (decide_eq_false (by omega)) rfl,?_⟩;rw[aaq (by omega),fh];rfl
def aM.rc (x:aM):List (ae):=x.2.2.2.2.2.1
def aM.ac (x:aM) (v:ae):aM:=(x.1,x.2.1,x.2.2.1,x.2.2.2.1,x.2.2.2.2.1,(List.cons (α:=ae) v x.rc),x.2.2.2.2.2.2.1,x.2.2.2.2.2.2.2.1,x.2.2.2.2.2.2.2.2.1,x.2.2.2.2.2.2.2.2.2.1,x.2.2.2.2.2.2.2.2.2.2.1,x.2.2.2.2.2.2.2.2.2.2.2.1,x.2.2.2.2.2.2.2.2.2.2.2.2.1,x.2.2.2.2.2.2.2.2.2.2.2.2.2.1,x.2.2.2.2.2.2.2.2.2.2.2.2.2.2.1,x.2.2.2.2.2.2.2.2.2.2.2.2.2.2.2.1,x.2.2.2.2.2.2.2.2.2.2.2.2.2.2.2.2.1,x.2.2.2.2.2.2.2.2.2.2.2.2.2.2.2.2.2.1,x.2.2.2.2.2.2.2.2.2.2.2.2.2.2.2.2.2.2.1,())
def aM.rs (x:aM):List (ByteArray):=x.2.2.2.2.2.2.1
def aM.as (x:aM) (v:ByteArray):aM:=(x.1,x.2.1,x.2.2.1,x.2.2.2.1,x.2.2.2.2.1,x.2.2.2.2.2.1,(List.cons (α:=ByteArray) v x.rs),x.2.2.2.2.2.2.2.1,x.2.2.2.2.2.2.2.2.1,x.2.2.2.2.2.2.2.2.2.1,x.2.2.2.2.2.2.2.2.2.2.1,x.2.2.2.2.2.2.2.2.2.2.2.1,x.2.2.2.2.2.2.2.2.2.2.2.2.1,x.2.2.2.2.2.2.2.2.2.2.2.2.2.1,x.2.2.2.2.2.2.2.2.2.2.2.2.2.2.1,x.2.2.2.2.2.2.2.2.2.2.2.2.2.2.2.1,x.2.2.2.2.2.2.2.2.2.2.2.2.2.2.2.2.1,x.2.2.2.2.2.2.2.2.2.2.2.2.2.2.2.2.2.1,x.2.2.2.2.2.2.2.2.2.2.2.2.2.2.2.2.2.2.1,())
def aM.rn (x:aM):List (ByteArray):=x.2.2.2.2.2.2.2.2.2.2.2.2.2.2.1
def aM.an (x:aM) (v:ByteArray):aM:=(x.1,x.2.1,x.2.2.1,x.2.2.2.1,x.2.2.2.2.1,x.2.2.2.2.2.1,x.2.2.2.2.2.2.1,x.2.2.2.2.2.2.2.1,x.2.2.2.2.2.2.2.2.1,x.2.2.2.2.2.2.2.2.2.1,x.2.2.2.2.2.2.2.2.2.2.1,x.2.2.2.2.2.2.2.2.2.2.2.1,x.2.2.2.2.2.2.2.2.2.2.2.2.1,x.2.2.2.2.2.2.2.2.2.2.2.2.2.1,(List.cons (α:=ByteArray) v x.rn),x.2.2.2.2.2.2.2.2.2.2.2.2.2.2.2.1,x.2.2.2.2.2.2.2.2.2.2.2.2.2.2.2.2.1,x.2.2.2.2.2.2.2.2.2.2.2.2.2.2.2.2.2.1,x.2.2.2.2.2.2.2.2.2.2.2.2.2.2.2.2.2.2.1,())
def aM.rl (x:aM):List (Int×Int):=x.2.2.2.2.2.2.2.2.2.2.2.2.2.2.2.1
def aM.al (x:aM) (v:Int×Int):aM:=(x.1,x.2.1,x.2.2.1,x.2.2.2.1,x.2.2.2.2.1,x.2.2.2.2.2.1,x.2.2.2.2.2.2.1,x.2.2.2.2.2.2.2.1,x.2.2.2.2.2.2.2.2.1,x.2.2.2.2.2.2.2.2.2.1,x.2.2.2.2.2.2.2.2.2.2.1,x.2.2.2.2.2.2.2.2.2.2.2.1,x.2.2.2.2.2.2.2.2.2.2.2.2.1,x.2.2.2.2.2.2.2.2.2.2.2.2.2.1,x.2.2.2.2.2.2.2.2.2.2.2.2.2.2.1,(List.cons (α:=Int×Int) v x.rl),x.2.2.2.2.2.2.2.2.2.2.2.2.2.2.2.2.1,x.2.2.2.2.2.2.2.2.2.2.2.2.2.2.2.2.2.1,x.2.2.2.2.2.2.2.2.2.2.2.2.2.2.2.2.2.2.1,())
def aM.rm (x:aM):List (List ByteArray×List ByteArray):=x.2.2.2.2.2.2.2.2.2.2.2.2.2.2.2.2.1
def aM.am (x:aM) (v:List ByteArray×List ByteArray):aM:=(x.1,x.2.1,x.2.2.1,x.2.2.2.1,x.2.2.2.2.1,x.2.2.2.2.2.1,x.2.2.2.2.2.2.1,x.2.2.2.2.2.2.2.1,x.2.2.2.2.2.2.2.2.1,x.2.2.2.2.2.2.2.2.2.1,x.2.2.2.2.2.2.2.2.2.2.1,x.2.2.2.2.2.2.2.2.2.2.2.1,x.2.2.2.2.2.2.2.2.2.2.2.2.1,x.2.2.2.2.2.2.2.2.2.2.2.2.2.1,x.2.2.2.2.2.2.2.2.2.2.2.2.2.2.1,x.2.2.2.2.2.2.2.2.2.2.2.2.2.2.2.1,(List.cons (α:=List ByteArray×List ByteArray) v x.rm),x.2.2.2.2.2.2.2.2.2.2.2.2.2.2.2.2.2.1,x.2.2.2.2.2.2.2.2.2.2.2.2.2.2.2.2.2.2.1,())
def aM.ofN (t:eh) (z:List ByteArray):aM:=(t.e.title,t.e.dots,t.e.blank,t.e.marked,t.e.prec,t.e.cont.reverse,z,t.e.scan,t.e.batch,t.e.risk.neg,t.e.risk.num,t.e.risk.den,t.e.cell,t.e.seed,t.seen.reverse,t.lines.reverse,t.names.reverse,t.f.no,t.f.line,())
def gj (l:List ai):List ByteArray:=l.map (·.name)
def aM.ofR (t:eh):aM:=.ofN t (gj t.e.styl).reverse
theorem yC (l:List ByteArray):gj (l.map λn=>⟨n,[],[]⟩)=l:=by
 unfold gj;rw[List.map_map];exact List.map_id l
theorem l9 (x:aM) (e:aa) (f:dH) (h1:e.cont=x.cont) (h2:e.styl=x.styl):x.setE e f=.ofR ⟨e,x.seen,x.lines,x.names,f⟩:=by
 have r1:x.rc=e.cont.reverse:=by rw[h1];exact(aag _).symm
 have r2:x.rs=(gj e.styl).reverse:=by
  rw[h2];show x.rs=(gj (x.snm.map λn=>⟨n,[],[]⟩)).reverse;rw[yC];exact(aag _).symm
 have r3:x.rn=x.seen.reverse:=(aag _).symm;have r4:x.rl=x.lines.reverse:=(aag _).symm;have r5:x.rm=x.names.reverse:=(aag _).symm;show(e.title,e.dots,e.blank,e.marked,e.prec,x.rc,x.rs,e.scan,e.batch,e.risk.neg,e.risk.num,e.risk.den,e.cell,e.seed,x.rn,x.rl,x.rm,f.no,f.line,())=_;rw[r1,r2,r3,r4,r5];rfl
theorem tO (t:eh) (no line:Int):(aM.ofR t).note no line=.ofR (t.note no line):=by
 show(aM.ofR t).setF (nt (aM.ofR t).f no line)=.ofN { t with f:=t.f.note no line } (gj t.e.styl).reverse;have:=ED (t.f.no,t.f.line) no line;have h2:t.f.note no line=⟨(nt (t.f.no,t.f.line) no line).1,(nt (t.f.no,t.f.line) no line).2⟩:=this;rw[h2];rfl
theorem oS {α:Type} (l:List α) (v:α):(l++[v]).reverse=v::l.reverse:=by simp
theorem abx (t:eh) (v:ae):(aM.ofR t).ac v=.ofR { t with e:={ t.e with cont:=t.e.cont++[v] } }:=by
 have:=oS t.e.cont v;unfold aM.ofR aM.ofN;rw[this];rfl
theorem abv (t:eh) (v:ai):(aM.ofR t).as v.name=.ofR { t with e:={ t.e with styl:=t.e.styl++[v] } }:=by
 have:(gj (t.e.styl++[v])).reverse=v.name::(gj t.e.styl).reverse:=by unfold gj;simp
 show _=aM.ofN t (gj (t.e.styl++[v])).reverse;rw[this];rfl
theorem abw (t:eh) (v:ByteArray):(aM.ofR t).an v=.ofR { t with seen:=t.seen++[v] }:=by
 have:=oS t.seen v;unfold aM.ofR aM.ofN;rw[this];rfl
theorem Wp (t:eh) (v:Int×Int) (u:List ByteArray×List ByteArray):((aM.ofR t).am u).al v=.ofR { t with lines:=t.lines++[v],names:=t.names++[u] }:=by
 have h1:=oS t.lines v;have h2:=oS t.names u;unfold aM.ofR aM.ofN;rw[h1,h2];rfl
def Zb (b:jb) (x:aM):T SR:=.nd ((x.rn.length+1)*17<=140737488355328) (.lf (Hi (.tup []) (x.an b.kind)))
def be3 (b:jb) (c:mT) (x:aM):T SR:=.nd ((x.rc.length+1)*97<=140737488355328) (Zb b (x.ac { Kq c with name:=b.nm }))
def mT.se (c:mT):Int:=c.2.2.2.1
def be2 (b:jb) (c:mT) (s:Int) (x:aM):T SR:=.br (c.me==1) (.br (decide (c.se>1)) (.nd ((0:Int)≠4) (be3 b c (x.note 4 s))) (be3 b c x)) (be3 b c x)
def beC (b:jb) (kn:List ByteArray) (c:mT) (d s:Int) (x:aM):T SR:=.br (decide (Lib.idxOfS kn.reverse aC>=0)) (.br (!(c.me==2)) (.nd ((0:Int)≠5) (be2 b c s (x.note 5 d))) (be2 b c s x)) (be2 b c s x)
def beY (b:jb) (nm:vm) (ln:vp) (x:aM):T SR:=.nd ((x.rs.length+1)*65<=140737488355328) (.nd ((x.rm.length+1)*49<=140737488355328) (.nd ((x.rl.length+1)*17<=140737488355328) (Zb b (((x.as b.nm).am (nm.1,nm.2.1)).al (ln.1,ln.2.1)))))
def aM.bl (x:aM):Int:=x.2.2.1
def aM.mk' (x:aM):Int:=x.2.2.2.1
def beN (b:jb) (x:aM):T SR:=.br (is bR b) (.br (decide (x.bl>x.mk')) (.nd ((0:Int)≠4) (Zb b (x.note 4 b.ln))) (Zb b x)) (Zb b x)
def beT (b:jb) (kn:List ByteArray) (c:mT) (nm:vm) (ln:vp) (d s:Int) (x:aM):T SR:=
 .br (!(x.err==0)) (Zb b x) (.br (is aj b) (beC b kn c d s x) (.br (is aA b) (beY b nm ln x) (beN b x)))
def Vg (b:av):jb:=(b.kind,b.name,b.fields,b.line,())
def kN (x:aM) (b:av):dT:=da b.kind b.fields (loc (x.note (iX x.r b.kind b.name) b.line) [] (Kp ae.zero) ([],[],()) ((0:Int),(0:Int),()) 0 0)
def Vf (x:aM) (b:av):aM:=(x.note (iX x.r b.kind b.name) b.line).setE (kN x b).e (kN x b).f
def beB (x:aM) (b:av):T SR:=.nd (b.name.size<=9223372036854775807) (.nd (Vb (Vg b) [] 0) (.nd ((0:Int)<=0/\(0:Int)<=(aJ b.kind).length)
 (beT (Vg b) (kN x b).known.reverse (Kp (kN x b).c) ((kN x b).n0,(kN x b).n1,()) ((kN x b).l0,(kN x b).l1,()) (kN x b).digits (kN x b).seats ((Vf x b).setE (Vf x b).e (fh (kN x b).known.reverse.reverse (Kp (kN x b).c).me b.line (aJ b.kind) (Vf x b).er)))))
def E4 (x:aM) (b:av):Prop:=b.name.size<=9223372036854775807/\b.fields.length<=1099511627776/\(∀f∈b.fields,Jy b.kind f)/\x.rn.length<=1099511627776/\x.rc.length<=1099511627776/\x.rs.length<=1099511627776/\x.rm.length<=1099511627776/\x.rl.length<=1099511627776
theorem lY (k:ByteArray):∀(l:List ao) (y:dT),(da k l y).e.cont=y.e.cont/\(da k l y).e.styl=y.e.styl
 | [],_=>⟨rfl,rfl⟩
 | f::l,y=>by
  unfold da;split
  ·exact⟨rfl,rfl⟩
  ·obtain⟨h1,h2⟩:=lY k l (eA k y f);obtain⟨h3,h4⟩:=tq k y f;exact⟨h1.trans h3,h2.trans h4⟩
theorem Zc (x:aM) (b:av):kN x b=da b.kind b.fields (dT.start x.r b):=by
 unfold kN dT.start loc;have:=m8 x (iX x.r b.kind b.name) b.line;show da b.kind b.fields ⟨x.e,(x.note (iX x.r b.kind b.name) b.line).er,[],ae.zero,[],[],0,0,0,0⟩=_;rw[this];rfl
section
variable {b:av} {t:eh} (hn:t.seen.length<=1099511627776) (hc:t.e.cont.length<=1099511627776) (hs:t.e.styl.length<=1099511627776) (hm:t.names.length<=1099511627776) (hl:t.lines.length<=1099511627776)
include hn in
theorem pP:(Zb (Vg b) (.ofR t)).hit (Hi (.tup []) (.ofR { t with seen:=t.seen++[b.kind] })):=by
 refine⟨?_,?_⟩
 ·show(t.seen.reverse.length+1)*17<=_;rw[aak];omega
 ·rw[show(Vg b).kind=b.kind from rfl,abw];rfl
include hn hc in
theorem Ha (c:ae):(be3 (Vg b) (Kp c) (.ofR t)).hit (Hi (.tup []) (.ofR { t with e:={ t.e with cont:=t.e.cont++[{ c with name:=b.name }] },seen:=t.seen++[b.kind] })):=by
 refine⟨?_,?_⟩
 ·show(t.e.cont.reverse.length+1)*97<=_;rw[aak];omega
 ·rw[abx];exact pP (t:={ t with e:={ t.e with cont:=t.e.cont++[{ c with name:=b.name }] } }) hn
include hn hc in
theorem Hb (c:ae) (s:Int):(be2 (Vg b) (Kp c) s (.ofR t)).hit (Hi (.tup []) (.ofR { t with e:={ t.e with cont:=t.e.cont++[{ c with name:=b.name }] },seen:=t.seen++[b.kind],f:=t.f.note (if c.method=1/\1<c.seats then 4 else 0) s })):=by
 unfold be2;refine nZ (F:=λno=>Hi (.tup []) (.ofR { t with e:={ t.e with cont:=t.e.cont++[{ c with name:=b.name }] },seen:=t.seen++[b.kind],f:=t.f.note no s })) (by show c.method=1/\1<c.seats↔(c.method==1)=true/\decide (c.seats>1)=true;simp) ⟨by decide,?_⟩ ?_
 ·rw[tO];exact Ha (t:=t.note 4 s) hn hc c
 ·have:t.f.note 0 s=t.f:=if_neg λq=>q.2 rfl;simp only[this];exact Ha (t:=t) hn hc c
end
theorem J3:fk Tryz.prog 63 [0] [(0,sT),(1,sBk)] [(0,sT)] λ((x:aM),(b:av),_)=>.nd (E4 x b) (.lf (Hi (.tup []) (.ofR (fv x.r b)))):=by
 refine jA (C:=C7) (pb:=[0]) (((nL _ _).add 0 _ J0).add 1 _ JZ) 99 [(0,sT),(1,sBk)] [(0,sT)] (λ((x:aM),(b:av),_)=>beB x b) ?_ Tryz.func63;rintro⟨(x:aM),(b:av),_⟩ r pZ ⟨⟨h1,h2,h3,h4,h5,h6,h7,h8⟩,hr⟩;obtain rfl:Hi (.tup []) (.ofR (fv x.r b))=r:=hr;refine⟨h1,⟨by omega,by omega,rfl,h2,h3⟩,⟨by omega,by omega⟩,?_⟩;obtain⟨r1,r2⟩:=lY b.kind b.fields (dT.start x.r b);unfold fv;rw[<-Zc] at r1 r2 ⊢;have hX:(Vf x b).setE (Vf x b).e (fh (kN x b).known.reverse.reverse (Kp (kN x b).c).me b.line (aJ b.kind) (Vf x b).er)=.ofR ⟨(kN x b).e,x.seen,x.lines,x.names,fh (kN x b).known (kN x b).c.method b.line (aJ b.kind) (kN x b).f⟩:=by
  rw[aag];have e1:Vf x b=.ofR ⟨(kN x b).e,x.seen,x.lines,x.names,(kN x b).f⟩:=l9 (x.note (iX x.r b.kind b.name) b.line) _ _ r1 r2;have e2:(Vf x b).e=(kN x b).e:=by
   rw[e1];have r2':(kN x b).e.styl=x.snm.map λn=>⟨n,[],[]⟩:=r2;have CP:(((gj (kN x b).e.styl).reverse.reverse).map λn=>(⟨n,[],[]⟩:ai))=(kN x b).e.styl:=by
    rw[r2',aag,yC]
   show(⟨(kN x b).e.title,(kN x b).e.dots,(kN x b).e.blank,(kN x b).e.marked,(kN x b).e.prec,(kN x b).e.cont.reverse.reverse,((gj (kN x b).e.styl).reverse.reverse).map λn=>⟨n,[],[]⟩,(kN x b).e.scan,(kN x b).e.batch,(kN x b).e.risk,(kN x b).e.cell,(kN x b).e.seed⟩:aa)=_;rw[CP,aag]
  rw[e2];exact l9 (x.note (iX x.r b.kind b.name) b.line) _ _ r1 r2
 rw[hX];have hn:x.seen.length<=1099511627776:=by show x.rn.reverse.length<=_;rw[aak];exact h4
 have hc:(kN x b).e.cont.length<=1099511627776:=by rw[r1];show x.rc.reverse.length<=_;rw[aak];exact h5
 have hs:(kN x b).e.styl.length<=1099511627776:=by rw[r2];show(x.rs.reverse.map _).length<=_;rw[abm,aak];exact h6
 have hm:x.names.length<=1099511627776:=by show x.rm.reverse.length<=_;rw[aak];exact h7
 have hl:x.lines.length<=1099511627776:=by show x.rl.reverse.length<=_;rw[aak];exact h8
 clear hX r1 r2 h3 pZ;have acp:x.r.seen=x.seen:=rfl;have Kl:x.r.names=x.names:=rfl;have yV:x.r.lines=x.lines:=rfl;generalize kN x b=y at*;unfold qM;simp only;rw[acp,Kl,yV];generalize fh y.known y.c.method b.line (aJ b.kind) y.f=f;generalize x.seen=se at*;generalize x.names=na at*;generalize x.lines=li at*;unfold beT;by_cases h0:f.no≠0
 ·rw[if_pos h0];exact aH (by rw[aci];exact beq_eq_false_iff_ne.2 h0) (pP (t:=⟨y.e,se,li,na,f⟩) hn)
 rw[if_neg h0];refine aP (by rw[Bool.not_eq_false'];exact beq_iff_eq.2 (Decidable.not_not.1 h0)) ?_;have Xd:∀k,is k (Vg b)=true↔b.kind=k:=λk=>xZ;by_cases h1:b.kind=aj
 ·rw[if_pos h1];refine aH ((Xd _).2 h1) ?_;unfold beC;rw[aag];refine nZ (F:=λno=>Hi (.tup []) (.ofR { e:={ y.e with cont:=y.e.cont++[{ y.c with name:=b.name }] },seen:=se++[b.kind],lines:=li,names:=na,f:=(f.note no y.digits).note (if y.c.method=1/\1<y.c.seats then 4 else 0) y.seats })) (by show cW y.known aC=true/\y.c.method≠2↔cW y.known aC=true/\(!(y.c.method==2))=true;simp) ⟨by decide,?_⟩ ?_
  ·rw[tO];exact Hb (t:=(⟨y.e,se,li,na,f⟩:eh).note 5 y.digits) hn hc y.c y.seats
  ·have:f.note 0 y.digits=f:=if_neg λq=>q.2 rfl;rw[this];exact Hb (t:=⟨y.e,se,li,na,f⟩) hn hc y.c y.seats
 rw[if_neg h1];refine aP (by rw[adc];exact λe=>h1 ((Xd _).1 e)) ?_;by_cases h2:b.kind=aA
 ·rw[if_pos h2];refine aH ((Xd _).2 h2) ⟨?_,?_,?_,?_⟩
  ·show((gj y.e.styl).reverse.length+1)*65<=_;unfold gj;rw[aak,abm];omega
  ·show(na.reverse.length+1)*49<=_;rw[aak];omega
  ·show(li.reverse.length+1)*17<=_;rw[aak];omega
  ·rw[show(Vg b).nm=(⟨b.name,[],[]⟩:ai).name from rfl,abv,Wp];exact pP (t:={ e:={ y.e with styl:=y.e.styl++[⟨b.name,[],[]⟩] },seen:=se,lines:=li++[(y.l0,y.l1)],names:=na++[(y.n0,y.n1)],f:=f }) hn
 rw[if_neg h2];refine aP (by rw[adc];exact λe=>h2 ((Xd _).1 e)) ?_;unfold beN;by_cases h3:b.kind=bR/\y.e.marked<y.e.blank
 ·rw[if_pos h3];refine aH ((Xd _).2 h3.1) (aH (decide_eq_true h3.2) ⟨by decide,?_⟩);rw[tO];exact pP (t:=(⟨y.e,se,li,na,f⟩:eh).note 4 b.line) hn
 ·rw[if_neg h3];have dG:=pP (b:=b) (t:=⟨y.e,se,li,na,f⟩) hn;by_cases h4:b.kind=bR
  ·exact aH ((Xd _).2 h4) (aP (decide_eq_false λq=>h3 ⟨h4,q⟩) dG)
  ·exact aP (by rw[adc];exact λe=>h4 ((Xd _).1 e)) dG
end Go.Proofs.YtdbpbfglhbiadaaGreatDoor
