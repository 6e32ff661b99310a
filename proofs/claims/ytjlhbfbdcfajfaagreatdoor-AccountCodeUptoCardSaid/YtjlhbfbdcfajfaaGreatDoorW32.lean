/- Tp3 Tp4 Tp5 Tp6 Tp7 Lnk1 Tp8 Tp9 Tp10 Tp11 -/
import Derived.Test.YtjlhbfbdcfajfaaGreatDoorW00
import Derived.Test.YtjlhbfbdcfajfaaGreatDoorW31
import Derived.Test.YtjlhbfbdcfajfaaGreatDoorW16
import Derived.Test.YtjlhbfbdcfajfaaGreatDoorW11
import Derived.Test.YtjlhbfbdcfajfaaGreatDoorW09
set_option maxHeartbeats 8000000
set_option maxRecDepth 100000
namespace Go.Proofs.YtjlhbfbdcfajfaaGreatDoor
open Go Go.RowKit
noncomputable def CV3:hZ Tryz.prog:=dj M8 [⟨_,_,_,tG⟩,⟨_,_,_,Jl⟩,⟨_,_,_,Uj⟩,⟨_,_,_,tT⟩,⟨_,_,_,Uc⟩] [⟨_,_,_,_,_,Tx⟩]
abbrev VX.L (x:VX):Nat×(ByteArray→Option (List ByteArray)):=x.2.1
abbrev VX.N (x:VX):Nat×(ByteArray→Option Int):=x.2.2.1
def VX.setL (x:VX) (k:ByteArray) (v:Int):VX:=(x.1,x.2.1,(x.2.2.1.1+1,mT .s x.2.2.1.2 k v),x.2.2.2)
def VX.setV (x:VX) (k:ByteArray) (v:List ByteArray):VX:=(x.1,(x.2.1.1+1,mT .s x.2.1.2 k v),x.2.2)
def kOk (k:ByteArray) (n:Nat):Prop:=Kt.ok .s k∧n<1000000000000
def ada (x:VX) (k:ByteArray) (f:ao):T (XV×VX×Unit):=
 .br (!(Lib.containsS (aM k) f.key)) (.lf (uz (aI 2) x)) (.nd (Kt.ok .s f.key) (.br (x.N.2 f.key).isSome (.lf (uz (aI 3) x)) (.nd (kOk f.key x.N.1)
 (.br (decide (dn f.key>0)) (.nd (f.vals.length≤1099511627776) (.nd (kOk f.key x.L.1) (.nd (∀s∈f.vals,dP s) (.lf (uz (aI (eO f.vals (dn f.key))) ((x.setL f.key f.line).setV f.key f.vals))))))
 (.br (!((f.vals.length:Int)==1)) (.lf (uz (aI 7) (x.setL f.key f.line))) (.nd ((0:Int)≤0∧(0:Int)<f.vals.length) (.nd (I5 f.key (x.setL f.key f.line)∧dP (f.vals.getD 0 ⟨#[]⟩)) (.lf (uz (aI (oi f.key (f.vals.getD 0 ⟨#[]⟩) (x.setL f.key f.line)).1) (oi f.key (f.vals.getD 0 ⟨#[]⟩) (x.setL f.key f.line)).2)))))))))
def fA (k:ByteArray) (f:ao) (x:VX):Int×VX:=
 if Lib.containsS (aM k) f.key=false then(2,x)
 else if(x.N.2 f.key).isSome then(3,x)
 else if 0<dn f.key then(eO f.vals (dn f.key),(x.setL f.key f.line).setV f.key f.vals)
 else if f.vals.length≠1 then(7,x.setL f.key f.line)
 else oi f.key (f.vals.getD 0 ⟨#[]⟩) (x.setL f.key f.line)
def VX.n (x:VX) (n:Nat):Prop:=x.1.1≤n∧x.L.1≤n∧x.N.1≤n
def rW (f:ao):Prop:=dP f.key∧f.vals.length≤1099511627776∧∀s∈f.vals,dP s
theorem VX.v_setL (x:VX) (k:ByteArray) (v:Int):(x.setL k v).v={ x.v with ln:=setF x.v.ln k v }:=
 congrArg (fun f:ByteArray→Option Int=>(⟨x.1.2,x.2.1.2,f,⟨x.2.2.2.1,x.2.2.2.2.1,x.2.2.2.2.2.1⟩,x.2.2.2.2.2.2.1⟩:aC)) (KH x.2.2.1.2 k v)
theorem VX.v_setV (x:VX) (k:ByteArray) (v:List ByteArray):(x.setV k v).v={ x.v with lst:=setF x.v.lst k v }:=
 congrArg (fun f:ByteArray→Option (List ByteArray)=>(⟨x.1.2,f,x.2.2.1.2,⟨x.2.2.2.1,x.2.2.2.2.1,x.2.2.2.2.2.1⟩,x.2.2.2.2.2.2.1⟩:aC)) (KH x.2.1.2 k v)
theorem Tk (k:ByteArray) (f:ao) (x:VX):aZ k f x.v=((fA k f x).1,(fA k f x).2.v):=by
 unfold aZ fA;split
 ·rfl
 split
 ·rename_i h;rw[if_pos (show(x.N.2 f.key).isSome from h)]
 rename_i h;rw[if_neg (show¬(x.N.2 f.key).isSome from h)];split
 ·rw[VX.v_setV,VX.v_setL]
 split
 ·rw[VX.v_setL]
 ·rw[←VX.v_setL,Yz]
theorem Tl {k:ByteArray} {f:ao} {x:VX} {n:Nat} (h:x.n n):(fA k f x).2.n (n+1):=by
 obtain⟨h1,h2,h3⟩:=h;have h0:x.n (n+1):=⟨by omega,by omega,by omega⟩;have hl:(x.setL f.key f.line).n (n+1):=⟨by show x.1.1≤_;omega,by show x.L.1≤_;omega,by show x.N.1+1≤_;omega⟩;unfold fA;split
 ·exact h0
 split
 ·exact h0
 split
 ·exact⟨by show x.1.1≤_;omega,by show x.L.1+1≤_;omega,by show x.N.1+1≤_;omega⟩
 split
 ·exact hl
 ·obtain⟨q1,q2,q3⟩:=Od f.key (f.vals.getD 0 ⟨#[]⟩) (x.setL f.key f.line);refine⟨abk q1 (by show x.1.1+1≤_;omega),?_,?_⟩
  ·show(oi _ _ _).2.2.1.1≤_;rw[q2];exact hl.2.1
  ·show(oi _ _ _).2.2.2.1.1≤_;rw[q3];exact hl.2.2
theorem dP.kt {s:ByteArray} (h:dP s):Kt.ok .s s:=abk h (by decide)
theorem NM:gh Tryz.prog 95 pV [(0,sV),(1,sS),(2,.st 0)] [(0,sV)] fun((x:VX),(k:ByteArray),(f:ao),_)=>.nd (x.n 999999999999∧rW f) (.lf (uz (aI (fA k f x).1) (fA k f x).2)):=
 kJ (C:=CV3) (nL _ _) 99 [(0,sV),(1,sS),(2,.st 0)] [(0,sV)] (fun((x:VX),(k:ByteArray),(f:ao),_)=>ada x k f) (fun⟨(x:VX),(k:ByteArray),(f:ao),_⟩ r _ ⟨⟨⟨n1,n2,n3⟩,f1,f2,f3⟩,h⟩=>by
  obtain rfl:uz (aI (fA k f x).1) (fA k f x).2=r:=h;unfold fA;by_cases h1:Lib.containsS (aM k) f.key=false
  ·rw[if_pos h1];exact aX (by rw[h1];rfl) rfl
  rw[if_neg h1];refine bg (by simpa using h1) ⟨f1.kt,?_⟩;by_cases h2:(x.N.2 f.key).isSome
  ·rw[if_pos h2];exact aX h2 rfl
  rw[if_neg h2];refine bg (by simpa using h2) ⟨⟨f1.kt,by omega⟩,?_⟩;by_cases h3:0<dn f.key
  ·rw[if_pos h3];exact aX (decide_eq_true h3) ⟨f2,⟨f1.kt,by omega⟩,f3,rfl⟩
  rw[if_neg h3];refine bg (decide_eq_false h3) ?_;by_cases h4:f.vals.length=1
  ·rw[if_neg (by simp[h4])];refine bg (by rw[h4];rfl) ⟨by omega,⟨⟨f1.kt,by show x.1.1<_;omega⟩,?_⟩,rfl⟩;rw[aaQ,aac (by omega)];exact f3 _ (abI _)
  ·rw[if_pos h4];exact aX (by simp;omega) rfl) Tryz.func95
noncomputable def CV4:hZ Tryz.prog:=dj M8 [⟨_,_,_,tG⟩] []
abbrev Mi:SS:=.box 76 [.d tI,.d tI]
noncomputable abbrev coF:=Tryz.f96
abbrev pF:=eY [.d tI,.d tI]
abbrev coL:List (Nat×SS):=[(0,.rf 14),(1,sS),(2,sI),(6,Mi),(14,sL),(15,sI),(16,sI)]
abbrev coO:List (Nat×SS):=[(0,.rf 14),(1,sS),(2,sI),(6,Mi)]
abbrev Ch (a b:Int):XV:=.agg [.sym (.int .i64 a),.sym (.int .i64 b)]
abbrev CpE:=LE coL coO []
def QO (n:Int):T CpE:=.lf (.ret (.agg [.val (.int .i64 6),.sym (.int .i64 n)]) ())
def aaK (x:aC) (k:ByteArray) (n:Int) (y:pF) (l:List ByteArray) (a i:Int):T CpE:=.nd (cN (i+1)) (.lf (.back (x,k,n,y,l,a,i+1,())))
def cpT (x:aC) (k:ByteArray) (n:Int) (y:pF) (l:List ByteArray) (a i:Int):T CpE:=
 .br (decide (i<a)) (.nd (0≤i∧i<l.length) (.nd (Kt.ok .s (l.getD i.toNat ⟨#[]⟩)) (.br (!((x.ln (l.getD i.toNat ⟨#[]⟩)).isSome)) (.br (!((l.getD i.toNat ⟨#[]⟩).toList==az.toList)) (QO n) (.nd (Kt.ok .s aN) (.br (x.n aN==2) (QO n) (aaK x k n y l a i)))) (aaK x k n y l a i)))) (.lf (.out (x,k,n,y,())))
theorem qL {s:ByteArray} (h:s.size≤1000:=by decide):Kt.ok .s s:=abk h (by decide)
theorem Dy {v:aC} {line:Int} {e:eM}:∀{l:List ByteArray},tE v line e l=if l.any (gH v) then⟨6,line⟩ else e
 | []=>rfl
 | k::l=>by
  unfold tE;rw[acb,Dy (l:=l)];cases gH v k<;>rfl
theorem IM {v:aC} {k:ByteArray} (h1:(v.ln k).isSome=false) (h2:k≠az∨v.n aN=2):gH v k=true:=by
 unfold gH;rw[h1];rcases h2 with h|h
 ·rw[decide_eq_true h];rfl
 ·rw[decide_eq_true h,Bool.or_true];rfl
theorem Vx:eD (sG CV4 coF) 0 0 coL coO [] fun((x:aC),(k:ByteArray),(n:Int),(y:pF),(l:List ByteArray),(a:Int),(i:Int),_)=>
 .nd (0≤i∧i≤l.length∧a=l.length∧∀s∈l,Kt.ok .s s) (.br ((l.drop i.toNat).any (gH x)) (QO n) (.lf (.out (x,k,n,y,())))):=by
  refine eG _ (nL _ _) 99 0 0 coL coO [] (fun((x:aC),(k:ByteArray),(n:Int),(y:pF),(l:List ByteArray),(a:Int),(i:Int),_)=>cpT x k n y l a i) (fun(_,_,_,_,(l:List ByteArray),_,(i:Int),_)=>l.length-i.toNat) ?_;rintro⟨(x:aC),(k:ByteArray),(n:Int),(y:pF),(l:List ByteArray),(a:Int),(i:Int),_⟩ r ⟨_,_,_,_,hl,_⟩ ⟨⟨h0,h1,rfl,hk⟩,h⟩;have hl:l.length≤9223372036854775807:=hl;obtain⟨j,rfl⟩:∃j:Nat,i=j:=⟨i.toNat,by omega⟩;simp only[aaR] at h;by_cases hi:j<l.length
  ·rw[getD_drop ⟨#[]⟩ hi,acb] at h;have hx:Kt.ok .s (l.getD j ⟨#[]⟩):=by
    rw[aaQ,aac hi];exact hk _ (abI _)
   have back:gH x (l.getD j ⟨#[]⟩)=false→(T.nd (0≤(j:Int)+1∧(j:Int)+1≤l.length∧(l.length:Int)=l.length∧∀s∈l,Kt.ok .s s) (.br ((l.drop ((j:Int)+1).toNat).any (gH x)) (QO n) (.lf (.out (x,k,n,y,()))))).hit r:=fun hm=>by
    rw[hm,acp] at h;exact⟨⟨by omega,by omega,rfl,hk⟩,h⟩
   have nx:(aaK x k n y l l.length (j:Int)).hit (.back (x,k,n,y,l,(l.length:Int),(j:Int)+1,())):=⟨⟨by omega,by omega⟩,rfl⟩;have μ:l.length-((j:Int)+1).toNat<l.length-j:=by omega
   have adD:gH x (l.getD j ⟨#[]⟩)=true→(QO n).hit r:=fun hm=>by
    rw[hm,Bool.true_or] at h;exact h.1 rfl
   have hn:(0:Int)≤j∧(j:Int)<l.length:=⟨by omega,by omega⟩;cases h3:(x.ln (l.getD j ⟨#[]⟩)).isSome
   ·by_cases h4:l.getD j ⟨#[]⟩=az
    ·by_cases h5:x.n aN=2
     ·have q:=IM h3 (.inr h5);exact⟨_,aX (decide_eq_true hn.2) ⟨hn,hx,aX (by rw[aaR,h3];rfl) (bg (by rw[aaR,h4];simp) ⟨qL,aX (by rw[h5];rfl) rfl⟩)⟩,(adD q)⟩
     ·exact⟨_,aX (decide_eq_true hn.2) ⟨hn,hx,aX (by rw[aaR,h3];rfl) (bg (by rw[aaR,h4];simp) ⟨qL,bg (beq_false_of_ne h5) nx⟩)⟩,μ,back (by unfold gH;rw[h3,decide_eq_false (fun e=>e h4),decide_eq_false h5];rfl)⟩
    ·exact⟨_,aX (decide_eq_true hn.2) ⟨hn,hx,aX (by rw[aaR,h3];rfl) (aX (by rw[aaR,eE,decide_eq_false h4];rfl) rfl)⟩,adD (IM h3 (.inl h4))⟩
   ·exact⟨_,aX (decide_eq_true hn.2) ⟨hn,hx,bg (by rw[aaR,h3];rfl) nx⟩,μ,back (by unfold gH;rw[h3];rfl)⟩
  ·rw[abg (by omega)] at h;exact⟨_,bg (decide_eq_false (by omega)) rfl,h.2 rfl⟩
def cS (x:aC) (k:ByteArray) (n:Int):T XV:=.br (k.toList==aP.toList) (.nd (Kt.ok .s bq) (.nd (Kt.ok .s bb) (.br (decide (x.n bq>x.n bb)) (.lf (Ch 4 n)) (.lf (Ch 0 0))))) (.lf (Ch 0 0))
def cC (x:aC) (k:ByteArray) (n:Int):T XV:=.br (k.toList==ah.toList) (.nd (Kt.ok .s aN) (.br (x.n aN==1) (.nd (Kt.ok .s bf) (.br (decide (x.n bf>1)) (.nd (Kt.ok .s bf) (.lf (Ch 4 (x.l bf)))) (cS x k n))) (cS x k n))) (cS x k n)
def cD (x:aC) (k:ByteArray) (n:Int):T XV:=.nd (Kt.ok .s az) (.br (x.ln az).isSome (.nd (Kt.ok .s aN) (.br (!(x.n aN==2)) (.lf (Ch 5 (x.l az))) (cC x k n))) (cC x k n))
def cB (x:aC) (k:ByteArray) (n:Int):T XV:=.nd ((0:Int)≤0∧(0:Int)≤(aM k).length∧((aM k).length:Int)=(aM k).length∧∀s∈aM k,Kt.ok .s s) (.br ((aM k).any (gH x)) (.lf (Ch 6 n)) (cD x k n))
theorem GX (x:aC) (k:ByteArray) (n:Int):(cS x k n).hit (if k=aP∧x.n bb<x.n bq then Ch 4 n else Ch 0 0):=by
 unfold cS;by_cases h1:k=aP
 ·refine aX (by rw[h1];simp) ⟨qL,qL,?_⟩;by_cases h2:x.n bb<x.n bq
  ·rw[if_pos ⟨h1,h2⟩];exact aX (decide_eq_true h2) rfl
  ·rw[if_neg fun q=>h2 q.2];exact bg (decide_eq_false h2) rfl
 ·rw[if_neg fun q=>h1 q.1];exact bg (by rw[eE];exact decide_eq_false h1) rfl
theorem aaP (x:aC) (k:ByteArray) (n:Int):(cC x k n).hit (if k=ah∧x.n aN=1∧1<x.n bf then Ch 4 (x.l bf) else if k=aP∧x.n bb<x.n bq then Ch 4 n else Ch 0 0):=by
 unfold cC;by_cases h1:k=ah
 ·refine aX (by rw[h1];simp) ⟨qL,?_⟩;by_cases h2:x.n aN=1
  ·refine aX (by rw[h2];rfl) ⟨qL,?_⟩;by_cases h3:1<x.n bf
   ·rw[if_pos ⟨h1,h2,h3⟩];exact aX (decide_eq_true h3) ⟨qL,rfl⟩
   ·rw[if_neg fun q=>h3 q.2.2];exact bg (decide_eq_false h3) (GX x k n)
  ·rw[if_neg fun q=>h2 q.2.1];exact bg (beq_false_of_ne h2) (GX x k n)
 ·rw[if_neg fun q=>h1 q.1];exact bg (by rw[eE];exact decide_eq_false h1) (GX x k n)
def aE (e:eM):XV:=Ch e.no e.line
theorem JO {P:Prop} [Decidable P] (a b:eM):aE (if P then a else b)=if P then aE a else aE b:=by split<;>rfl
theorem aaO (x:aC) (k:ByteArray) (n:Int):(cD x k n).hit (aE (ky k n x)):=by
 have hc:=aaP x k n;unfold ky;rw[JO,JO,JO];refine⟨qL,?_⟩;cases h1:(x.ln az).isSome
 ·rw[if_neg fun q=>by cases q.1];exact bg rfl hc
 ·refine aX rfl ⟨qL,?_⟩;by_cases h2:x.n aN=2
  ·rw[if_neg fun q=>q.2 h2];exact bg (by rw[h2];rfl) hc
  ·rw[if_pos ⟨rfl,h2⟩];exact aX (by rw[beq_false_of_ne h2];rfl) rfl
theorem Ut (k:ByteArray):∀s∈aM k,Kt.ok .s s:=by
 have h:∀a∈fq,∀s∈aM a,s.size≤1000:=by decide
 by_cases hk:k∈fq
 ·exact fun s hs=>qL (h k hk s hs)
 ·simp only[fq,abq,abz,or_false,not_or] at hk;simp[aM,hk]
theorem QX:av Tryz.prog 96 false (aU [(0,.rf 14),(1,sS),(2,sI)] fun((x:aC),(k:ByteArray),(n:Int),_)=>.lf (aE (eR k n x))):=
 bz (C:=CV4) ((nL _ _).add 0 _ Vx) false 99 [(0,.rf 14),(1,sS),(2,sI)] (fun((x:aC),(k:ByteArray),(n:Int),_)=>cB x k n) (fun⟨(x:aC),(k:ByteArray),(n:Int),_⟩ r _ h=>by
  obtain rfl:aE (eR k n x)=r:=h;refine⟨⟨⟨by omega,by omega,rfl,Ut k⟩,?_⟩,.inr rfl⟩;unfold eR;rw[Dy,JO];cases (aM k).any (gH x)
  ·exact bg rfl (aaO x k n)
  ·exact aX rfl rfl) Tryz.func96
noncomputable def CV5:hZ Tryz.prog:=dj M8 [⟨_,_,_,tG⟩,⟨_,_,_,KV⟩,⟨_,_,_,Rq⟩,⟨_,_,_,Jl⟩,⟨_,_,_,VB⟩] []
def hd4 (k m:ByteArray) (ns:List ByteArray):T XV:=.br (m.toList==(⟨#[]⟩:ByteArray).toList) (.lf (aI 6)) (.nd (szB m) (.br (!(iK m.data.toList)) (.lf (aI 8)) (.nd ((0:Int)≤0∧(0:Int)<m.size) (.br (decide (((m.data.toList.getD 0 0).toNat:Int)<97)) (.lf (aI 8)) (.br (decide ((m.size:Int)>24)) (.lf (aI 8)) (.br (Lib.containsS ns m) (.lf (aI 3)) (.br ((ns.length:Int)==ew k) (.lf (aI 7)) (.lf (aI 0)))))))))
def hd3 (k m:ByteArray) (ns:List ByteArray):T XV:=.br (!(mV k)) (.lf (aI 0)) (hd4 k m ns)
def Sp (k m:ByteArray) (ns:List ByteArray):T XV:=.br (!(mV k)) (.br (decide ((ns.length:Int)>0)) (.lf (aI 3)) (hd3 k m ns)) (hd3 k m ns)
def W6 (k m:ByteArray) (ns:List ByteArray):T XV:=.br (!(mV k)) (.br (!(m.toList==(⟨#[]⟩:ByteArray).toList)) (.lf (aI 2)) (Sp k m ns)) (Sp k m ns)
def hd0 (k m:ByteArray) (ns:List ByteArray):T XV:=.nd (Kt.ok .s k) (.br ((aM k).isEmpty) (.lf (aI 2)) (W6 k m ns))
theorem YH {m:ByteArray} (h:m≠⟨#[]⟩):0<m.size:=by
 rcases acD m.size with e|e
 ·exact absurd (by rcases m with⟨a⟩;obtain rfl:a=#[]:=abV e;rfl) h
 ·exact e
theorem ZU {k m:ByteArray} (ns:List ByteArray) (hk:dP k) (hm:dP m):(hd0 k m ns).hit (aI (gJ k m ns)):=by
 refine⟨hk.kt,?_⟩;unfold gJ;by_cases h0:aM k=[]
 ·rw[if_pos h0];exact aX (by rw[h0];rfl) rfl
 refine bg (by simpa using h0) ?_;rw[if_neg h0];unfold W6;cases h1:mV k
 ·rw[if_pos rfl];refine aX rfl ?_;by_cases h2:m=⟨#[]⟩
  ·rw[if_neg (by simpa using h2)];refine bg (by rw[h2];simp) ?_;unfold Sp;rw[h1];refine aX rfl ?_;by_cases h3:0<ns.length
   ·rw[if_pos h3];exact aX (decide_eq_true (by omega)) rfl
   ·rw[if_neg h3];refine bg (decide_eq_false (by omega)) ?_;unfold hd3;rw[h1];exact aX rfl rfl
  ·rw[if_pos h2];exact aX (by rw[eE,decide_eq_false h2];rfl) rfl
 ·rw[if_neg (by decide)];refine bg rfl ?_;unfold Sp hd3;rw[h1];refine bg rfl (bg rfl ?_);unfold hd4;by_cases h2:m=⟨#[]⟩
  ·rw[if_pos h2];exact aX (by rw[h2];simp) rfl
  rw[if_neg h2];refine bg (by rw[eE];exact decide_eq_false h2) ⟨hm.szB,?_⟩;have hp:=YH h2;have e0:(m.data.toList[0]?).getD 0=m.data.toList.getD 0 0:=(aaQ ..).symm;rw[e0];by_cases h3:iK m.data.toList=false
  ·rw[if_pos (.inl h3)];exact aX (by rw[h3];rfl) rfl
  refine bg (by simpa using h3) ⟨⟨by omega,by omega⟩,?_⟩;by_cases h4:(m.data.toList.getD 0 0).toNat<97
  ·rw[if_pos (.inr (.inl h4))];exact aX (decide_eq_true (by omega)) rfl
  refine bg (decide_eq_false (by omega)) ?_;by_cases h5:24<m.size
  ·rw[if_pos (.inr (.inr h5))];exact aX (decide_eq_true (by omega)) rfl
  rw[if_neg fun q=>q.elim h3 fun q=>q.elim h4 h5];refine bg (decide_eq_false (by omega)) ?_;cases h6:Lib.containsS ns m
  ·rw[if_neg (by decide)];refine bg rfl ?_;by_cases h7:(ns.length:Int)=ew k
   ·rw[if_pos h7];exact aX (by rw[h7];simp) rfl
   ·rw[if_neg h7];exact bg (beq_false_of_ne h7) rfl
  ·exact aX rfl rfl
theorem PT:av Tryz.prog 94 false (aU [(0,.rf 15),(1,.st 1)] fun((x:Cn),(b:aw),_)=>.nd (dP b.kind∧dP b.name) (.lf (aI (gJ b.kind b.name ((x.names b.kind).getD []))))):=
 bz (C:=CV5) (nL _ _) false 99 [(0,.rf 15),(1,.st 1)] (fun((x:Cn),(b:aw),_)=>hd0 b.kind b.name ((x.names b.kind).getD [])) (fun⟨(x:Cn),(b:aw),_⟩ r _ ⟨⟨h1,h2⟩,h⟩=>by
  obtain rfl:aI (gJ b.kind b.name ((x.names b.kind).getD []))=r:=h;exact⟨ZU _ h1 h2,.inr rfl⟩) Tryz.func94
abbrev csB:List CS:=[.d .str,.d tI,.d tI,.d tI,.d (.list .str),.own (.st 3) 95,.own (.st 10) 97,.d tI,.d tI,.d .bool,.d (.list .limb),.d (.list .limb),.d tI,.d .str,.mr .s .str 9,.own (.st 14) 168]
abbrev AU:SS:=.box 135 csB
abbrev pBd:List Nat:=[0]
abbrev BX:=eY csB
abbrev Hg (r:XV) (x:BX):XV×BX×Unit:=(r,x,())
noncomputable def SJ (t:TypeId):Option Ty:=List.lookup t [(9,.str),(3,tI),(4,.bool),(22,.list .str),(95,.st 3),(97,.st 10),(168,.st 14),(135,.st 15)]
noncomputable def CV6:hZ Tryz.prog:=dj SJ [] []
namespace BX
abbrev cont (x:BX):List ai:=x.2.2.2.2.2.1
abbrev styn (x:BX):List ByteArray:=x.2.2.2.2.2.2.1
abbrev names (x:BX):Nat×(ByteArray→Option (List ByteArray)):=x.2.2.2.2.2.2.2.2.2.2.2.2.2.2.1
abbrev vals (x:BX):List aC:=x.2.2.2.2.2.2.2.2.2.2.2.2.2.2.2.1
def uScan (x:BX) (v:aC):BX:=(x.1,v.n dh,v.n bq,v.n bb,x.2.2.2.2)
def uScs (x:BX) (v:aC):BX:=(x.1,x.2.1,x.2.2.1,x.2.2.2.1,x.2.2.2.2.1,x.2.2.2.2.2.1,x.2.2.2.2.2.2.1,v.n bZ,v.n cf,x.2.2.2.2.2.2.2.2.2)
def uPrec (x:BX) (v:aC):BX:=(x.1,x.2.1,x.2.2.1,x.2.2.2.1,v.s bY,x.2.2.2.2.2)
def uCont (x:BX) (c:ai):BX:=(x.1,x.2.1,x.2.2.1,x.2.2.2.1,x.2.2.2.2.1,c::x.cont,x.2.2.2.2.2.2)
def uSty (x:BX) (nm:ByteArray) (v:aC):BX:=(x.1,x.2.1,x.2.2.1,x.2.2.2.1,x.2.2.2.2.1,x.2.2.2.2.2.1,nm::x.styn,x.2.2.2.2.2.2.2.1,x.2.2.2.2.2.2.2.2.1,x.2.2.2.2.2.2.2.2.2.1,x.2.2.2.2.2.2.2.2.2.2.1,x.2.2.2.2.2.2.2.2.2.2.2.1,x.2.2.2.2.2.2.2.2.2.2.2.2.1,x.2.2.2.2.2.2.2.2.2.2.2.2.2.1,x.2.2.2.2.2.2.2.2.2.2.2.2.2.2.1,v::x.vals,())
def uAud (x:BX) (v:aC):BX:=(x.1,x.2.1,x.2.2.1,x.2.2.2.1,x.2.2.2.2.1,x.2.2.2.2.2.1,x.2.2.2.2.2.2.1,x.2.2.2.2.2.2.2.1,x.2.2.2.2.2.2.2.2.1,v.risk.neg,v.risk.num,v.risk.den,x.2.2.2.2.2.2.2.2.2.2.2.2.1,v.seed,x.2.2.2.2.2.2.2.2.2.2.2.2.2.2)
def uCell (x:BX) (v:aC):BX:=(x.1,x.2.1,x.2.2.1,x.2.2.2.1,x.2.2.2.2.1,x.2.2.2.2.2.1,x.2.2.2.2.2.2.1,x.2.2.2.2.2.2.2.1,x.2.2.2.2.2.2.2.2.1,x.2.2.2.2.2.2.2.2.2.1,x.2.2.2.2.2.2.2.2.2.2.1,x.2.2.2.2.2.2.2.2.2.2.2.1,v.n dH,x.2.2.2.2.2.2.2.2.2.2.2.2.2)
def d (x:BX):cL:=⟨⟨x.1,x.2.1,x.2.2.1,x.2.2.2.1,x.2.2.2.2.1,x.cont.reverse,x.styn.reverse.map fun n=>⟨n,[],[]⟩,x.2.2.2.2.2.2.2.1,x.2.2.2.2.2.2.2.2.1,⟨x.2.2.2.2.2.2.2.2.2.1,x.2.2.2.2.2.2.2.2.2.2.1,x.2.2.2.2.2.2.2.2.2.2.2.1⟩,x.2.2.2.2.2.2.2.2.2.2.2.2.1,x.2.2.2.2.2.2.2.2.2.2.2.2.2.1⟩,fun k=>(x.names.2 k).map List.reverse,x.vals.reverse⟩
structure ok (x:BX) (n:Nat):Prop where
 c:x.cont.length≤n
 s:x.styn.length≤n
 v:x.vals.length≤n
 m:x.names.1≤n
 r:∀k r,x.names.2 k=some r→r.length≤n
end BX
def kk (l:List ByteArray) (t:T (XV×BX×Unit)):T (XV×BX×Unit):=l.foldr (fun k t=>.nd (Kt.ok .s k) t) t
def AP (x:BX):T (XV×BX×Unit):=.lf (Hg (.tup []) x)
def stB (x:BX) (k nm:ByteArray) (v:aC):T (XV×BX×Unit):=
 .br (k.toList==aP.toList) (kk [dh,bq,bb] (AP (x.uScan v)))
 (.br (k.toList==au.toList) (kk [bZ,cf] (AP (x.uScs v)))
 (.br (k.toList==af.toList) (kk [bY] (AP (x.uPrec v)))
 (.br (k.toList==ah.toList) (kk [cF,aN,bf,bS,az,db,aV,dc] (.nd ((x.cont.length+1)*97≤140737488355328) (AP (x.uCont (da nm v)))))
 (.br (k.toList==aD.toList) (.nd ((x.styn.length+1)*65≤140737488355328) (.nd ((x.vals.length+1)*97≤140737488355328) (AP (x.uSty nm v))))
 (.br (k.toList==aO.toList) (AP (x.uAud v))
 (.br (k.toList==aY.toList) (kk [dH] (AP (x.uCell v))) (AP x)))))))
def kx (k nm:ByteArray) (v:aC) (x:BX):BX:=
 if k=aP then x.uScan v else if k=au then x.uScs v else if k=af then x.uPrec v else if k=ah then x.uCont (da nm v) else if k=aD then x.uSty nm v else if k=aO then x.uAud v else if k=aY then x.uCell v else x
theorem Nf (k nm:ByteArray) (v:aC) (x:BX):(kx k nm v x).d=bG k nm v x.d:=by
 have e1:(x.uCont (da nm v)).d={ x.d with e:={ x.d.e with cont:=x.d.e.cont++[da nm v] } }:=congrArg (fun c=>({ x.d with e:={ x.d.e with cont:=c } }:cL)) (abL ..);have e2:(x.uSty nm v).d={ x.d with e:={ x.d.e with styl:=x.d.e.styl++[⟨nm,[],[]⟩] },vals:=x.d.vals++[v] }:=by
  have h1:(nm::x.styn).reverse.map (fun n=>(⟨n,[],[]⟩:ax))=x.d.e.styl++[⟨nm,[],[]⟩]:=by rw[abL,acV];rfl
  have h2:(v::x.vals).reverse=x.d.vals++[v]:=abL ..;rw[←h1,←h2];rfl
 unfold kx bG;split
 ·rfl
 split
 ·rfl
 split
 ·rfl
 split
 ·exact e1
 split
 ·exact e2
 split
 ·rfl
 split
 ·rfl
 ·rfl
theorem J8 {k nm:ByteArray} {v:aC} {x:BX} {n m:Nat} (h:x.ok n) (hm:n+1≤m):(kx k nm v x).ok m:=by
 obtain⟨h1,h2,h3,h4,h5⟩:=h;have h0:x.ok m:=⟨by omega,by omega,by omega,by omega,fun k r e=>by have:=h5 k r e;omega⟩;unfold kx;split
 ·exact⟨h0.1,h0.2,h0.3,h0.4,h0.5⟩
 split
 ·exact⟨h0.1,h0.2,h0.3,h0.4,h0.5⟩
 split
 ·exact⟨h0.1,h0.2,h0.3,h0.4,h0.5⟩
 split
 ·exact⟨by show x.cont.length+1≤m;omega,h0.2,h0.3,h0.4,h0.5⟩
 split
 ·exact⟨h0.1,by show x.styn.length+1≤m;omega,by show x.vals.length+1≤m;omega,h0.4,h0.5⟩
 split
 ·exact⟨h0.1,h0.2,h0.3,h0.4,h0.5⟩
 split
 ·exact⟨h0.1,h0.2,h0.3,h0.4,h0.5⟩
 ·exact h0
theorem G3 {α β:Type} {F:α→β} {b:Bool} {X Y:T β} {P:Prop} [Decidable P] {c d:α} (hP:P↔b=true) (hX:X.hit (F c)) (hY:Y.hit (F d)):(T.br b X Y).hit (F (if P then c else d)):=by
 by_cases h:P
 ·rw[if_pos h];exact aX (hP.1 h) hX
 ·rw[if_neg h];exact bg (by cases b with|false=>rfl|true=>exact absurd (hP.2 rfl) h) hY
theorem pZ (x y:ByteArray):x=y↔(x.toList==y.toList)=true:=by rw[eE,decide_eq_true_iff]
theorem Ng:gh Tryz.prog 97 pBd [(0,AU),(1,.st 1),(2,.st 14)] [(0,AU)] fun((x:BX),(b:aw),(v:aC),_)=>.nd (x.ok 999999999998) (AP (kx b.kind b.name v x)):=
 kJ (C:=CV6) (nL _ _) 99 [(0,AU),(1,.st 1),(2,.st 14)] [(0,AU)] (fun((x:BX),(b:aw),(v:aC),_)=>stB x b.kind b.name v) (fun⟨(x:BX),(b:aw),(v:aC),_⟩ r _ ⟨⟨h1,h2,h3,h4,_⟩,h⟩=>by
  obtain rfl:Hg (.tup []) (kx b.kind b.name v x)=r:=h;unfold kx;refine G3 (F:=Hg (.tup [])) (pZ _ _) ⟨qL,qL,qL,rfl⟩ (G3 (F:=Hg (.tup [])) (pZ _ _) ⟨qL,qL,rfl⟩ (G3 (F:=Hg (.tup [])) (pZ _ _) ⟨qL,rfl⟩
   (G3 (F:=Hg (.tup [])) (pZ _ _) ⟨qL,qL,qL,qL,qL,qL,qL,qL,by omega,rfl⟩ (G3 (F:=Hg (.tup [])) (pZ _ _) ⟨by omega,by omega,rfl⟩ (G3 (F:=Hg (.tup [])) (pZ _ _) rfl (G3 (F:=Hg (.tup [])) (pZ _ _) ⟨qL,rfl⟩ rfl)))))))
  Tryz.func97
noncomputable def CV7:hZ Tryz.prog:=dj SJ [⟨_,_,_,PT⟩,⟨_,_,_,QX⟩] [⟨_,_,_,_,_,NM⟩,⟨_,_,_,_,_,Ng⟩]
abbrev acU:SS:=.box 110 [.d .str,.d .str,.d (.list (.st 0)),.d tI]
abbrev RX:=eY [.d .str,.d .str,.d (.list (.st 0)),.d tI]
noncomputable abbrev alS:=Tryz.f65
abbrev blL:List (Nat×SS):=[(0,AU),(3,acU),(4,Mi),(6,sV),(42,sD (.list (.st 0))),(43,sI),(44,sI)]
abbrev blO:List (Nat×SS):=[(0,AU),(3,acU),(4,Mi),(6,sV)]
abbrev BlE:=LE blL blO [(0,AU)]
def fz:ao:=⟨⟨#[]⟩,[],0⟩
def blT (x:BX) (b:RX) (y:pF) (v:VX) (l:List ao) (a i:Int):T BlE:=
 .br (decide (i<a)) (.nd (0≤i∧i<l.length) (.nd (v.n 999999999999∧rW (l.getD i.toNat fz)) (.br (!((fA b.1 (l.getD i.toNat fz) v).1==0)) (.lf (.ret (Ch (fA b.1 (l.getD i.toNat fz) v).1 (l.getD i.toNat fz).line) (x,())))
  (.nd (cN (i+1)) (.lf (.back (x,b,y,(fA b.1 (l.getD i.toNat fz) v).2,l,a,i+1,()))))))) (.lf (.out (x,b,y,v,())))
def gX (kind:ByteArray):List ao→VX→eM×VX
 | [],v=>(⟨0,0⟩,v)
 | f::l,v=>if(fA kind f v).1≠0 then(⟨(fA kind f v).1,f.line⟩,(fA kind f v).2) else gX kind l (fA kind f v).2
theorem Df (kind:ByteArray):∀(l:List ao) (v:VX),fo kind l v.v=((gX kind l v).1,(gX kind l v).2.v)
 | [],v=>rfl
 | f::l,v=>by
  unfold fo gX;rw[Tk];split
  ·rfl
  ·exact Df kind l _
def blR (x:BX) (b:RX) (y:pF) (q:eM×VX):T BlE:=.br (!(q.1.no==0)) (.lf (.ret (Ch q.1.no q.1.line) (x,()))) (.lf (.out (x,b,y,q.2,())))
theorem afB:eD (LB CV7 alS pBd) 0 0 blL blO [(0,AU)] fun((x:BX),(b:RX),(y:pF),(v:VX),(l:List ao),(a:Int),(i:Int),_)=>
 .nd (0≤i∧i≤l.length∧a=l.length∧v.n i.toNat∧l.length≤274877906944∧∀f∈l,rW f) (blR x b y (gX b.1 (l.drop i.toNat) v)):=by
  refine eG _ (nL _ _) 99 0 0 blL blO [(0,AU)] (fun((x:BX),(b:RX),(y:pF),(v:VX),(l:List ao),(a:Int),(i:Int),_)=>blT x b y v l a i) (fun(_,_,_,_,(l:List ao),_,(i:Int),_)=>l.length-i.toNat) ?_;rintro⟨(x:BX),(b:RX),(y:pF),(v:VX),(l:List ao),(a:Int),(i:Int),_⟩ r _ ⟨⟨h0,h1,rfl,hv,hl,hf⟩,h⟩;obtain⟨j,rfl⟩:∃j:Nat,i=j:=⟨i.toNat,by omega⟩;rw[aaR] at h hv;by_cases hi:j<l.length
  ·rw[getD_drop fz hi] at h;replace h:(blR x b y (if(fA b.1 (l.getD j fz) v).1≠0 then(⟨(fA b.1 (l.getD j fz) v).1,(l.getD j fz).line⟩,(fA b.1 (l.getD j fz) v).2) else gX b.1 (l.drop (j+1)) (fA b.1 (l.getD j fz) v).2)).hit r:=h;have hx:rW (l.getD j fz):=by
    rw[aaQ,aac hi];exact hf _ (abI _)
   have hn:(0:Int)≤j∧(j:Int)<l.length:=⟨by omega,by omega⟩;have Pj:v.n 999999999999:=⟨by have:=hv.1;omega,by have:=hv.2.1;omega,by have:=hv.2.2;omega⟩;have hb:∀q,(T.br (!((fA b.1 (l.getD j fz) v).1==0)) (.lf (.ret (Ch (fA b.1 (l.getD j fz) v).1 (l.getD j fz).line) (x,()))) (.nd (cN ((j:Int)+1)) (.lf (.back (x,b,y,(fA b.1 (l.getD j fz) v).2,l,(l.length:Int),(j:Int)+1,())))):T BlE).hit q→(blT x b y v l l.length j).hit q:=fun q hq=>
    aX (decide_eq_true hn.2) ⟨hn,by rw[aaR];exact⟨⟨Pj,hx⟩,hq⟩⟩
   by_cases h3:(fA b.1 (l.getD j fz) v).1=0
   ·rw[if_neg (by simpa using h3)] at h;refine⟨_,hb _ (bg (by rw[h3];rfl) ⟨⟨by omega,by omega⟩,rfl⟩),by show l.length-((j:Int)+1).toNat<l.length-j;omega,⟨by omega,by omega,rfl,?_,hl,hf⟩,h⟩;exact Tl hv
   ·rw[if_pos h3] at h;rw[←(hB h).elim (fun q=>q.2) (fun q=>absurd q.1 (by rw[beq_false_of_ne h3];decide))];exact⟨_,hb _ (aX (by rw[beq_false_of_ne h3];rfl) rfl),rfl⟩
  ·rw[abg (by omega)] at h;exact⟨_,bg (decide_eq_false (by omega)) rfl,h.2 rfl⟩
def VX.zero:VX:=((0,fun _=>none),(0,fun _=>none),(0,fun _=>none),false,[],[],⟨#[]⟩,())
def BX.nam (x:BX) (k m:ByteArray):BX:=(x.1,x.2.1,x.2.2.1,x.2.2.2.1,x.2.2.2.2.1,x.2.2.2.2.2.1,x.2.2.2.2.2.2.1,x.2.2.2.2.2.2.2.1,x.2.2.2.2.2.2.2.2.1,x.2.2.2.2.2.2.2.2.2.1,x.2.2.2.2.2.2.2.2.2.2.1,x.2.2.2.2.2.2.2.2.2.2.2.1,x.2.2.2.2.2.2.2.2.2.2.2.2.1,x.2.2.2.2.2.2.2.2.2.2.2.2.2.1,(x.names.1+1,mT .s x.names.2 k (m::(x.names.2 k).getD [])),x.2.2.2.2.2.2.2.2.2.2.2.2.2.2.2)
def alV (b:aw) (x:BX) (v:VX):T (XV×BX×Unit):=.br (!((eR b.kind b.line v.v).no==0)) (.lf (Hg (aE (eR b.kind b.line v.v)) x)) (.nd (x.ok 999999999998) (.lf (Hg (Ch 0 0) (kx b.kind b.name v.v x))))
def alY (b:aw) (x:BX) (q:eM×VX):T (XV×BX×Unit):=.nd ((0:Int)≤0∧(0:Int)≤b.fields.length∧(b.fields.length:Int)=b.fields.length∧VX.zero.n 0∧b.fields.length≤274877906944∧∀f∈b.fields,rW f) (.br (!(q.1.no==0)) (.lf (Hg (aE q.1) x)) (alV b x q.2))
def al0 (b:aw) (x:BX):T (XV×BX×Unit):=.nd (dP b.kind∧dP b.name) (.br (!(gJ b.kind b.name (x.d.of b.kind)==0)) (.lf (Hg (Ch (gJ b.kind b.name (x.d.of b.kind)) b.line) x))
 (.nd (Kt.ok .s b.kind) (.nd ((((x.names.2 b.kind).getD []).length+1)*17≤140737488355328) (.nd (Kt.ok .s b.kind∧b.kind=b.kind∧x.names.1<1000000000000) (alY b (x.nam b.kind b.name) (gX b.kind b.fields VX.zero))))))
def fX (b:aw) (x:BX):eM×BX:=
 if gJ b.kind b.name (x.d.of b.kind)≠0 then(⟨gJ b.kind b.name (x.d.of b.kind),b.line⟩,x)
 else if(gX b.kind b.fields VX.zero).1.no≠0 then((gX b.kind b.fields VX.zero).1,x.nam b.kind b.name)
 else if(eR b.kind b.line (gX b.kind b.fields VX.zero).2.v).no≠0 then(eR b.kind b.line (gX b.kind b.fields VX.zero).2.v,x.nam b.kind b.name)
 else(⟨0,0⟩,kx b.kind b.name (gX b.kind b.fields VX.zero).2.v (x.nam b.kind b.name))
theorem BX.d_nam (x:BX) (k m:ByteArray):(x.nam k m).d=x.d.named k m:=by
 have h:(fun t=>(mT .s x.names.2 k (m::(x.names.2 k).getD []) t).map List.reverse)=setF x.d.names k (x.d.of k++[m]):=by
  refine(congrArg (fun g:ByteArray→Option (List ByteArray)=>fun t=>(g t).map List.reverse) (KH x.names.2 k (m::(x.names.2 k).getD []))).trans ?_;funext t
  unfold setF;by_cases e:t=k
  ·subst e;rw[if_pos rfl,if_pos rfl];show some (m::(x.names.2 t).getD []).reverse=_;rw[abL];congr 2
   show _=((x.names.2 t).map List.reverse).getD [];cases x.names.2 t<;>rfl
  ·rw[if_neg e,if_neg e];rfl
 exact congrArg (fun f=>({ x.d with names:=f }:cL)) h
theorem BX.ok_nam {x:BX} {n:Nat} (k m:ByteArray) (h:x.ok n):(x.nam k m).ok (n+1):=by
 obtain⟨h1,h2,h3,h4,h5⟩:=h;refine⟨Nat.le_succ_of_le h1,Nat.le_succ_of_le h2,Nat.le_succ_of_le h3,Nat.succ_le_succ h4,fun t r e=>?_⟩;have e:setF x.names.2 k (m::(x.names.2 k).getD []) t=some r:=(congrFun (KH x.names.2 k (m::(x.names.2 k).getD [])) t).symm.trans e;unfold setF at e;by_cases q:t=k
 ·subst q;rw[if_pos rfl] at e;obtain rfl:=aaZ e;cases hz:x.names.2 t with
  | none=>simp
  | some z=>have:=h5 t z hz;simpa using this
 ·rw[if_neg q] at e;exact Nat.le_succ_of_le (h5 t r e)
theorem Ra (b:aw) (x:BX):iB b x.d=((fX b x).1,(fX b x).2.d):=by
 have hz:fo b.kind b.fields aC.zero=_:=Df b.kind b.fields VX.zero;unfold iB fX;rw[hz];split
 ·rfl
 split
 ·rw[BX.d_nam]
 split
 ·rw[BX.d_nam]
 ·rw[Nf,BX.d_nam]
theorem LY {b:aw} {x:BX} {n:Nat} (h:x.ok n):(fX b x).2.ok (n+2):=by
 have h1:=BX.ok_nam b.kind b.name h;have up:∀{y:BX} {m:Nat},y.ok m→m≤n+2→y.ok (n+2):=fun h hm=>⟨abk h.1 hm,abk h.2 hm,abk h.3 hm,abk h.4 hm,fun k r e=>abk (h.5 k r e) hm⟩;unfold fX;split
 ·exact up h (by omega)
 split
 ·exact up h1 (by omega)
 split
 ·exact up h1 (by omega)
 ·exact J8 h1 (abi _)
theorem VG:gh Tryz.prog 65 pBd [(0,AU),(1,.st 1)] [(0,AU)] fun((x:BX),(b:aw),_)=>.nd (il b∧x.ok 999999999997) (.lf (Hg (aE (fX b x).1) (fX b x).2)):=
 kJ (C:=CV7) ((nL _ _).add 0 _ afB) 99 [(0,AU),(1,.st 1)] [(0,AU)] (fun((x:BX),(b:aw),_)=>al0 b x) (fun⟨(x:BX),(b:aw),_⟩ r _ ⟨⟨⟨s1,s2,s3,s4⟩,hx⟩,h⟩=>by
  obtain rfl:Hg (aE (fX b x).1) (fX b x).2=r:=h;refine⟨⟨s1,s2⟩,?_⟩;unfold fX;by_cases h1:gJ b.kind b.name (x.d.of b.kind)=0
  ·rw[if_neg (by simpa using h1)];refine bg (by rw[h1];rfl) ⟨s1.kt,?_,⟨s1.kt,rfl,by have:=hx.m;omega⟩,⟨by omega,by omega,rfl,⟨abi _,abi _,abi _⟩,s3,fun f hf=>⟨(s4 f hf).1.1,(s4 f hf).1.2.2,(s4 f hf).1.2.1⟩⟩,?_⟩
   ·cases hz:x.names.2 b.kind with
    | none=>decide
    | some z=>have:=hx.r _ z hz;show(z.length+1)*17≤_;omega
   by_cases h2:(gX b.kind b.fields VX.zero).1.no=0
   ·rw[if_neg (by simpa using h2)];refine bg (by rw[h2];rfl) ?_;by_cases h3:(eR b.kind b.line (gX b.kind b.fields VX.zero).2.v).no=0
    ·rw[if_neg (by simpa using h3)];exact bg (by rw[h3];rfl) ⟨BX.ok_nam _ _ hx,rfl⟩
    ·rw[if_pos h3];exact aX (by rw[beq_false_of_ne h3];rfl) rfl
   ·rw[if_pos h2];exact aX (by rw[beq_false_of_ne h2];rfl) rfl
  ·rw[if_pos h1];exact aX (by rw[beq_false_of_ne h1];rfl) rfl) Tryz.func65
theorem KW {w:World} {S:Nat→Prop} {v:Value} {x:ai} (h:SV w S v x) (p:Nat) (nm:ByteArray) (hp:w.cell? ⟨p,0,none⟩=some (.string nm)) : Calls Tryz.prog 100 #[v,.pointer (some ⟨p,0,none⟩)] w (jQ w (.bool (decide (x.name=nm)))):=by
 obtain⟨cs,rfl,A,n,c,rfl,_⟩:=h;have cI:Below w.heap.size w (w.alloc (.cells #[.string x.name,.slice A n c,.int .i64 x.method,.int .i64 x.seats,.int .i64 x.ranks,.int .i64 x.digits,.int .i64 x.ties,.int .i64 x.over,.int .i64 x.skip] 95)):=(Below.refl _ _).alloc (abi _) _;have ui:dE (w.alloc (.cells #[.string x.name,.slice A n c,.int .i64 x.method,.int .i64 x.seats,.int .i64 x.ranks,.int .i64 x.digits,.int .i64 x.ties,.int .i64 x.over,.int .i64 x.skip] 95)) w.heap.size 95 #[.string x.name,.slice A n c,.int .i64 x.method,.int .i64 x.seats,.int .i64 x.ranks,.int .i64 x.digits,.int .i64 x.ties,.int .i64 x.over,.int .i64 x.skip]:=dE.new _ _ _;obtain⟨w1,gj⟩:∃q,w.alloc (.cells #[.string x.name,.slice A n c,.int .i64 x.method,.int .i64 x.seats,.int .i64 x.ranks,.int .i64 x.digits,.int .i64 x.ties,.int .i64 x.over,.int .i64 x.skip] 95)=q:=⟨_,rfl⟩;rw[gj] at cI ui;have c0:w1.cell? ⟨w.heap.size,0,none⟩=some (.string x.name):=ui.cell 0;have cp:w1.cell? ⟨p,0,none⟩=some (.string nm):=(cI.cell (World.block_lt_of_cell? w _ hp)).trans hp;have oQ:=zH gj;have fL:=zH cI;clear gj cI ui hp;go_enter Tryz.func100,Tryz.ntmps100;by_cases hn:x.name=nm
 ·have ZO:(x.name.toList==nm.toList)=true:=by rw[hn];simp
  rw[decide_eq_true hn];clear hn;go_upto_region 1 with(fail);rw[oQ.out];go_wp2_with fail;go_ret
  exact⟨rfl,fL.out⟩
 ·have ZO:(x.name.toList==nm.toList)=false:=(Lib.bytes_beq_false_iff _ _).2 hn;rw[decide_eq_false hn];clear hn;go_upto_region 1 with(fail);rw[oQ.out];go_wp2_with fail;go_ret
  exact⟨rfl,fL.out⟩
theorem Ux {w:World} {S:Nat→Prop} {A:Option Addr} {n c:Nat} {xs:List ai} (h:RS w S A n c xs) (hS:∀b,S b→b<w.heap.size) (p:Nat) (nm:ByteArray) (hp:w.cell? ⟨p,0,none⟩=some (.string nm)) : Calls Tryz.prog 99 #[.slice A n c,.func (.func 100) #[] #[.pointer (some ⟨p,0,none⟩)]] w (jQ w (.int .i64 (cG nm xs 0))):=by
 obtain⟨z,hz⟩:∃z,cG nm xs 0=z:=⟨_,rfl⟩;rw[hz];have fM:=hz.symm;have Jd:=h.max;have H1:=zH h;have HZ:=zH fM;have Fu:=zH h.len;have HP:=zH hp;clear h hz fM hp;go_enter Tryz.func99,Tryz.ntmps99;go_wp2_with fail;go_loopw [8] (fun iv wr=>∃k:Nat,iv=.int .i64 k∧k≤n∧z=cG nm (xs.drop k) k∧Below w.heap.size w wr) (fun iv _=>n-(intOf iv).toNat)
 case atStart=>exact⟨0,rfl,abK _,by simpa using HZ.out,Below.refl _ _⟩
 case round=>
  clear HZ;obtain⟨k,rfl,hk,Gn,hb⟩:=hrel;have RI:=zH Gn;have HB:=zH hb;have HR:=zH (H1.out.below hb hS);clear Gn hb;by_cases hlt:k<n
  ·have jX:(k:Int)<(n:Int):=by omega
   obtain⟨b,o,x,cs,rfl,Cu,hx,hr,WW⟩:=HR.out.load_at (fun b h=>abw (hS b h) HB.out.size) hlt;have PD:(k:Int)≤(c:Int):=by have:=HR.out.cap;omega
   have fH:z=if x.name=nm then(k:Int) else cG nm (xs.drop (k+1)) (k+1):=by rw[RI.out,kK hx];rfl
   have kr:=zH fH;obtain⟨A3,n3,c3,rfl,x1⟩:=hr;have iQ:=WW wr (Below.refl _ _);have r0:wr.cell? ⟨b,o+k*9,none⟩=some (.string x.name):=iQ.1 _ rfl;have r1:wr.cell? ⟨b,o+k*9+1,none⟩=some (.slice A3 n3 c3):=iQ.2 1 _ rfl;have r2:wr.cell? ⟨b,o+k*9+2,none⟩=some (.int .i64 x.method):=iQ.2 2 _ rfl;have r3:wr.cell? ⟨b,o+k*9+3,none⟩=some (.int .i64 x.seats):=iQ.2 3 _ rfl;have r4:wr.cell? ⟨b,o+k*9+4,none⟩=some (.int .i64 x.ranks):=iQ.2 4 _ rfl;have r5:wr.cell? ⟨b,o+k*9+5,none⟩=some (.int .i64 x.digits):=iQ.2 5 _ rfl;have r6:wr.cell? ⟨b,o+k*9+6,none⟩=some (.int .i64 x.ties):=iQ.2 6 _ rfl;have r7:wr.cell? ⟨b,o+k*9+7,none⟩=some (.int .i64 x.over):=iQ.2 7 _ rfl;have r8:wr.cell? ⟨b,o+k*9+8,none⟩=some (.int .i64 x.skip):=iQ.2 8 _ rfl;have hpr:wr.cell? ⟨p,0,none⟩=some (.string nm):=(HB.out.cell (World.block_lt_of_cell? w _ HP.out)).trans HP.out;have HC:=zH (KW (w:=wr) (S:=S) (x:=x) ⟨_,rfl,A3,n3,c3,rfl,x1⟩ p nm hpr);clear iQ WW hx fH x1 hpr;go_wp2_with fail;refine HC.out.mono ?_;rintro e w3 ⟨rfl,kP⟩;have mI:=zH (ak HB.out kP);clear kP;by_cases hn:x.name=nm
   ·rw[decide_eq_true hn];have bm:z=(k:Int):=by rw[kr.out,if_pos hn]
    have dS:=zH bm;clear bm hn;go_wp2_with fail;go_ret
    exact⟨by rw[dS.out];rfl,mI.out⟩
   ·rw[decide_eq_false hn];have bm:z=cG nm (xs.drop (k+1)) (k+1):=by rw[kr.out,if_neg hn]
    have dS:=zH bm;clear bm hn;go_wp2_with fail;go_roundw
    case rel=>exact⟨k+1,by go_num,by omega,dS.out,mI.out⟩
    case measure=>simp[intOf];omega
  ·have gV:k=n:=by omega
   have bm:z= -1:=by
    rw[RI.out,abg (by rw[Fu.out];omega)];rfl
   have dS:=zH bm;clear bm gV;go_wp2_with fail;go_ret
   exact⟨by rw[dS.out];rfl,HB.out⟩
abbrev adZ:FuncId:=100
theorem O9:av Tryz.prog 99 false (aU [(0,sD (.list (.st 3))),(1,.cl adZ .str)] fun((l:List ai),(s:ByteArray),_)=>.lf (aI (cG s l 0))):=
 gD fun w S x vs r hS he hl hr=>by
  obtain⟨(l:List ai),(s:ByteArray),_⟩:=x;obtain⟨v,h1,A,q,c,h2,h3,_⟩:=he 0 (.one (.list (.st 3) l false)) abh;obtain⟨v',jl,b,cs,hb,Cv,Lo,h4'⟩:=he 1 (.one (.cl adZ .str s)) (abr _ abh);obtain rfl:=hr
  match vs,hl,h1,jl with
  | [u,u'],_,h1,jl=>
   injection h1 with h1
   injection jl with jl
   subst h1 jl h2 Cv;obtain rfl:cs=[.string s]:=Lo;exact Calls.mono (Ux h3 hS b s (h4' 0 _ rfl)) fun _ _ h=>He rfl h
theorem P5:av Tryz.prog 101 false (aU [(0,sD (.list .bool)),(1,sB)] fun((l:List Bool),(b:Bool),_)=>.lf (aB (l.contains b))):=
 gD fun w S x vs r hS he hl hr=>by
  obtain⟨(l:List Bool),(s:Bool),_⟩:=x;obtain⟨v,h1,A,q,c,h2,h3,_⟩:=he 0 (.one (.list .bool l false)) abh;obtain⟨v',jl,Cv,_⟩:=he 1 (aB s) (abr _ abh);obtain rfl:=hr
  match vs,hl,h1,jl with
  | [u,u'],_,h1,jl=>
   injection h1 with h1
   injection jl with jl
   subst h1 jl h2 Cv;exact Calls.mono (US h3 s) fun _ _ h=>He rfl ⟨h.1,h.2▸Below.refl _ _⟩
noncomputable def CV8:hZ Tryz.prog:=dj SJ [⟨_,_,_,Ja⟩,⟨_,_,_,O9⟩,⟨_,_,_,P5⟩] []
noncomputable abbrev adL:=Tryz.f67
abbrev csZ:List CS:=[.d .str,.d tI,.d tI,.d tI,.d (.list .str),.own (.st 3) 95,.zc (.st 4) (.st 10) 97,.d tI,.d tI,.d .bool,.d (.list .limb),.d (.list .limb),.d tI,.d .str,.mr .s .str 9,.d (.list (.st 14))]
abbrev csO:List CS:=[.d .str,.d tI,.d tI,.d tI,.d (.list .str),.own (.st 3) 95,.zip (.st 4) (.st 10) 97 [.d .str,.own tI 3,.own tI 3],.d tI,.d tI,.d .bool,.d (.list .limb),.d (.list .limb),.d tI,.d .str,.mr .s .str 9,.d (.list (.st 14))]
abbrev Fb:SS:=.box 135 csZ
abbrev sBo:SS:=.box 135 csO
abbrev csD:List CS:=[.d (.mp .s tI),.d (.mp .s (.list .str)),.d (.mp .s tI),.d .bool,.d (.list .limb),.d (.list .limb),.d .str]
abbrev sVd:SS:=.box 168 csD
abbrev sUs:SS:=.c (.own .bool 4)
noncomputable abbrev TX:Rg Tryz.prog adL.ntmps:=BE (fRg CV8 adL [0] [(2,[23])]) [(5,Xd 0 6),(11,oD 0 6),(13,oD 0 6),(22,oD 0 6),(25,oD 0 6)] [(2,Qf 0 6 (.st 4) (.st 10))]
abbrev BZ:=eY csZ
abbrev BO:=eY csO
abbrev Sz:=eY csD
abbrev ZIn:=Nat×List ax×(ByteArray×List Int×List Int×Unit)×List ByteArray
namespace BO
abbrev prec (x:BO):List ByteArray:=x.2.2.2.2.1
abbrev cont (x:BO):List ai:=x.2.2.2.2.2.1
abbrev z (x:BO):ZIn:=x.2.2.2.2.2.2.1
abbrev ps (x:BO):List Int:=x.z.2.2.1.2.1
abbrev cs (x:BO):List Int:=x.z.2.2.1.2.2.1
def withP (x:BO) (ps cs:List Int):BO:=(x.1,x.2.1,x.2.2.1,x.2.2.2.1,x.2.2.2.2.1,x.2.2.2.2.2.1,(x.z.1,x.z.2.1,(x.z.2.2.1.1,ps,cs,()),x.z.2.2.2),x.2.2.2.2.2.2.2)
def cl (x:BO):BZ:=(x.1,x.2.1,x.2.2.1,x.2.2.2.1,x.2.2.2.2.1,x.2.2.2.2.2.1,(x.z.1,x.z.2.1++[⟨x.z.2.2.1.1,x.ps.reverse,x.cs.reverse⟩],x.z.2.2.2),x.2.2.2.2.2.2.2)
end BO
abbrev Sz.ln (v:Sz) (k:ByteArray):Int:=(v.2.2.1 k).getD (0:Int)
abbrev k1L:List (Nat×SS):=[(0,sBo),(2,Mi),(3,sUs),(4,sI),(5,sVd),(6,.sb 2 3),(23,sD (.list (.st 14))),(24,sI),(25,sI),(39,sL),(40,sI),(41,sI)]
abbrev k2L:List (Nat×SS):=[(0,sBo),(2,Mi),(3,sUs),(4,sI),(5,sVd),(6,.sb 2 3),(23,sD (.list (.st 14))),(24,sI),(25,sI),(84,sL),(85,sI),(86,sI)]
abbrev O2:List (Nat×SS):=[(0,sBo),(2,Mi),(3,sUs),(4,sI),(5,sVd),(6,.sb 2 3),(23,sD (.list (.st 14))),(24,sI),(25,sI)]
section
variable {L:Type} (back:BO→List Bool→L) (out:BO→List Bool→L) (ret:eM→BZ→L) (v:Sz)
def lnE (k:ByteArray) (x:BO) (no:Int):T L:=.nd (Kt.ok .s k) (.lf (ret ⟨no,v.ln k⟩ x.cl))
def k1T (x:BO) (us:List Bool) (l:List ByteArray) (a j:Int):T L:=.br (decide (j<a)) (.nd (0≤j∧j<l.length) (.br (decide (Lib.idxOfS x.prec (l.getD j.toNat ⟨#[]⟩)<0)) (lnE ret v af x 2)
 (.nd (0≤Lib.idxOfS x.prec (l.getD j.toNat ⟨#[]⟩)∧Lib.idxOfS x.prec (l.getD j.toNat ⟨#[]⟩)<us.length) (.br (us.reverse.getD (Lib.idxOfS x.prec (l.getD j.toNat ⟨#[]⟩)).toNat false) (lnE ret v af x 3)
 (.nd (0≤Lib.idxOfS x.prec (l.getD j.toNat ⟨#[]⟩)∧Lib.idxOfS x.prec (l.getD j.toNat ⟨#[]⟩)<us.length) (.nd ((x.ps.length+1)*9≤140737488355328) (.nd (cN (j+1)) (.lf (back (x.withP (Lib.idxOfS x.prec (l.getD j.toNat ⟨#[]⟩)::x.ps) x.cs) (us.reverse.set (Lib.idxOfS x.prec (l.getD j.toNat ⟨#[]⟩)).toNat true).reverse))))))))) (.lf (out x us))
def k2T (x:BO) (us:List Bool) (l:List ByteArray) (a j:Int):T L:=.br (decide (j<a)) (.nd (0≤j∧j<l.length) (.br (decide (cG (l.getD j.toNat ⟨#[]⟩) x.cont.reverse 0<0)) (lnE ret v ay x 2)
 (.nd ((x.cs.length+1)*9≤140737488355328) (.nd (cN (j+1)) (.lf (back (x.withP x.ps (cG (l.getD j.toNat ⟨#[]⟩) x.cont.reverse 0::x.cs)) us)))))) (.lf (out x us))
def lnF (x:BO) (u:List Bool) (ps cs:List Int) (e:eM):T L:=.br (e.no==0) (.lf (out (x.withP ps.reverse cs.reverse) u.reverse)) (.lf (ret e (x.withP ps.reverse cs.reverse).cl))
end
def rD (prec:List ByteArray) (line:Int):List ByteArray→List Bool→List Int→(List Bool×List Int)×eM
 | [],u,a=>((u,a),⟨0,0⟩)
 | s::l,u,a=>if Lib.idxOfS prec s<0 then((u,a),⟨2,line⟩) else if u.getD (Lib.idxOfS prec s).toNat false=true then((u,a),⟨3,line⟩) else rD prec line l (u.set (Lib.idxOfS prec s).toNat true) (a++[Lib.idxOfS prec s])
def Bu (cont:List ai) (line:Int):List ByteArray→List Int→List Int×eM
 | [],a=>(a,⟨0,0⟩)
 | s::l,a=>if cG s cont 0<0 then(a,⟨2,line⟩) else Bu cont line l (a++[cG s cont 0])
abbrev eF (e:eM):XV:=.agg [.val (.int .i64 e.no),.sym (.int .i64 e.line)]
section
variable (y:pF) (c:Int) (v:Sz) (vs:List aC) (n i:Int) (l:List ByteArray) (a j:Int)
def Za (x:BO) (us:List Bool):LE k1L O2 [(0,Fb)]:=.back (x,y,us,c,v,(),vs,n,i,l,a,j+1,())
def I6 (x:BO) (us:List Bool):LE k1L O2 [(0,Fb)]:=.out (x,y,us,c,v,(),vs,n,i,())
def zG (e:eM) (x:BZ):LE k1L O2 [(0,Fb)]:=.ret (eF e) (x,())
def Y9 (x:BO) (us:List Bool):LE k2L O2 [(0,Fb)]:=.back (x,y,us,c,v,(),vs,n,i,l,a,j+1,())
def O1 (x:BO) (us:List Bool):LE k2L O2 [(0,Fb)]:=.out (x,y,us,c,v,(),vs,n,i,())
def O0 (e:eM) (x:BZ):LE k2L O2 [(0,Fb)]:=.ret (eF e) (x,())
end
def lnP (x:BO) (us:List Bool) (r:List Int) (l:List ByteArray) (a j:Int):Prop:=0≤j∧j≤l.length∧a=l.length∧us.length=x.prec.length∧(r.length:Int)=j∧l.length≤1099511627776
theorem Uw (l:List ByteArray) (s:ByteArray):Lib.idxOfS l s<0∨(0≤Lib.idxOfS l s∧Lib.idxOfS l s<l.length):=by
 have:=je s l 0;have h2:∀(l:List ByteArray) (i:Nat),Lib.idxFromS l s i<0∨Lib.idxFromS l s i<i+l.length:=by
  intro l;induction l with
  | nil=>intro i;exact .inl (by show(-1:Int)<0;omega)
  | cons x l ih=>
   intro i;unfold Lib.idxFromS;rw[abp];split
   ·exact .inr (by omega)
   ·rcases ih (i+1) with h|h
    ·exact .inl h
    ·exact .inr (by omega)
 have h3:=h2 l 0;unfold Lib.idxOfS;omega
theorem TU:eD TX 1 2 k1L O2 [(0,Fb)] fun((x:BO),(y:pF),(us:List Bool),(c:Int),(v:Sz),_,(vs:List aC),(n:Int),(i:Int),(l:List ByteArray),(a:Int),(j:Int),_)=>
 .nd (lnP x us x.ps l a j) (lnF (I6 y c v vs n i) zG x (rD x.prec (v.ln af) (l.drop j.toNat) us.reverse x.ps.reverse).1.1 (rD x.prec (v.ln af) (l.drop j.toNat) us.reverse x.ps.reverse).1.2 x.cs.reverse (rD x.prec (v.ln af) (l.drop j.toNat) us.reverse x.ps.reverse).2):=by
  refine eG _ (nL _ _) 99 1 2 k1L O2 [(0,Fb)] (fun((x:BO),(y:pF),(us:List Bool),(c:Int),(v:Sz),_,(vs:List aC),(n:Int),(i:Int),(l:List ByteArray),(a:Int),(j:Int),_)=>k1T (Za y c v vs n i l a j) (I6 y c v vs n i) zG v x us l a j)
   (fun(_,_,_,_,_,_,_,_,_,(l:List ByteArray),_,(j:Int),_)=>l.length-j.toNat) ?_
  rintro⟨(x:BO),(y:pF),(us:List Bool),(c:Int),(v:Sz),⟨⟩,(vs:List aC),(n:Int),(i:Int),(l:List ByteArray),(a:Int),(j:Int),_⟩ r _ ⟨⟨h0,h1,rfl,h5,h6,h7⟩,hr⟩;have hr:(lnF (I6 y c v vs n i) zG x _ _ _ _).hit r:=hr;obtain⟨k,rfl⟩:∃k:Nat,j=k:=⟨j.toNat,by omega⟩;rw[aaR] at hr;have Pg:x.withP x.ps.reverse.reverse x.cs.reverse.reverse=x:=by rw[aa7,aa7];rfl
  show∃q,(k1T _ _ _ v x us l l.length k).hit q∧_;unfold k1T;by_cases hk:k<l.length
  ·rw[getD_drop (⟨#[]⟩:ByteArray) hk,rD] at hr;rw[aaR];have hE:∀no:Int,no≠0→(lnF (I6 y c v vs n i) zG x us.reverse x.ps.reverse x.cs.reverse ⟨no,v.ln af⟩).hit r→(lnE (L:=LE k1L O2 [(0,Fb)]) zG v af x no).hit r∧zG ⟨no,v.ln af⟩ x.cl=r:=fun no hn h=>by
    have h:=h.2 (beq_false_of_ne hn);rw[Pg] at h;exact⟨⟨qL,h⟩,h⟩
   have hn:(0:Int)≤k∧(k:Int)<l.length:=⟨by omega,by omega⟩;split at hr
   ·rename_i hlt;obtain⟨q1,rfl⟩:=hE 2 (by decide) hr;exact⟨_,aX (decide_eq_true hn.2) ⟨hn,aX (decide_eq_true hlt) q1⟩,rfl⟩
   ·rename_i hge;have hx:=(Uw x.prec (l.getD k ⟨#[]⟩)).resolve_left hge;split at hr
    ·rename_i hu;obtain⟨q1,rfl⟩:=hE 3 (by decide) hr;exact⟨_,aX (decide_eq_true hn.2) ⟨hn,bg (decide_eq_false hge) ⟨⟨hx.1,by omega⟩,aX hu q1⟩⟩,rfl⟩
    ·rename_i hu;refine⟨_,aX (decide_eq_true hn.2) ⟨hn,bg (decide_eq_false hge) ⟨⟨hx.1,by omega⟩,bg (by simpa using hu) ⟨⟨hx.1,by omega⟩,by omega,⟨by omega,by omega⟩,rfl⟩⟩⟩,?_,?_⟩
     ·show l.length-(k+1)<l.length-k;omega
     ·refine⟨⟨by omega,by omega,rfl,?_,?_,h7⟩,?_⟩
      ·rw[aa9,abF,aa9];exact h5
      ·show((x.ps.length+1:Nat):Int)=(k:Int)+1;omega
      ·show(lnF _ _ _ _ _ _ _).hit r;rw[aa7];have e:(Lib.idxOfS x.prec (l.getD k ⟨#[]⟩)::x.ps).reverse=x.ps.reverse++[Lib.idxOfS x.prec (l.getD k ⟨#[]⟩)]:=by simp
       rw[←e] at hr;exact hr
  ·rw[abg (by omega),rD] at hr;have h:=hr.1 rfl;rw[Pg,aa7] at h;obtain rfl:=h;exact⟨_,bg (decide_eq_false (by omega)) rfl,rfl⟩
theorem TS:eD TX 2 5 k2L O2 [(0,Fb)] fun((x:BO),(y:pF),(us:List Bool),(c:Int),(v:Sz),_,(vs:List aC),(n:Int),(i:Int),(l:List ByteArray),(a:Int),(j:Int),_)=>
 .nd (lnP x us x.cs l a j) (lnF (O1 y c v vs n i) O0 x us.reverse x.ps.reverse (Bu x.cont.reverse (v.ln ay) (l.drop j.toNat) x.cs.reverse).1 (Bu x.cont.reverse (v.ln ay) (l.drop j.toNat) x.cs.reverse).2):=by
  refine eG _ (nL _ _) 99 2 5 k2L O2 [(0,Fb)] (fun((x:BO),(y:pF),(us:List Bool),(c:Int),(v:Sz),_,(vs:List aC),(n:Int),(i:Int),(l:List ByteArray),(a:Int),(j:Int),_)=>k2T (Y9 y c v vs n i l a j) (O1 y c v vs n i) O0 v x us l a j)
   (fun(_,_,_,_,_,_,_,_,_,(l:List ByteArray),_,(j:Int),_)=>l.length-j.toNat) ?_
  rintro⟨(x:BO),(y:pF),(us:List Bool),(c:Int),(v:Sz),⟨⟩,(vs:List aC),(n:Int),(i:Int),(l:List ByteArray),(a:Int),(j:Int),_⟩ r _ ⟨⟨h0,h1,rfl,h5,h6,h7⟩,hr⟩;have hr:(lnF (O1 y c v vs n i) O0 x _ _ _ _).hit r:=hr;obtain⟨k,rfl⟩:∃k:Nat,j=k:=⟨j.toNat,by omega⟩;rw[aaR] at hr;have Pg:x.withP x.ps.reverse.reverse x.cs.reverse.reverse=x:=by rw[aa7,aa7];rfl
  show∃q,(k2T _ _ _ v x us l l.length k).hit q∧_;unfold k2T;by_cases hk:k<l.length
  ·rw[getD_drop (⟨#[]⟩:ByteArray) hk,Bu] at hr;rw[aaR];have hn:(0:Int)≤k∧(k:Int)<l.length:=⟨by omega,by omega⟩;split at hr
   ·rename_i hlt;have h:=hr.2 rfl;rw[Pg] at h;obtain rfl:=h;exact⟨_,aX (decide_eq_true hn.2) ⟨hn,aX (decide_eq_true hlt) ⟨qL,rfl⟩⟩,rfl⟩
   ·rename_i hge;refine⟨_,aX (decide_eq_true hn.2) ⟨hn,bg (decide_eq_false hge) ⟨by omega,⟨by omega,by omega⟩,rfl⟩⟩,?_,?_⟩
    ·show l.length-(k+1)<l.length-k;omega
    ·refine⟨⟨by omega,by omega,rfl,h5,?_,h7⟩,?_⟩
     ·show((x.cs.length+1:Nat):Int)=(k:Int)+1;omega
     ·have e:(cG (l.getD k ⟨#[]⟩) x.cont.reverse 0::x.cs).reverse=x.cs.reverse++[cG (l.getD k ⟨#[]⟩) x.cont.reverse 0]:=by simp
      rw[←e] at hr;exact hr
  ·rw[abg (by omega),Bu] at hr;have h:=hr.1 rfl;rw[Pg,aa7] at h;obtain rfl:=h;exact⟨_,bg (decide_eq_false (by omega)) rfl,rfl⟩
abbrev k0L:List (Nat×SS):=[(0,Fb),(2,Mi),(3,sUs),(23,sD (.list (.st 14))),(24,sI),(25,sI)]
abbrev k0O:List (Nat×SS):=[(0,Fb),(2,Mi),(3,sUs)]
abbrev K0:=LE k0L k0O [(0,Fb)]
abbrev ZcB:=Nat×List ax×List ByteArray
namespace BZ
abbrev prec (x:BZ):List ByteArray:=x.2.2.2.2.1
abbrev cont (x:BZ):List ai:=x.2.2.2.2.2.1
abbrev z (x:BZ):ZcB:=x.2.2.2.2.2.2.1
def withZ (x:BZ) (d:List ax) (r:List ByteArray):BZ:=(x.1,x.2.1,x.2.2.1,x.2.2.2.1,x.2.2.2.2.1,x.2.2.2.2.2.1,(x.z.1,d,r),x.2.2.2.2.2.2.2)
def op (x:BZ):BO:=(x.1,x.2.1,x.2.2.1,x.2.2.2.1,x.2.2.2.2.1,x.2.2.2.2.2.1,(x.z.1,x.z.2.1,(x.z.2.2.getD 0 ⟨#[]⟩,[],[],()),x.z.2.2.drop 1),x.2.2.2.2.2.2.2)
end BZ
section
variable (y:pF) (vs:List aC) (n i:Int)
def TY {L:Type} (out:BO→List Bool→T L) (ret:eM→BZ→L) (x:BO) (u:List Bool) (ps cs:List Int) (e:eM):T L:=.br (e.no==0) (out (x.withP ps.reverse cs.reverse) u.reverse) (.lf (ret e (x.withP ps.reverse cs.reverse).cl))
def zI (e:eM) (x:BZ):K0:=.ret (eF e) (x,())
def k0E (x:BO) (us:List Bool):T K0:=.nd (cN (i+1)) (.lf (.back (x.cl,y,us,vs,n,i+1,())))
def k0D (v:aC) (x:BO) (us:List Bool):T K0:=.nd (Kt.ok .s ay) (.nd (lnP x us x.cs (v.s ay) (v.s ay).length 0) (TY (k0E y vs n i) zI x us.reverse x.ps.reverse (Bu x.cont.reverse (v.l ay) ((v.s ay).drop (Int.toNat 0)) x.cs.reverse).1 (Bu x.cont.reverse (v.l ay) ((v.s ay).drop (Int.toNat 0)) x.cs.reverse).2))
def k0C (v:aC) (x:BO) (us:List Bool):T K0:=.nd (Kt.ok .s af) (.nd (lnP x us x.ps (v.s af) (v.s af).length 0) (TY (k0D y vs n i v) zI x (rD x.prec (v.l af) ((v.s af).drop (Int.toNat 0)) us.reverse x.ps.reverse).1.1 (rD x.prec (v.l af) ((v.s af).drop (Int.toNat 0)) us.reverse x.ps.reverse).1.2 x.cs.reverse (rD x.prec (v.l af) ((v.s af).drop (Int.toNat 0)) us.reverse x.ps.reverse).2))
def k0B (x:BZ) (us:List Bool):T K0:=.br (decide (i<n)) (.nd (0≤i∧i<vs.length) (.nd (x.z.2.1.length<x.z.1) (.nd (i=x.z.2.1.length) (k0C y vs n i (vs.getD i.toNat aC.zero) x.op us)))) (.lf (.out (x,y,us,())))
end
def qu (prec:List ByteArray) (cont:List ai):List aC→List ax→List ByteArray→List Bool→(List ax×List ByteArray×List Bool)×eM
 | [],d,r,u=>((d,r,u),⟨0,0⟩)
 | v::vs,d,r,u=>
  if(rD prec (v.l af) (v.s af) u []).2.no=0 then
   if(Bu cont (v.l ay) (v.s ay) []).2.no=0 then qu prec cont vs (d++[⟨r.getD 0 ⟨#[]⟩,(rD prec (v.l af) (v.s af) u []).1.2,(Bu cont (v.l ay) (v.s ay) []).1⟩]) (r.drop 1) (rD prec (v.l af) (v.s af) u []).1.1
   else((d++[⟨r.getD 0 ⟨#[]⟩,(rD prec (v.l af) (v.s af) u []).1.2,(Bu cont (v.l ay) (v.s ay) []).1⟩],r.drop 1,(rD prec (v.l af) (v.s af) u []).1.1),(Bu cont (v.l ay) (v.s ay) []).2)
  else((d++[⟨r.getD 0 ⟨#[]⟩,(rD prec (v.l af) (v.s af) u []).1.2,[]⟩],r.drop 1,(rD prec (v.l af) (v.s af) u []).1.1),(rD prec (v.l af) (v.s af) u []).2)
theorem IT (prec:List ByteArray) (line:Int):∀(l:List ByteArray) (u:List Bool) (a:List Int),(rD prec line l u a).1.1.length=u.length
 | [],_,_=>rfl
 | s::l,u,a=>by
  unfold rD;split
  ·rfl
  split
  ·rfl
  ·rw[IT prec line l,abF]
def vOk (v:aC):Prop:=(v.s af).length≤1099511627776∧(v.s ay).length≤1099511627776
def lnR (x:BZ) (y:pF) (q:(List ax×List ByteArray×List Bool)×eM):T K0:=.br (q.2.no==0) (.lf (.out (x.withZ q.1.1 q.1.2.1,y,q.1.2.2.reverse,()))) (.lf (.ret (eF q.2) (x.withZ q.1.1 q.1.2.1,())))
theorem TV:eD TX 0 0 k0L k0O [(0,Fb)] fun((x:BZ),(y:pF),(us:List Bool),(vs:List aC),(n:Int),(i:Int),_)=>
 .nd (0≤i∧i≤vs.length∧n=vs.length∧i=x.z.2.1.length∧x.z.1=vs.length∧us.length=x.prec.length∧∀v∈vs,vOk v) (lnR x y (qu x.prec x.cont.reverse (vs.drop i.toNat) x.z.2.1 x.z.2.2 us.reverse)):=by
  refine eG _ (((nL _ _).add 1 _ TU).add 2 _ TS) 99 0 0 k0L k0O [(0,Fb)] (fun((x:BZ),(y:pF),(us:List Bool),(vs:List aC),(n:Int),(i:Int),_)=>k0B y vs n i x us)
   (fun(_,_,_,(vs:List aC),_,(i:Int),_)=>vs.length-i.toNat) ?_
  rintro⟨(x:BZ),(y:pF),(us:List Bool),(vs:List aC),(n:Int),(i:Int),_⟩ r sJ ⟨⟨h0,h1,rfl,h3,h4,h5,h6⟩,hr⟩;have Cq:vs.length≤9223372036854775807:=sJ.2.2.2.1;obtain⟨k,rfl⟩:∃k:Nat,i=k:=⟨i.toNat,by omega⟩;rw[aaR] at hr;show∃q,(k0B y vs vs.length k x us).hit q∧_;unfold k0B;by_cases hk:k<vs.length
  ·rw[getD_drop aC.zero hk,qu] at hr;rw[aaR];obtain⟨v,hv⟩:∃v,vs.getD k aC.zero=v:=⟨_,rfl⟩;have oy:vOk v:=h6 v (by rw[←hv,aaQ,aac hk];exact abI _);rw[hv] at hr ⊢;have hn:(0:Int)≤k∧(k:Int)<vs.length:=⟨by omega,by omega⟩;have pre:∀{q},(TY (k0D y vs vs.length k v) zI x.op (rD x.prec (v.l af) (v.s af) us.reverse []).1.1 (rD x.prec (v.l af) (v.s af) us.reverse []).1.2 [] (rD x.prec (v.l af) (v.s af) us.reverse []).2).hit q→(T.br (decide ((k:Int)<vs.length)) (.nd (0≤(k:Int)∧(k:Int)<vs.length) (.nd (x.z.2.1.length<x.z.1) (.nd ((k:Int)=x.z.2.1.length) (k0C y vs vs.length k v x.op us)))) (.lf (.out (x,y,us,())))).hit q:=fun hq=>
    aX (decide_eq_true hn.2) ⟨hn,by omega,h3,qL,⟨by omega,by omega,rfl,h5,rfl,oy.1⟩,hq⟩
   have bO:=IT x.prec (v.l af) (v.s af) us.reverse [];obtain⟨q,hq⟩:∃q,rD x.prec (v.l af) (v.s af) us.reverse []=q:=⟨_,rfl⟩;obtain⟨p,hp⟩:∃p,Bu x.cont.reverse (v.l ay) (v.s ay) []=p:=⟨_,rfl⟩;rw[hq] at hr bO pre;rw[hp] at hr;rw[aa9] at bO;by_cases e1:q.2.no=0
   ·rw[if_pos e1] at hr;have adk:∀{t},(TY (k0E y vs vs.length k) zI (x.op.withP q.1.2.reverse []) q.1.1.reverse.reverse q.1.2.reverse.reverse p.1 p.2).hit t→(k0D y vs vs.length k v (x.op.withP q.1.2.reverse []) q.1.1.reverse).hit t:=fun ht=>
     ⟨qL,⟨by omega,by omega,rfl,by rw[aa9,bO];exact h5,rfl,oy.2⟩,by
      have:Bu (x.op.withP q.1.2.reverse []).cont.reverse (v.l ay) ((v.s ay).drop (Int.toNat 0)) (x.op.withP q.1.2.reverse []).cs.reverse=p:=hp;rw[this];exact ht⟩
    have ex:((x.op.withP q.1.2.reverse []).withP q.1.2.reverse.reverse.reverse p.1.reverse).cl=x.withZ (x.z.2.1++[⟨x.z.2.2.getD 0 ⟨#[]⟩,q.1.2,p.1⟩]) (x.z.2.2.drop 1):=by
     have e3:q.1.2.reverse.reverse.reverse.reverse=q.1.2:=by simp only[aa7]
     have e4:p.1.reverse.reverse=p.1:=aa7 _;show x.withZ (x.z.2.1++[⟨x.z.2.2.getD 0 ⟨#[]⟩,q.1.2.reverse.reverse.reverse.reverse,p.1.reverse.reverse⟩]) (x.z.2.2.drop 1)=_;rw[e3,e4]
    by_cases e2:p.2.no=0
    ·rw[if_pos e2] at hr;refine⟨.back (x.withZ (x.z.2.1++[⟨x.z.2.2.getD 0 ⟨#[]⟩,q.1.2,p.1⟩]) (x.z.2.2.drop 1),y,q.1.1.reverse.reverse.reverse,vs,(vs.length:Int),(k:Int)+1,()),pre (aX (by rw[e1];rfl) (adk (aX (by rw[e2];rfl) ⟨⟨by omega,by omega⟩,by rw[ex];rfl⟩))),?_,?_⟩
     ·show vs.length-(k+1)<vs.length-k;omega
     ·refine⟨⟨by omega,by omega,rfl,?_,h4,?_,h6⟩,?_⟩
      ·show(k:Int)+1=((x.z.2.1++[_]).length:Nat);rw[abm,abN];omega
      ·show q.1.1.reverse.reverse.reverse.length=x.prec.length;rw[aa9,aa9,aa9,bO];exact h5
      ·show(lnR _ _ (qu _ _ (vs.drop (k+1)) _ _ q.1.1.reverse.reverse.reverse.reverse)).hit r;simp only[aa7];exact hr
    ·rw[if_neg e2] at hr;obtain rfl:=hr.2 (beq_false_of_ne e2);refine⟨zI p.2 (x.withZ (x.z.2.1++[⟨x.z.2.2.getD 0 ⟨#[]⟩,q.1.2,p.1⟩]) (x.z.2.2.drop 1)),pre (aX (by rw[e1];rfl) (adk (bg (beq_false_of_ne e2) ?_))),rfl⟩;rw[ex];rfl
   ·rw[if_neg e1] at hr;obtain rfl:=hr.2 (beq_false_of_ne e1);refine⟨zI q.2 (x.withZ (x.z.2.1++[⟨x.z.2.2.getD 0 ⟨#[]⟩,q.1.2,[]⟩]) (x.z.2.2.drop 1)),pre (bg (beq_false_of_ne e1) ?_),rfl⟩;have ex:(x.op.withP q.1.2.reverse ([]:List Int).reverse).cl=x.withZ (x.z.2.1++[⟨x.z.2.2.getD 0 ⟨#[]⟩,q.1.2,[]⟩]) (x.z.2.2.drop 1):=by
     show x.withZ (x.z.2.1++[⟨x.z.2.2.getD 0 ⟨#[]⟩,q.1.2.reverse.reverse,[]⟩]) (x.z.2.2.drop 1)=_;rw[aa7]
    rw[ex];rfl
  ·rw[abg (by omega),qu] at hr;have h:=hr.1 rfl;rw[aa7] at h;obtain rfl:=h;exact⟨_,bg (decide_eq_false (by omega)) rfl,rfl⟩
abbrev csY:List CS:=[.d .str,.d tI,.d tI,.d tI,.d (.list .str),.own (.st 3) 95,.zc (.st 4) (.st 10) 97,.d tI,.d tI,.d .bool,.d (.list .limb),.d (.list .limb),.d tI,.d .str,.mr .s .str 9,.any]
abbrev sBy:SS:=.box 135 csY
abbrev BY:=eY csY
def BZ.y (x:BZ):BY:=(x.1,x.2.1,x.2.2.1,x.2.2.2.1,x.2.2.2.2.1,x.2.2.2.2.2.1,x.2.2.2.2.2.2.1,x.2.2.2.2.2.2.2.1,x.2.2.2.2.2.2.2.2.1,x.2.2.2.2.2.2.2.2.2.1,x.2.2.2.2.2.2.2.2.2.2.1,x.2.2.2.2.2.2.2.2.2.2.2.1,x.2.2.2.2.2.2.2.2.2.2.2.2.1,x.2.2.2.2.2.2.2.2.2.2.2.2.2.1,x.2.2.2.2.2.2.2.2.2.2.2.2.2.2.1,(),())
abbrev Mb (r:XV) (x:BZ):XV×BY×Unit:=(r,x.y,())
abbrev BX.prec (x:BX):List ByteArray:=x.2.2.2.2.1
def BX.zb (x:BX):BZ:=(x.1,x.2.1,x.2.2.1,x.2.2.2.1,x.2.2.2.2.1,x.2.2.2.2.2.1,(x.styn.length,[],x.styn.reverse),x.2.2.2.2.2.2.2.1,x.2.2.2.2.2.2.2.2.1,x.2.2.2.2.2.2.2.2.2.1,x.2.2.2.2.2.2.2.2.2.2.1,x.2.2.2.2.2.2.2.2.2.2.2.1,x.2.2.2.2.2.2.2.2.2.2.2.2.1,x.2.2.2.2.2.2.2.2.2.2.2.2.2.1,x.2.2.2.2.2.2.2.2.2.2.2.2.2.2.1,x.vals.reverse,())
def BX.go (x:BX):(List ax×List ByteArray×List Bool)×eM:=qu x.prec x.cont.reverse (x.vals.reverse.drop (Int.toNat 0)) [] x.styn.reverse (List.replicate (Int.toNat x.prec.length) false).reverse
def lkT (x:BX):T (XV×BY×Unit):=.nd ((0:Int)≤x.prec.length∧(x.prec.length:Int)=x.prec.length∧(x.prec.length:Int)*(1+1)≤281474976710656)
 (.nd ((0:Int)≤0∧(0:Int)≤x.vals.reverse.length∧(x.vals.length:Int)=x.vals.reverse.length∧(0:Int)=x.zb.z.2.1.length∧x.zb.z.1=x.vals.reverse.length∧(List.replicate (Int.toNat x.prec.length) false).length=x.zb.prec.length∧∀v∈x.vals.reverse,vOk v)
 (.br (x.go.2.no==0) (.br (x.go.1.2.2.reverse.reverse.contains false) (.lf (Mb (Ch 6 0) (x.zb.withZ x.go.1.1 x.go.1.2.1))) (.lf (Mb (Ch 0 0) (x.zb.withZ x.go.1.1 x.go.1.2.1)))) (.lf (Mb (aE x.go.2) (x.zb.withZ x.go.1.1 x.go.1.2.1)))))
def gv (x:BX):eM×BZ:=(if x.go.2.no=0 then(if x.go.1.2.2.contains false then⟨6,0⟩ else⟨0,0⟩) else x.go.2,x.zb.withZ x.go.1.1 x.go.1.2.1)
def wW (x:BX):Prop:=x.prec.length≤140737488355328∧x.styn.length=x.vals.length∧∀v∈x.vals,vOk v
theorem ON:gh Tryz.prog 67 [0] [(0,AU)] [(0,sBy)] fun((x:BX),_)=>.nd (wW x) (.lf (Mb (aE (gv x).1) (gv x).2)):=by
 refine QG (R:=TX) ((nL _ _).add 0 _ TV) 99 [(0,AU)] [(0,sBy)] (fun((x:BX),_)=>lkT x) ?_ Tryz.func67;rintro⟨(x:BX),_⟩ r _ ⟨⟨h1,h2,h3⟩,hr⟩;obtain rfl:Mb (aE (gv x).1) (gv x).2=r:=hr;refine⟨⟨by omega,rfl,by omega⟩,⟨by omega,by omega,by rw[aa9],rfl,by rw[aa9];exact h2,by rw[acc];exact aaR _,fun v hv=>h3 v (act.1 hv)⟩,?_⟩;unfold gv;by_cases e:x.go.2.no=0
 ·rw[if_pos e];refine aX (by rw[e];rfl) ?_;rw[aa7];cases x.go.1.2.2.contains false
  ·exact bg rfl rfl
  ·exact aX rfl rfl
 ·rw[if_neg e];exact bg (beq_false_of_ne e) rfl
theorem Wy (prec:List ByteArray) (line:Int):∀(l:List ByteArray) (u:List Bool) (a:List Int),eS prec line l u a=if(rD prec line l u a).2.no=0 then .ok (rD prec line l u a).1 else .error (rD prec line l u a).2
 | [],_,_=>rfl
 | s::l,u,a=>by
  unfold eS rD;split
  ·rfl
  split
  ·rfl
  ·exact Wy prec line l _ _
theorem WI (cont:List ai) (line:Int):∀(l:List ByteArray) (a:List Int),fC cont line l a=if(Bu cont line l a).2.no=0 then .ok (Bu cont line l a).1 else .error (Bu cont line l a).2
 | [],_=>rfl
 | s::l,a=>by
  unfold fC Bu;split
  ·rfl
  ·exact WI cont line l _
theorem WC (prec:List ByteArray) (cont:List ai):∀(vs:List aC) (r:List ByteArray) (u:List Bool) (d:List ax),vs.length=r.length→ hJ prec cont vs (r.map fun n=>⟨n,[],[]⟩) u d=if(qu prec cont vs d r u).2.no=0 then(if(qu prec cont vs d r u).1.2.2.contains false then .error ⟨6,0⟩ else .ok (qu prec cont vs d r u).1.1) else .error (qu prec cont vs d r u).2
 | [],[],_,_,_=>rfl
 | v::vs,s::r,u,d,h=>by
  rw[abY];unfold hJ qu;rw[Wy,WI];by_cases e1:(rD prec (v.l af) (v.s af) u []).2.no=0
  ·simp only[if_pos e1];by_cases e2:(Bu cont (v.l ay) (v.s ay) []).2.no=0
   ·simp only[if_pos e2];exact WC prec cont vs r _ _ (by simpa using h)
   ·simp only[if_neg e2]
  ·simp only[if_neg e1]
 | [],_::_,_,_,h=>by cases h
 | _::_,[],_,_,h=>by cases h
theorem Ue (x:BX) (h:wW x):pP x.d=if(gv x).1.no=0 then .ok (gv x).2.z.2.1 else .error (gv x).1:=by
 have e:pP x.d=_:=WC x.prec x.cont.reverse x.vals.reverse x.styn.reverse (List.replicate x.prec.length false) [] (by rw[aa9,aa9];exact h.2.1.symm);have hg:x.go=qu x.prec x.cont.reverse x.vals.reverse [] x.styn.reverse (List.replicate x.prec.length false):=by
  unfold BX.go;rw[adC,aaR];rfl
 rw[e,←hg];unfold gv;by_cases e1:x.go.2.no=0
 ·simp only[if_pos e1];cases x.go.1.2.2.contains false<;>rfl
 ·simp only[if_neg e1]
end Go.Proofs.YtjlhbfbdcfajfaaGreatDoor
