/- Tp3 Tp4 Tp5 Tp6 Tp7 Lnk1 Tp8 Tp9 Tp10 Tp11 -/
import Derived.Test.YtdbpbfglhbiadaaGreatDoorH00
import Derived.Test.YtdbpbfglhbiadaaGreatDoorH33
import Derived.Test.YtdbpbfglhbiadaaGreatDoorH16
import Derived.Test.YtdbpbfglhbiadaaGreatDoorH02
import Derived.Test.YtdbpbfglhbiadaaGreatDoorH10
set_option maxHeartbeats 4000000
set_option maxRecDepth 100000
namespace Go.Proofs.YtdbpbfglhbiadaaGreatDoor
open Go Go.RowKit
noncomputable def CV3:eP Tryz.prog:=bA Nj [⟨_,_,_,rT⟩,⟨_,_,_,AQ⟩,⟨_,_,_,UF⟩,⟨_,_,_,sr⟩,⟨_,_,_,Uz⟩] [⟨_,_,_,_,_,T0⟩]
abbrev VX.L (x:VX):Nat×(ByteArray->Option (List ByteArray)):=x.2.1
abbrev VX.N (x:VX):Nat×(ByteArray->Option Int):=x.2.2.1
def VX.setL (x:VX) (k:ByteArray) (v:Int):VX:=(x.1,x.2.1,(x.2.2.1.1+1,lC .s x.2.2.1.2 k v),x.2.2.2)
def VX.setV (x:VX) (k:ByteArray) (v:List ByteArray):VX:=(x.1,(x.2.1.1+1,lC .s x.2.1.2 k v),x.2.2)
def kOk (k:ByteArray) (n:Nat):Prop:=Kt.ok .s k/\n<1000000000000
def aeg (x:VX) (k:ByteArray) (f:ai):T (XV×VX×Unit):=
 .br (!(Lib.containsS (aO k) f.key)) (.lf (tH (aI 2) x)) (.nd (Kt.ok .s f.key) (.br (x.N.2 f.key).isSome (.lf (tH (aI 3) x)) (.nd (kOk f.key x.N.1)
 (.br (decide (bL f.key>0)) (.nd (f.vals.length<=1099511627776) (.nd (kOk f.key x.L.1) (.nd (∀s∈f.vals,cU s) (.lf (tH (aI (dl f.vals (bL f.key))) ((x.setL f.key f.line).setV f.key f.vals))))))
 (.br (!((f.vals.length:Int)==1)) (.lf (tH (aI 7) (x.setL f.key f.line))) (.nd ((0:Int)<=0/\(0:Int)<f.vals.length) (.nd (IS f.key (x.setL f.key f.line)/\cU (f.vals.getD 0 ⟨#[]⟩)) (.lf (tH (aI (mR f.key (f.vals.getD 0 ⟨#[]⟩) (x.setL f.key f.line)).1) (mR f.key (f.vals.getD 0 ⟨#[]⟩) (x.setL f.key f.line)).2)))))))))
def eW (k:ByteArray) (f:ai) (x:VX):Int×VX:=
 if Lib.containsS (aO k) f.key=false then(2,x)
 else if(x.N.2 f.key).isSome then(3,x)
 else if 0<bL f.key then(dl f.vals (bL f.key),(x.setL f.key f.line).setV f.key f.vals)
 else if f.vals.length≠1 then(7,x.setL f.key f.line)
 else mR f.key (f.vals.getD 0 ⟨#[]⟩) (x.setL f.key f.line)
def VX.n (x:VX) (n:Nat):Prop:=x.1.1<=n/\x.L.1<=n/\x.N.1<=n
def qz (f:ai):Prop:=cU f.key/\f.vals.length<=1099511627776/\∀s∈f.vals,cU s
theorem VX.v_setL (x:VX) (k:ByteArray) (v:Int):(x.setL k v).v={ x.v with ln:=setF x.v.ln k v }:=
 congrArg (λf:ByteArray->Option Int=>(⟨x.1.2,x.2.1.2,f,⟨x.2.2.2.1,x.2.2.2.2.1,x.2.2.2.2.2.1⟩,x.2.2.2.2.2.2.1⟩:aJ)) (Ky x.2.2.1.2 k v)
theorem VX.v_setV (x:VX) (k:ByteArray) (v:List ByteArray):(x.setV k v).v={ x.v with lst:=setF x.v.lst k v }:=
 congrArg (λf:ByteArray->Option (List ByteArray)=>(⟨x.1.2,f,x.2.2.1.2,⟨x.2.2.2.1,x.2.2.2.2.1,x.2.2.2.2.2.1⟩,x.2.2.2.2.2.2.1⟩:aJ)) (Ky x.2.1.2 k v)
theorem TD (k:ByteArray) (f:ai) (x:VX):bV k f x.v=((eW k f x).1,(eW k f x).2.v):=by
 unfold bV eW;split
 ·rfl
 split
 ·rename_i h;rw[if_pos (show(x.N.2 f.key).isSome from h)]
 rename_i h;rw[if_neg (show¬(x.N.2 f.key).isSome from h)];split
 ·rw[VX.v_setV,VX.v_setL]
 split
 ·rw[VX.v_setL]
 ·rw[<-VX.v_setL,Ze]
theorem TE {k:ByteArray} {f:ai} {x:VX} {n:Nat} (h:x.n n):(eW k f x).2.n (n+1):=by
 obtain⟨h1,h2,h3⟩:=h;have h0:x.n (n+1):=⟨by omega,by omega,by omega⟩;have hl:(x.setL f.key f.line).n (n+1):=⟨by show x.1.1<=_;omega,by show x.L.1<=_;omega,by show x.N.1+1<=_;omega⟩;unfold eW;split
 ·exact h0
 split
 ·exact h0
 split
 ·exact⟨by show x.1.1<=_;omega,by show x.L.1+1<=_;omega,by show x.N.1+1<=_;omega⟩
 split
 ·exact hl
 ·obtain⟨q1,q2,q3⟩:=Om f.key (f.vals.getD 0 ⟨#[]⟩) (x.setL f.key f.line);refine⟨aax q1 (by show x.1.1+1<=_;omega),?_,?_⟩
  ·show(mR _ _ _).2.2.1.1<=_;rw[q2];exact hl.2.1
  ·show(mR _ _ _).2.2.2.1.1<=_;rw[q3];exact hl.2.2
theorem cU.kt {s:ByteArray} (h:cU s):Kt.ok .s s:=aax h (by decide)
theorem N3:ew Tryz.prog 103 pV [(0,sV),(1,sS),(2,.st 0)] [(0,sV)] λ((x:VX),(k:ByteArray),(f:ai),_)=>.nd (x.n 999999999999/\qz f) (.lf (tH (aI (eW k f x).1) (eW k f x).2)):=
 iA (C:=CV3) (nL _ _) 99 [(0,sV),(1,sS),(2,.st 0)] [(0,sV)] (λ((x:VX),(k:ByteArray),(f:ai),_)=>aeg x k f) (λ⟨(x:VX),(k:ByteArray),(f:ai),_⟩ r _ ⟨⟨⟨n1,n2,n3⟩,f1,f2,f3⟩,h⟩=>by
  obtain rfl:tH (aI (eW k f x).1) (eW k f x).2=r:=h;unfold eW;by_cases h1:Lib.containsS (aO k) f.key=false
  ·rw[if_pos h1];exact aC (by rw[h1];rfl) rfl
  rw[if_neg h1];refine aK (by simpa using h1) ⟨f1.kt,?_⟩;by_cases h2:(x.N.2 f.key).isSome
  ·rw[if_pos h2];exact aC h2 rfl
  rw[if_neg h2];refine aK (by simpa using h2) ⟨⟨f1.kt,by omega⟩,?_⟩;by_cases h3:0<bL f.key
  ·rw[if_pos h3];exact aC (decide_eq_true h3) ⟨f2,⟨f1.kt,by omega⟩,f3,rfl⟩
  rw[if_neg h3];refine aK (decide_eq_false h3) ?_;by_cases h4:f.vals.length=1
  ·rw[if_neg (by simp[h4])];refine aK (by rw[h4];rfl) ⟨by omega,⟨⟨f1.kt,by show x.1.1<_;omega⟩,?_⟩,rfl⟩;rw[aal,aac (by omega)];exact f3 _ (ach _)
  ·rw[if_pos h4];exact aC (by simp;omega) rfl) Tryz.func103
noncomputable def CV4:eP Tryz.prog:=bA Nj [⟨_,_,_,rT⟩] []
abbrev Mn:SS:=.box 48 [.d tI,.d tI]
noncomputable abbrev coF:=Tryz.f104
abbrev ox:=eB [.d tI,.d tI]
abbrev coL:List (Nat×SS):=[(0,.rf 14),(1,sS),(2,sI),(6,Mn),(14,sL),(15,sI),(16,sI)]
abbrev coO:List (Nat×SS):=[(0,.rf 14),(1,sS),(2,sI),(6,Mn)]
abbrev Bl (a b:Int):XV:=.agg [.sym (.int .i64 a),.sym (.int .i64 b)]
abbrev CpE:=LE coL coO []
def QV (n:Int):T CpE:=.lf (.ret (.agg [.val (.int .i64 6),.sym (.int .i64 n)]) ())
def abt (x:aJ) (k:ByteArray) (n:Int) (y:ox) (l:List ByteArray) (a i:Int):T CpE:=.nd (cw (i+1)) (.lf (.back (x,k,n,y,l,a,i+1,())))
def cpT (x:aJ) (k:ByteArray) (n:Int) (y:ox) (l:List ByteArray) (a i:Int):T CpE:=
 .br (decide (i<a)) (.nd (0<=i/\i<l.length) (.nd (Kt.ok .s (l.getD i.toNat ⟨#[]⟩)) (.br (!((x.ln (l.getD i.toNat ⟨#[]⟩)).isSome)) (.br (!((l.getD i.toNat ⟨#[]⟩).toList==aH.toList)) (QV n) (.nd (Kt.ok .s bg) (.br (x.n bg==2) (QV n) (abt x k n y l a i)))) (abt x k n y l a i)))) (.lf (.out (x,k,n,y,())))
theorem px {s:ByteArray} (h:s.size<=1000:=by decide):Kt.ok .s s:=aax h (by decide)
theorem CB {v:aJ} {line:Int} {e:dG}:∀{l:List ByteArray},mU v line e l=if l.any (ey v) then⟨6,line⟩ else e
 | []=>rfl
 | k::l=>by
  unfold mU;rw[ac1,CB (l:=l)];cases ey v k<;>rfl
theorem IB {v:aJ} {k:ByteArray} (h1:(v.ln k).isSome=false) (h2:k≠aH\/v.n bg=2):ey v k=true:=by
 unfold ey;rw[h1];rcases h2 with h|h
 ·rw[decide_eq_true h];rfl
 ·rw[decide_eq_true h,Bool.or_true];rfl
theorem V2:cL (mi CV4 coF) 0 0 coL coO [] λ((x:aJ),(k:ByteArray),(n:Int),(y:ox),(l:List ByteArray),(a:Int),(i:Int),_)=>
 .nd (0<=i/\i<=l.length/\a=l.length/\∀s∈l,Kt.ok .s s) (.br ((l.drop i.toNat).any (ey x)) (QV n) (.lf (.out (x,k,n,y,())))):=by
  refine fy _ (nL _ _) 99 0 0 coL coO [] (λ((x:aJ),(k:ByteArray),(n:Int),(y:ox),(l:List ByteArray),(a:Int),(i:Int),_)=>cpT x k n y l a i) (λ(_,_,_,_,(l:List ByteArray),_,(i:Int),_)=>l.length-i.toNat) ?_;rintro⟨(x:aJ),(k:ByteArray),(n:Int),(y:ox),(l:List ByteArray),(a:Int),(i:Int),_⟩ r ⟨_,_,_,_,hl,_⟩ ⟨⟨h0,h1,rfl,hk⟩,h⟩;have hl:l.length<=9223372036854775807:=hl;obtain⟨j,rfl⟩:∃j:Nat,i=j:=⟨i.toNat,by omega⟩;simp only[aae] at h;by_cases hi:j<l.length
  ·rw[getD_drop ⟨#[]⟩ hi,ac1] at h;have hx:Kt.ok .s (l.getD j ⟨#[]⟩):=by
    rw[aal,aac hi];exact hk _ (ach _)
   have back:ey x (l.getD j ⟨#[]⟩)=false->(T.nd (0<=(j:Int)+1/\(j:Int)+1<=l.length/\(l.length:Int)=l.length/\∀s∈l,Kt.ok .s s) (.br ((l.drop ((j:Int)+1).toNat).any (ey x)) (QV n) (.lf (.out (x,k,n,y,()))))).hit r:=λhm=>by
    rw[hm,acY] at h;exact⟨⟨by omega,by omega,rfl,hk⟩,h⟩
   have nx:(abt x k n y l l.length (j:Int)).hit (.back (x,k,n,y,l,(l.length:Int),(j:Int)+1,())):=⟨⟨by omega,by omega⟩,rfl⟩;have μ:l.length-((j:Int)+1).toNat<l.length-j:=by omega
   have aeJ:ey x (l.getD j ⟨#[]⟩)=true->(QV n).hit r:=λhm=>by
    rw[hm,Bool.true_or] at h;exact h.1 rfl
   have hn:(0:Int)<=j/\(j:Int)<l.length:=⟨by omega,by omega⟩;cases h3:(x.ln (l.getD j ⟨#[]⟩)).isSome
   ·by_cases h4:l.getD j ⟨#[]⟩=aH
    ·by_cases h5:x.n bg=2
     ·have q:=IB h3 (.inr h5);exact⟨_,aC (decide_eq_true hn.2) ⟨hn,hx,aC (by rw[aae,h3];rfl) (aK (by rw[aae,h4];simp) ⟨px,aC (by rw[h5];rfl) rfl⟩)⟩,(aeJ q)⟩
     ·exact⟨_,aC (decide_eq_true hn.2) ⟨hn,hx,aC (by rw[aae,h3];rfl) (aK (by rw[aae,h4];simp) ⟨px,aK (beq_false_of_ne h5) nx⟩)⟩,μ,back (by unfold ey;rw[h3,decide_eq_false (λe=>e h4),decide_eq_false h5];rfl)⟩
    ·exact⟨_,aC (decide_eq_true hn.2) ⟨hn,hx,aC (by rw[aae,h3];rfl) (aC (by rw[aae,cO,decide_eq_false h4];rfl) rfl)⟩,aeJ (IB h3 (.inl h4))⟩
   ·exact⟨_,aC (decide_eq_true hn.2) ⟨hn,hx,aK (by rw[aae,h3];rfl) nx⟩,μ,back (by unfold ey;rw[h3];rfl)⟩
  ·rw[aaQ (by omega)] at h;exact⟨_,aK (decide_eq_false (by omega)) rfl,h.2 rfl⟩
def cS (x:aJ) (k:ByteArray) (n:Int):T XV:=.br (k.toList==bZ.toList) (.nd (Kt.ok .s cF) (.nd (Kt.ok .s bO) (.br (decide (x.n cF>x.n bO)) (.lf (Bl 4 n)) (.lf (Bl 0 0))))) (.lf (Bl 0 0))
def cC (x:aJ) (k:ByteArray) (n:Int):T XV:=.br (k.toList==ar.toList) (.nd (Kt.ok .s bg) (.br (x.n bg==1) (.nd (Kt.ok .s bH) (.br (decide (x.n bH>1)) (.nd (Kt.ok .s bH) (.lf (Bl 4 (x.l bH)))) (cS x k n))) (cS x k n))) (cS x k n)
def cD (x:aJ) (k:ByteArray) (n:Int):T XV:=.nd (Kt.ok .s aH) (.br (x.ln aH).isSome (.nd (Kt.ok .s bg) (.br (!(x.n bg==2)) (.lf (Bl 5 (x.l aH))) (cC x k n))) (cC x k n))
def cB (x:aJ) (k:ByteArray) (n:Int):T XV:=.nd ((0:Int)<=0/\(0:Int)<=(aO k).length/\((aO k).length:Int)=(aO k).length/\∀s∈aO k,Kt.ok .s s) (.br ((aO k).any (ey x)) (.lf (Bl 6 n)) (cD x k n))
theorem GB (x:aJ) (k:ByteArray) (n:Int):(cS x k n).hit (if k=bZ/\x.n bO<x.n cF then Bl 4 n else Bl 0 0):=by
 unfold cS;by_cases h1:k=bZ
 ·refine aC (by rw[h1];simp) ⟨px,px,?_⟩;by_cases h2:x.n bO<x.n cF
  ·rw[if_pos ⟨h1,h2⟩];exact aC (decide_eq_true h2) rfl
  ·rw[if_neg λq=>h2 q.2];exact aK (decide_eq_false h2) rfl
 ·rw[if_neg λq=>h1 q.1];exact aK (by rw[cO];exact decide_eq_false h1) rfl
theorem abH (x:aJ) (k:ByteArray) (n:Int):(cC x k n).hit (if k=ar/\x.n bg=1/\1<x.n bH then Bl 4 (x.l bH) else if k=bZ/\x.n bO<x.n cF then Bl 4 n else Bl 0 0):=by
 unfold cC;by_cases h1:k=ar
 ·refine aC (by rw[h1];simp) ⟨px,?_⟩;by_cases h2:x.n bg=1
  ·refine aC (by rw[h2];rfl) ⟨px,?_⟩;by_cases h3:1<x.n bH
   ·rw[if_pos ⟨h1,h2,h3⟩];exact aC (decide_eq_true h3) ⟨px,rfl⟩
   ·rw[if_neg λq=>h3 q.2.2];exact aK (decide_eq_false h3) (GB x k n)
  ·rw[if_neg λq=>h2 q.2.1];exact aK (beq_false_of_ne h2) (GB x k n)
 ·rw[if_neg λq=>h1 q.1];exact aK (by rw[cO];exact decide_eq_false h1) (GB x k n)
def aE (e:dG):XV:=Bl e.no e.line
theorem JB {P:Prop} [Decidable P] (a b:dG):aE (if P then a else b)=if P then aE a else aE b:=by split<;>rfl
theorem abG (x:aJ) (k:ByteArray) (n:Int):(cD x k n).hit (aE (i9 k n x)):=by
 have hc:=abH x k n;unfold i9;rw[JB,JB,JB];refine⟨px,?_⟩;cases h1:(x.ln aH).isSome
 ·rw[if_neg λq=>by cases q.1];exact aK rfl hc
 ·refine aC rfl ⟨px,?_⟩;by_cases h2:x.n bg=2
  ·rw[if_neg λq=>q.2 h2];exact aK (by rw[h2];rfl) hc
  ·rw[if_pos ⟨rfl,h2⟩];exact aC (by rw[beq_false_of_ne h2];rfl) rfl
theorem UQ (k:ByteArray):∀s∈aO k,Kt.ok .s s:=by
 have h:∀a∈et,∀s∈aO a,s.size<=1000:=by decide
 by_cases hk:k∈et
 ·exact λs hs=>px (h k hk s hs)
 ·simp only[et,abs,abL,or_false,not_or] at hk;simp[aO,hk]
theorem Q8:ao Tryz.prog 104 false (az [(0,.rf 14),(1,sS),(2,sI)] λ((x:aJ),(k:ByteArray),(n:Int),_)=>.lf (aE (ek k n x))):=
 aN (C:=CV4) ((nL _ _).add 0 _ V2) false 99 [(0,.rf 14),(1,sS),(2,sI)] (λ((x:aJ),(k:ByteArray),(n:Int),_)=>cB x k n) (λ⟨(x:aJ),(k:ByteArray),(n:Int),_⟩ r _ h=>by
  obtain rfl:aE (ek k n x)=r:=h;refine⟨⟨⟨by omega,by omega,rfl,UQ k⟩,?_⟩,.inr rfl⟩;unfold ek;rw[CB,JB];cases (aO k).any (ey x)
  ·exact aK rfl (abG x k n)
  ·exact aC rfl rfl) Tryz.func104
noncomputable def CV5:eP Tryz.prog:=bA Nj [⟨_,_,_,rT⟩,⟨_,_,_,KP⟩,⟨_,_,_,D8⟩,⟨_,_,_,AQ⟩,⟨_,_,_,V7⟩] []
def hd4 (k m:ByteArray) (ns:List ByteArray):T XV:=.br (m.toList==(⟨#[]⟩:ByteArray).toList) (.lf (aI 6)) (.nd (szB m) (.br (!(iD m.data.toList)) (.lf (aI 8)) (.nd ((0:Int)<=0/\(0:Int)<m.size) (.br (decide (((m.data.toList.getD 0 0).toNat:Int)<97)) (.lf (aI 8)) (.br (decide ((m.size:Int)>24)) (.lf (aI 8)) (.br (Lib.containsS ns m) (.lf (aI 3)) (.br ((ns.length:Int)==cI k) (.lf (aI 7)) (.lf (aI 0)))))))))
def hd3 (k m:ByteArray) (ns:List ByteArray):T XV:=.br (!(kr k)) (.lf (aI 0)) (hd4 k m ns)
def Sw (k m:ByteArray) (ns:List ByteArray):T XV:=.br (!(kr k)) (.br (decide ((ns.length:Int)>0)) (.lf (aI 3)) (hd3 k m ns)) (hd3 k m ns)
def Xv (k m:ByteArray) (ns:List ByteArray):T XV:=.br (!(kr k)) (.br (!(m.toList==(⟨#[]⟩:ByteArray).toList)) (.lf (aI 2)) (Sw k m ns)) (Sw k m ns)
def hd0 (k m:ByteArray) (ns:List ByteArray):T XV:=.nd (Kt.ok .s k) (.br ((aO k).isEmpty) (.lf (aI 2)) (Xv k m ns))
theorem Zn {m:ByteArray} (h:m≠⟨#[]⟩):0<m.size:=by
 rcases ac0 m.size with e|e
 ·exact absurd (by rcases m with⟨a⟩;obtain rfl:a=#[]:=acp e;rfl) h
 ·exact e
theorem aaA {k m:ByteArray} (ns:List ByteArray) (hk:cU k) (hm:cU m):(hd0 k m ns).hit (aI (fg k m ns)):=by
 refine⟨hk.kt,?_⟩;unfold fg;by_cases h0:aO k=[]
 ·rw[if_pos h0];exact aC (by rw[h0];rfl) rfl
 refine aK (by simpa using h0) ?_;rw[if_neg h0];unfold Xv;cases h1:kr k
 ·rw[if_pos rfl];refine aC rfl ?_;by_cases h2:m=⟨#[]⟩
  ·rw[if_neg (by simpa using h2)];refine aK (by rw[h2];simp) ?_;unfold Sw;rw[h1];refine aC rfl ?_;by_cases h3:0<ns.length
   ·rw[if_pos h3];exact aC (decide_eq_true (by omega)) rfl
   ·rw[if_neg h3];refine aK (decide_eq_false (by omega)) ?_;unfold hd3;rw[h1];exact aC rfl rfl
  ·rw[if_pos h2];exact aC (by rw[cO,decide_eq_false h2];rfl) rfl
 ·rw[if_neg (by decide)];refine aK rfl ?_;unfold Sw hd3;rw[h1];refine aK rfl (aK rfl ?_);unfold hd4;by_cases h2:m=⟨#[]⟩
  ·rw[if_pos h2];exact aC (by rw[h2];simp) rfl
  rw[if_neg h2];refine aK (by rw[cO];exact decide_eq_false h2) ⟨hm.szB,?_⟩;have hp:=Zn h2;have e0:(m.data.toList[0]?).getD 0=m.data.toList.getD 0 0:=(aal ..).symm;rw[e0];by_cases h3:iD m.data.toList=false
  ·rw[if_pos (.inl h3)];exact aC (by rw[h3];rfl) rfl
  refine aK (by simpa using h3) ⟨⟨by omega,by omega⟩,?_⟩;by_cases h4:(m.data.toList.getD 0 0).toNat<97
  ·rw[if_pos (.inr (.inl h4))];exact aC (decide_eq_true (by omega)) rfl
  refine aK (decide_eq_false (by omega)) ?_;by_cases h5:24<m.size
  ·rw[if_pos (.inr (.inr h5))];exact aC (decide_eq_true (by omega)) rfl
  rw[if_neg λq=>q.elim h3 λq=>q.elim h4 h5];refine aK (decide_eq_false (by omega)) ?_;cases h6:Lib.containsS ns m
  ·rw[if_neg (by decide)];refine aK rfl ?_;by_cases h7:(ns.length:Int)=cI k
   ·rw[if_pos h7];exact aC (by rw[h7];simp) rfl
   ·rw[if_neg h7];exact aK (beq_false_of_ne h7) rfl
  ·exact aC rfl rfl
theorem P5:ao Tryz.prog 102 false (az [(0,.rf 15),(1,.st 1)] λ((x:Bq),(b:ak),_)=>.nd (cU b.kind/\cU b.name) (.lf (aI (fg b.kind b.name ((x.names b.kind).getD []))))):=
 aN (C:=CV5) (nL _ _) false 99 [(0,.rf 15),(1,.st 1)] (λ((x:Bq),(b:ak),_)=>hd0 b.kind b.name ((x.names b.kind).getD [])) (λ⟨(x:Bq),(b:ak),_⟩ r _ ⟨⟨h1,h2⟩,h⟩=>by
  obtain rfl:aI (fg b.kind b.name ((x.names b.kind).getD []))=r:=h;exact⟨aaA _ h1 h2,.inr rfl⟩) Tryz.func102
abbrev csB:List CS:=[.d .str,.d tI,.d tI,.d tI,.d (.list .str),.own (.st 3) 87,.own (.st 10) 42,.d tI,.d tI,.d .bool,.d (.list .limb),.d (.list .limb),.d tI,.d .str,.mr .s .str 9,.own (.st 14) 180]
abbrev zR:SS:=.box 110 csB
abbrev pBd:List Nat:=[0]
abbrev BX:=eB csB
abbrev GP (r:XV) (x:BX):XV×BX×Unit:=(r,x,())
noncomputable def S4 (t:TypeId):Option Ty:=List.lookup t [(9,.str),(3,tI),(4,.bool),(22,.list .str),(87,.st 3),(42,.st 10),(180,.st 14),(110,.st 15)]
noncomputable def CV6:eP Tryz.prog:=bA S4 [] []
namespace BX
abbrev cont (x:BX):List ae:=x.2.2.2.2.2.1
abbrev styn (x:BX):List ByteArray:=x.2.2.2.2.2.2.1
abbrev names (x:BX):Nat×(ByteArray->Option (List ByteArray)):=x.2.2.2.2.2.2.2.2.2.2.2.2.2.2.1
abbrev vals (x:BX):List aJ:=x.2.2.2.2.2.2.2.2.2.2.2.2.2.2.2.1
def uScan (x:BX) (v:aJ):BX:=(x.1,v.n iK,v.n cF,v.n bO,x.2.2.2.2)
def uScs (x:BX) (v:aJ):BX:=(x.1,x.2.1,x.2.2.1,x.2.2.2.1,x.2.2.2.2.1,x.2.2.2.2.2.1,x.2.2.2.2.2.2.1,v.n fJ,v.n fL,x.2.2.2.2.2.2.2.2.2)
def uPrec (x:BX) (v:aJ):BX:=(x.1,x.2.1,x.2.2.1,x.2.2.2.1,v.s eA,x.2.2.2.2.2)
def uCont (x:BX) (c:ae):BX:=(x.1,x.2.1,x.2.2.1,x.2.2.2.1,x.2.2.2.2.1,c::x.cont,x.2.2.2.2.2.2)
def uSty (x:BX) (nm:ByteArray) (v:aJ):BX:=(x.1,x.2.1,x.2.2.1,x.2.2.2.1,x.2.2.2.2.1,x.2.2.2.2.2.1,nm::x.styn,x.2.2.2.2.2.2.2.1,x.2.2.2.2.2.2.2.2.1,x.2.2.2.2.2.2.2.2.2.1,x.2.2.2.2.2.2.2.2.2.2.1,x.2.2.2.2.2.2.2.2.2.2.2.1,x.2.2.2.2.2.2.2.2.2.2.2.2.1,x.2.2.2.2.2.2.2.2.2.2.2.2.2.1,x.2.2.2.2.2.2.2.2.2.2.2.2.2.2.1,v::x.vals,())
def uAud (x:BX) (v:aJ):BX:=(x.1,x.2.1,x.2.2.1,x.2.2.2.1,x.2.2.2.2.1,x.2.2.2.2.2.1,x.2.2.2.2.2.2.1,x.2.2.2.2.2.2.2.1,x.2.2.2.2.2.2.2.2.1,v.risk.neg,v.risk.num,v.risk.den,x.2.2.2.2.2.2.2.2.2.2.2.2.1,v.seed,x.2.2.2.2.2.2.2.2.2.2.2.2.2.2)
def uCell (x:BX) (v:aJ):BX:=(x.1,x.2.1,x.2.2.1,x.2.2.2.1,x.2.2.2.2.1,x.2.2.2.2.2.1,x.2.2.2.2.2.2.1,x.2.2.2.2.2.2.2.1,x.2.2.2.2.2.2.2.2.1,x.2.2.2.2.2.2.2.2.2.1,x.2.2.2.2.2.2.2.2.2.2.1,x.2.2.2.2.2.2.2.2.2.2.2.1,v.n iL,x.2.2.2.2.2.2.2.2.2.2.2.2.2)
def d (x:BX):cE:=⟨⟨x.1,x.2.1,x.2.2.1,x.2.2.2.1,x.2.2.2.2.1,x.cont.reverse,x.styn.reverse.map λn=>⟨n,[],[]⟩,x.2.2.2.2.2.2.2.1,x.2.2.2.2.2.2.2.2.1,⟨x.2.2.2.2.2.2.2.2.2.1,x.2.2.2.2.2.2.2.2.2.2.1,x.2.2.2.2.2.2.2.2.2.2.2.1⟩,x.2.2.2.2.2.2.2.2.2.2.2.2.1,x.2.2.2.2.2.2.2.2.2.2.2.2.2.1⟩,λk=>(x.names.2 k).map List.reverse,x.vals.reverse⟩
structure ok (x:BX) (n:Nat):Prop where
 c:x.cont.length<=n
 s:x.styn.length<=n
 v:x.vals.length<=n
 m:x.names.1<=n
 r:∀k r,x.names.2 k=some r->r.length<=n
end BX
def kk (l:List ByteArray) (t:T (XV×BX×Unit)):T (XV×BX×Unit):=l.foldr (λk t=>.nd (Kt.ok .s k) t) t
def zG (x:BX):T (XV×BX×Unit):=.lf (GP (.tup []) x)
def stB (x:BX) (k nm:ByteArray) (v:aJ):T (XV×BX×Unit):=
 .br (k.toList==bZ.toList) (kk [iK,cF,bO] (zG (x.uScan v)))
 (.br (k.toList==aX.toList) (kk [fJ,fL] (zG (x.uScs v)))
 (.br (k.toList==af.toList) (kk [eA] (zG (x.uPrec v)))
 (.br (k.toList==ar.toList) (kk [fK,bg,bH,gB,aH,il,ck,im] (.nd ((x.cont.length+1)*97<=140737488355328) (zG (x.uCont (dK nm v)))))
 (.br (k.toList==aG.toList) (.nd ((x.styn.length+1)*65<=140737488355328) (.nd ((x.vals.length+1)*97<=140737488355328) (zG (x.uSty nm v))))
 (.br (k.toList==bP.toList) (zG (x.uAud v))
 (.br (k.toList==bB.toList) (kk [iL] (zG (x.uCell v))) (zG x)))))))
def jK (k nm:ByteArray) (v:aJ) (x:BX):BX:=
 if k=bZ then x.uScan v else if k=aX then x.uScs v else if k=af then x.uPrec v else if k=ar then x.uCont (dK nm v) else if k=aG then x.uSty nm v else if k=bP then x.uAud v else if k=bB then x.uCell v else x
theorem No (k nm:ByteArray) (v:aJ) (x:BX):(jK k nm v x).d=bb k nm v x.d:=by
 have e1:(x.uCont (dK nm v)).d={ x.d with e:={ x.d.e with cont:=x.d.e.cont++[dK nm v] } }:=congrArg (λc=>({ x.d with e:={ x.d.e with cont:=c } }:cE)) (ab8 ..);have e2:(x.uSty nm v).d={ x.d with e:={ x.d.e with styl:=x.d.e.styl++[⟨nm,[],[]⟩] },vals:=x.d.vals++[v] }:=by
  have h1:(nm::x.styn).reverse.map (λn=>(⟨n,[],[]⟩:aj))=x.d.e.styl++[⟨nm,[],[]⟩]:=by rw[ab8,ac9];rfl
  have h2:(v::x.vals).reverse=x.d.vals++[v]:=ab8 ..;rw[<-h1,<-h2];rfl
 unfold jK bb;split
 ·rfl
 split
 ·rfl
 split
 ·rfl
 split
 ·exact e1
 split
 ·exact e2
 split
 ·rfl
 split
 ·rfl
 ·rfl
theorem JY {k nm:ByteArray} {v:aJ} {x:BX} {n m:Nat} (h:x.ok n) (hm:n+1<=m):(jK k nm v x).ok m:=by
 obtain⟨h1,h2,h3,h4,h5⟩:=h;have h0:x.ok m:=⟨by omega,by omega,by omega,by omega,λk r e=>by have:=h5 k r e;omega⟩;unfold jK;split
 ·exact⟨h0.1,h0.2,h0.3,h0.4,h0.5⟩
 split
 ·exact⟨h0.1,h0.2,h0.3,h0.4,h0.5⟩
 split
 ·exact⟨h0.1,h0.2,h0.3,h0.4,h0.5⟩
 split
 ·exact⟨by show x.cont.length+1<=m;omega,h0.2,h0.3,h0.4,h0.5⟩
 split
 ·exact⟨h0.1,by show x.styn.length+1<=m;omega,by show x.vals.length+1<=m;omega,h0.4,h0.5⟩
 split
 ·exact⟨h0.1,h0.2,h0.3,h0.4,h0.5⟩
 split
 ·exact⟨h0.1,h0.2,h0.3,h0.4,h0.5⟩
 ·exact h0
theorem GJ {α β:Type} {F:α->β} {b:Bool} {X Y:T β} {P:Prop} [Decidable P] {c d:α} (hP:P↔b=true) (hX:X.hit (F c)) (hY:Y.hit (F d)):(T.br b X Y).hit (F (if P then c else d)):=by
 by_cases h:P
 ·rw[if_pos h];exact aC (hP.1 h) hX
 ·rw[if_neg h];exact aK (by cases b with|false=>rfl|true=>exact absurd (hP.2 rfl) h) hY
theorem oP (x y:ByteArray):x=y↔(x.toList==y.toList)=true:=by rw[cO,decide_eq_true_iff]
theorem Np:ew Tryz.prog 105 pBd [(0,zR),(1,.st 1),(2,.st 14)] [(0,zR)] λ((x:BX),(b:ak),(v:aJ),_)=>.nd (x.ok 999999999998) (zG (jK b.kind b.name v x)):=
 iA (C:=CV6) (nL _ _) 99 [(0,zR),(1,.st 1),(2,.st 14)] [(0,zR)] (λ((x:BX),(b:ak),(v:aJ),_)=>stB x b.kind b.name v) (λ⟨(x:BX),(b:ak),(v:aJ),_⟩ r _ ⟨⟨h1,h2,h3,h4,_⟩,h⟩=>by
  obtain rfl:GP (.tup []) (jK b.kind b.name v x)=r:=h;unfold jK;refine GJ (F:=GP (.tup [])) (oP _ _) ⟨px,px,px,rfl⟩ (GJ (F:=GP (.tup [])) (oP _ _) ⟨px,px,rfl⟩ (GJ (F:=GP (.tup [])) (oP _ _) ⟨px,rfl⟩
   (GJ (F:=GP (.tup [])) (oP _ _) ⟨px,px,px,px,px,px,px,px,by omega,rfl⟩ (GJ (F:=GP (.tup [])) (oP _ _) ⟨by omega,by omega,rfl⟩ (GJ (F:=GP (.tup [])) (oP _ _) rfl (GJ (F:=GP (.tup [])) (oP _ _) ⟨px,rfl⟩ rfl)))))))
  Tryz.func105
noncomputable def CV7:eP Tryz.prog:=bA S4 [⟨_,_,_,P5⟩,⟨_,_,_,Q8⟩] [⟨_,_,_,_,_,N3⟩,⟨_,_,_,_,_,Np⟩]
abbrev adZ:SS:=.box 91 [.d .str,.d .str,.d (.list (.st 0)),.d tI]
abbrev R0:=eB [.d .str,.d .str,.d (.list (.st 0)),.d tI]
noncomputable abbrev ann:=Tryz.f58
abbrev blL:List (Nat×SS):=[(0,zR),(3,adZ),(4,Mn),(6,sV),(42,sD (.list (.st 0))),(43,sI),(44,sI)]
abbrev blO:List (Nat×SS):=[(0,zR),(3,adZ),(4,Mn),(6,sV)]
abbrev BlE:=LE blL blO [(0,zR)]
def fz:ai:=⟨⟨#[]⟩,[],0⟩
def blT (x:BX) (b:R0) (y:ox) (v:VX) (l:List ai) (a i:Int):T BlE:=
 .br (decide (i<a)) (.nd (0<=i/\i<l.length) (.nd (v.n 999999999999/\qz (l.getD i.toNat fz)) (.br (!((eW b.1 (l.getD i.toNat fz) v).1==0)) (.lf (.ret (Bl (eW b.1 (l.getD i.toNat fz) v).1 (l.getD i.toNat fz).line) (x,())))
  (.nd (cw (i+1)) (.lf (.back (x,b,y,(eW b.1 (l.getD i.toNat fz) v).2,l,a,i+1,()))))))) (.lf (.out (x,b,y,v,())))
def gz (kind:ByteArray):List ai->VX->dG×VX
 | [],v=>(⟨0,0⟩,v)
 | f::l,v=>if(eW kind f v).1≠0 then(⟨(eW kind f v).1,f.line⟩,(eW kind f v).2) else gz kind l (eW kind f v).2
theorem Ce (kind:ByteArray):∀(l:List ai) (v:VX),dU kind l v.v=((gz kind l v).1,(gz kind l v).2.v)
 | [],v=>rfl
 | f::l,v=>by
  unfold dU gz;rw[TD];split
  ·rfl
  ·exact Ce kind l _
def blR (x:BX) (b:R0) (y:ox) (q:dG×VX):T BlE:=.br (!(q.1.no==0)) (.lf (.ret (Bl q.1.no q.1.line) (x,()))) (.lf (.out (x,b,y,q.2,())))
theorem agM:cL (EK CV7 ann pBd) 0 0 blL blO [(0,zR)] λ((x:BX),(b:R0),(y:ox),(v:VX),(l:List ai),(a:Int),(i:Int),_)=>
 .nd (0<=i/\i<=l.length/\a=l.length/\v.n i.toNat/\l.length<=274877906944/\∀f∈l,qz f) (blR x b y (gz b.1 (l.drop i.toNat) v)):=by
  refine fy _ (nL _ _) 99 0 0 blL blO [(0,zR)] (λ((x:BX),(b:R0),(y:ox),(v:VX),(l:List ai),(a:Int),(i:Int),_)=>blT x b y v l a i) (λ(_,_,_,_,(l:List ai),_,(i:Int),_)=>l.length-i.toNat) ?_;rintro⟨(x:BX),(b:R0),(y:ox),(v:VX),(l:List ai),(a:Int),(i:Int),_⟩ r _ ⟨⟨h0,h1,rfl,hv,hl,hf⟩,h⟩;obtain⟨j,rfl⟩:∃j:Nat,i=j:=⟨i.toNat,by omega⟩;rw[aae] at h hv;by_cases hi:j<l.length
  ·rw[getD_drop fz hi] at h;replace h:(blR x b y (if(eW b.1 (l.getD j fz) v).1≠0 then(⟨(eW b.1 (l.getD j fz) v).1,(l.getD j fz).line⟩,(eW b.1 (l.getD j fz) v).2) else gz b.1 (l.drop (j+1)) (eW b.1 (l.getD j fz) v).2)).hit r:=h;have hx:qz (l.getD j fz):=by
    rw[aal,aac hi];exact hf _ (ach _)
   have hn:(0:Int)<=j/\(j:Int)<l.length:=⟨by omega,by omega⟩;have Ld:v.n 999999999999:=⟨by have:=hv.1;omega,by have:=hv.2.1;omega,by have:=hv.2.2;omega⟩;have hb:∀q,(T.br (!((eW b.1 (l.getD j fz) v).1==0)) (.lf (.ret (Bl (eW b.1 (l.getD j fz) v).1 (l.getD j fz).line) (x,()))) (.nd (cw ((j:Int)+1)) (.lf (.back (x,b,y,(eW b.1 (l.getD j fz) v).2,l,(l.length:Int),(j:Int)+1,())))):T BlE).hit q->(blT x b y v l l.length j).hit q:=λq hq=>
    aC (decide_eq_true hn.2) ⟨hn,by rw[aae];exact⟨⟨Ld,hx⟩,hq⟩⟩
   by_cases h3:(eW b.1 (l.getD j fz) v).1=0
   ·rw[if_neg (by simpa using h3)] at h;refine⟨_,hb _ (aK (by rw[h3];rfl) ⟨⟨by omega,by omega⟩,rfl⟩),by show l.length-((j:Int)+1).toNat<l.length-j;omega,⟨by omega,by omega,rfl,?_,hl,hf⟩,h⟩;exact TE hv
   ·rw[if_pos h3] at h;rw[<-(hB h).elim (λq=>q.2) (λq=>absurd q.1 (by rw[beq_false_of_ne h3];decide))];exact⟨_,hb _ (aC (by rw[beq_false_of_ne h3];rfl) rfl),rfl⟩
  ·rw[aaQ (by omega)] at h;exact⟨_,aK (decide_eq_false (by omega)) rfl,h.2 rfl⟩
def VX.zero:VX:=((0,λ_=>none),(0,λ_=>none),(0,λ_=>none),false,[],[],⟨#[]⟩,())
def BX.nam (x:BX) (k m:ByteArray):BX:=(x.1,x.2.1,x.2.2.1,x.2.2.2.1,x.2.2.2.2.1,x.2.2.2.2.2.1,x.2.2.2.2.2.2.1,x.2.2.2.2.2.2.2.1,x.2.2.2.2.2.2.2.2.1,x.2.2.2.2.2.2.2.2.2.1,x.2.2.2.2.2.2.2.2.2.2.1,x.2.2.2.2.2.2.2.2.2.2.2.1,x.2.2.2.2.2.2.2.2.2.2.2.2.1,x.2.2.2.2.2.2.2.2.2.2.2.2.2.1,(x.names.1+1,lC .s x.names.2 k (m::(x.names.2 k).getD [])),x.2.2.2.2.2.2.2.2.2.2.2.2.2.2.2)
def ans (b:ak) (x:BX) (v:VX):T (XV×BX×Unit):=.br (!((ek b.kind b.line v.v).no==0)) (.lf (GP (aE (ek b.kind b.line v.v)) x)) (.nd (x.ok 999999999998) (.lf (GP (Bl 0 0) (jK b.kind b.name v.v x))))
def anv (b:ak) (x:BX) (q:dG×VX):T (XV×BX×Unit):=.nd ((0:Int)<=0/\(0:Int)<=b.fields.length/\(b.fields.length:Int)=b.fields.length/\VX.zero.n 0/\b.fields.length<=274877906944/\∀f∈b.fields,qz f) (.br (!(q.1.no==0)) (.lf (GP (aE q.1) x)) (ans b x q.2))
def anz (b:ak) (x:BX):T (XV×BX×Unit):=.nd (cU b.kind/\cU b.name) (.br (!(fg b.kind b.name (x.d.of b.kind)==0)) (.lf (GP (Bl (fg b.kind b.name (x.d.of b.kind)) b.line) x))
 (.nd (Kt.ok .s b.kind) (.nd ((((x.names.2 b.kind).getD []).length+1)*17<=140737488355328) (.nd (Kt.ok .s b.kind/\b.kind=b.kind/\x.names.1<1000000000000) (anv b (x.nam b.kind b.name) (gz b.kind b.fields VX.zero))))))
def fq (b:ak) (x:BX):dG×BX:=
 if fg b.kind b.name (x.d.of b.kind)≠0 then(⟨fg b.kind b.name (x.d.of b.kind),b.line⟩,x)
 else if(gz b.kind b.fields VX.zero).1.no≠0 then((gz b.kind b.fields VX.zero).1,x.nam b.kind b.name)
 else if(ek b.kind b.line (gz b.kind b.fields VX.zero).2.v).no≠0 then(ek b.kind b.line (gz b.kind b.fields VX.zero).2.v,x.nam b.kind b.name)
 else(⟨0,0⟩,jK b.kind b.name (gz b.kind b.fields VX.zero).2.v (x.nam b.kind b.name))
theorem BX.d_nam (x:BX) (k m:ByteArray):(x.nam k m).d=x.d.named k m:=by
 have h:(λt=>(lC .s x.names.2 k (m::(x.names.2 k).getD []) t).map List.reverse)=setF x.d.names k (x.d.of k++[m]):=by
  refine(congrArg (λg:ByteArray->Option (List ByteArray)=>λt=>(g t).map List.reverse) (Ky x.names.2 k (m::(x.names.2 k).getD []))).trans ?_;funext t
  unfold setF;by_cases e:t=k
  ·subst e;rw[if_pos rfl,if_pos rfl];show some (m::(x.names.2 t).getD []).reverse=_;rw[ab8];congr 2
   show _=((x.names.2 t).map List.reverse).getD [];cases x.names.2 t<;>rfl
  ·rw[if_neg e,if_neg e];rfl
 exact congrArg (λf=>({ x.d with names:=f }:cE)) h
theorem BX.ok_nam {x:BX} {n:Nat} (k m:ByteArray) (h:x.ok n):(x.nam k m).ok (n+1):=by
 obtain⟨h1,h2,h3,h4,h5⟩:=h;refine⟨Nat.le_succ_of_le h1,Nat.le_succ_of_le h2,Nat.le_succ_of_le h3,Nat.succ_le_succ h4,λt r e=>?_⟩;have e:setF x.names.2 k (m::(x.names.2 k).getD []) t=some r:=(congrFun (Ky x.names.2 k (m::(x.names.2 k).getD [])) t).symm.trans e;unfold setF at e;by_cases q:t=k
 ·subst q;rw[if_pos rfl] at e;obtain rfl:=aaj e;cases hz:x.names.2 t with
  | none=>simp
  | some z=>have:=h5 t z hz;simpa using this
 ·rw[if_neg q] at e;exact Nat.le_succ_of_le (h5 t r e)
theorem Rn (b:ak) (x:BX):fN b x.d=((fq b x).1,(fq b x).2.d):=by
 have hz:dU b.kind b.fields aJ.zero=_:=Ce b.kind b.fields VX.zero;unfold fN fq;rw[hz];split
 ·rfl
 split
 ·rw[BX.d_nam]
 split
 ·rw[BX.d_nam]
 ·rw[No,BX.d_nam]
theorem L4 {b:ak} {x:BX} {n:Nat} (h:x.ok n):(fq b x).2.ok (n+2):=by
 have h1:=BX.ok_nam b.kind b.name h;have up:∀{y:BX} {m:Nat},y.ok m->m<=n+2->y.ok (n+2):=λh hm=>⟨aax h.1 hm,aax h.2 hm,aax h.3 hm,aax h.4 hm,λk r e=>aax (h.5 k r e) hm⟩;unfold fq;split
 ·exact up h (by omega)
 split
 ·exact up h1 (by omega)
 split
 ·exact up h1 (by omega)
 ·exact JY h1 (aaG _)
theorem We:ew Tryz.prog 58 pBd [(0,zR),(1,.st 1)] [(0,zR)] λ((x:BX),(b:ak),_)=>.nd (gN b/\x.ok 999999999997) (.lf (GP (aE (fq b x).1) (fq b x).2)):=
 iA (C:=CV7) ((nL _ _).add 0 _ agM) 99 [(0,zR),(1,.st 1)] [(0,zR)] (λ((x:BX),(b:ak),_)=>anz b x) (λ⟨(x:BX),(b:ak),_⟩ r _ ⟨⟨⟨s1,s2,s3,s4⟩,hx⟩,h⟩=>by
  obtain rfl:GP (aE (fq b x).1) (fq b x).2=r:=h;refine⟨⟨s1,s2⟩,?_⟩;unfold fq;by_cases h1:fg b.kind b.name (x.d.of b.kind)=0
  ·rw[if_neg (by simpa using h1)];refine aK (by rw[h1];rfl) ⟨s1.kt,?_,⟨s1.kt,rfl,by have:=hx.m;omega⟩,⟨by omega,by omega,rfl,⟨aaG _,aaG _,aaG _⟩,s3,λf hf=>⟨(s4 f hf).1.1,(s4 f hf).1.2.2,(s4 f hf).1.2.1⟩⟩,?_⟩
   ·cases hz:x.names.2 b.kind with
    | none=>decide
    | some z=>have:=hx.r _ z hz;show(z.length+1)*17<=_;omega
   by_cases h2:(gz b.kind b.fields VX.zero).1.no=0
   ·rw[if_neg (by simpa using h2)];refine aK (by rw[h2];rfl) ?_;by_cases h3:(ek b.kind b.line (gz b.kind b.fields VX.zero).2.v).no=0
    ·rw[if_neg (by simpa using h3)];exact aK (by rw[h3];rfl) ⟨BX.ok_nam _ _ hx,rfl⟩
    ·rw[if_pos h3];exact aC (by rw[beq_false_of_ne h3];rfl) rfl
   ·rw[if_pos h2];exact aC (by rw[beq_false_of_ne h2];rfl) rfl
  ·rw[if_pos h1];exact aC (by rw[beq_false_of_ne h1];rfl) rfl) Tryz.func58
theorem KQ {w:World} {S:Nat->Prop} {v:Value} {x:ae} (h:SV w S v x) (p:Nat) (nm:ByteArray) (hp:w.cell? ⟨p,0,none⟩=some (.string nm)) : Calls Tryz.prog 108 #[v,.pointer (some ⟨p,0,none⟩)] w (kB w (.bool (decide (x.name=nm)))):=by
 obtain⟨cs,rfl,A,n,c,rfl,_⟩:=h;have ci:Below w.heap.size w (w.alloc (.cells #[.string x.name,.slice A n c,.int .i64 x.method,.int .i64 x.seats,.int .i64 x.ranks,.int .i64 x.digits,.int .i64 x.ties,.int .i64 x.over,.int .i64 x.skip] 87)):=(Below.refl _ _).alloc (aaG _) _;have nR:df (w.alloc (.cells #[.string x.name,.slice A n c,.int .i64 x.method,.int .i64 x.seats,.int .i64 x.ranks,.int .i64 x.digits,.int .i64 x.ties,.int .i64 x.over,.int .i64 x.skip] 87)) w.heap.size 87 #[.string x.name,.slice A n c,.int .i64 x.method,.int .i64 x.seats,.int .i64 x.ranks,.int .i64 x.digits,.int .i64 x.ties,.int .i64 x.over,.int .i64 x.skip]:=df.new _ _ _;obtain⟨w1,fE⟩:∃q,w.alloc (.cells #[.string x.name,.slice A n c,.int .i64 x.method,.int .i64 x.seats,.int .i64 x.ranks,.int .i64 x.digits,.int .i64 x.ties,.int .i64 x.over,.int .i64 x.skip] 87)=q:=⟨_,rfl⟩;rw[fE] at ci nR;have c0:w1.cell? ⟨w.heap.size,0,none⟩=some (.string x.name):=nR.cell 0;have cp:w1.cell? ⟨p,0,none⟩=some (.string nm):=(ci.cell (World.block_lt_of_cell? w _ hp)).trans hp;have nz:=zH fE;have fe:=zH ci;clear fE ci nR hp;go_enter Tryz.func108,Tryz.ntmps108;by_cases hn:x.name=nm
 ·have heq:(x.name.toList==nm.toList)=true:=by rw[hn];simp
  rw[decide_eq_true hn];clear hn;go_upto_region 1 with(fail);rw[nz.out];go_wp2_with fail;go_ret
  exact⟨rfl,fe.out⟩
 ·have heq:(x.name.toList==nm.toList)=false:=(Lib.bytes_beq_false_iff _ _).2 hn;rw[decide_eq_false hn];clear hn;go_upto_region 1 with(fail);rw[nz.out];go_wp2_with fail;go_ret
  exact⟨rfl,fe.out⟩
theorem UU {w:World} {S:Nat->Prop} {A:Option Addr} {n c:Nat} {xs:List ae} (h:RS w S A n c xs) (hS:∀b,S b->b<w.heap.size) (p:Nat) (nm:ByteArray) (hp:w.cell? ⟨p,0,none⟩=some (.string nm)) : Calls Tryz.prog 107 #[.slice A n c,.func (.func 108) #[] #[.pointer (some ⟨p,0,none⟩)]] w (kB w (.int .i64 (bh nm xs 0))):=by
 obtain⟨z,hz⟩:∃z,bh nm xs 0=z:=⟨_,rfl⟩;rw[hz];have gD:=hz.symm;have I1:=h.max;have H1:=zH h;have HZ:=zH gD;have EP:=zH h.len;have HP:=zH hp;clear h hz gD hp;go_enter Tryz.func107,Tryz.ntmps107;go_wp2_with fail;go_loopw [8] (λiv wr=>∃k:Nat,iv=.int .i64 k/\k<=n/\z=bh nm (xs.drop k) k/\Below w.heap.size w wr) (λiv _=>n-(intOf iv).toNat)
 case atStart=>exact⟨0,rfl,abz _,by simpa using HZ.out,Below.refl _ _⟩
 case round=>
  clear HZ;obtain⟨k,rfl,hk,Xh,hb⟩:=hrel;have X7:=zH Xh;have HB:=zH hb;have HR:=zH (H1.out.below hb hS);clear Xh hb;by_cases hlt:k<n
  ·have lI:(k:Int)<(n:Int):=by omega
   obtain⟨b,o,x,cs,rfl,Bz,hx,hr,Xr⟩:=HR.out.load_at (λb h=>abx (hS b h) HB.out.size) hlt;have Sr:(k:Int)<=(c:Int):=by have:=HR.out.cap;omega
   have gC:z=if x.name=nm then(k:Int) else bh nm (xs.drop (k+1)) (k+1):=by rw[X7.out,jO hx];rfl
   have mD:=zH gC;obtain⟨A3,n3,c3,rfl,x1⟩:=hr;have iI:=Xr wr (Below.refl _ _);have r0:wr.cell? ⟨b,o+k*9,none⟩=some (.string x.name):=iI.1 _ rfl;have r1:wr.cell? ⟨b,o+k*9+1,none⟩=some (.slice A3 n3 c3):=iI.2 1 _ rfl;have r2:wr.cell? ⟨b,o+k*9+2,none⟩=some (.int .i64 x.method):=iI.2 2 _ rfl;have r3:wr.cell? ⟨b,o+k*9+3,none⟩=some (.int .i64 x.seats):=iI.2 3 _ rfl;have r4:wr.cell? ⟨b,o+k*9+4,none⟩=some (.int .i64 x.ranks):=iI.2 4 _ rfl;have r5:wr.cell? ⟨b,o+k*9+5,none⟩=some (.int .i64 x.digits):=iI.2 5 _ rfl;have r6:wr.cell? ⟨b,o+k*9+6,none⟩=some (.int .i64 x.ties):=iI.2 6 _ rfl;have r7:wr.cell? ⟨b,o+k*9+7,none⟩=some (.int .i64 x.over):=iI.2 7 _ rfl;have r8:wr.cell? ⟨b,o+k*9+8,none⟩=some (.int .i64 x.skip):=iI.2 8 _ rfl;have hpr:wr.cell? ⟨p,0,none⟩=some (.string nm):=(HB.out.cell (World.block_lt_of_cell? w _ HP.out)).trans HP.out;have HC:=zH (KQ (w:=wr) (S:=S) (x:=x) ⟨_,rfl,A3,n3,c3,rfl,x1⟩ p nm hpr);clear iI Xr hx gC x1 hpr;go_wp2_with fail;refine HC.out.mono ?_;rintro e w3 ⟨rfl,kx⟩;have lX:=zH (au HB.out kx);clear kx;by_cases hn:x.name=nm
   ·rw[decide_eq_true hn];have bw:z=(k:Int):=by rw[mD.out,if_pos hn]
    have fa:=zH bw;clear bw hn;go_wp2_with fail;go_ret
    exact⟨by rw[fa.out];rfl,lX.out⟩
   ·rw[decide_eq_false hn];have bw:z=bh nm (xs.drop (k+1)) (k+1):=by rw[mD.out,if_neg hn]
    have fa:=zH bw;clear bw hn;go_wp2_with fail;go_roundw
    case rel=>exact⟨k+1,by go_num,by omega,fa.out,lX.out⟩
    case measure=>simp[intOf];omega
  ·have pz:k=n:=by omega
   have bw:z= -1:=by
    rw[X7.out,aaQ (by rw[EP.out];omega)];rfl
   have fa:=zH bw;clear bw pz;go_wp2_with fail;go_ret
   exact⟨by rw[fa.out];rfl,HB.out⟩
abbrev afb:FuncId:=108
theorem Ps:ao Tryz.prog 107 false (az [(0,sD (.list (.st 3))),(1,.cl afb .str)] λ((l:List ae),(s:ByteArray),_)=>.lf (aI (bh s l 0))):=
 gQ λw S x vs r hS he hl hr=>by
  obtain⟨(l:List ae),(s:ByteArray),_⟩:=x;obtain⟨v,h1,A,q,c,h2,h3,_⟩:=he 0 (.one (.list (.st 3) l false)) aaz;obtain⟨v',jh,b,cs,hb,EI,Lv,h4'⟩:=he 1 (.one (.cl afb .str s)) (aa0 _ aaz);obtain rfl:=hr
  match vs,hl,h1,jh with
  | [u,u'],_,h1,jh=>
   injection h1 with h1
   injection jh with jh
   subst h1 jh h2 EI;obtain rfl:cs=[.string s]:=Lv;exact Calls.mono (UU h3 hS b s (h4' 0 _ rfl)) λ_ _ h=>Eb rfl h
theorem Qg:ao Tryz.prog 109 false (az [(0,sD (.list .bool)),(1,sB)] λ((l:List Bool),(b:Bool),_)=>.lf (aB (l.contains b))):=
 gQ λw S x vs r hS he hl hr=>by
  obtain⟨(l:List Bool),(s:Bool),_⟩:=x;obtain⟨v,h1,A,q,c,h2,h3,_⟩:=he 0 (.one (.list .bool l false)) aaz;obtain⟨v',jh,EI,_⟩:=he 1 (aB s) (aa0 _ aaz);obtain rfl:=hr
  match vs,hl,h1,jh with
  | [u,u'],_,h1,jh=>
   injection h1 with h1
   injection jh with jh
   subst h1 jh h2 EI;exact Calls.mono (Vn h3 s) λ_ _ h=>Eb rfl ⟨h.1,h.2▸Below.refl _ _⟩
noncomputable def CV8:eP Tryz.prog:=bA S4 [⟨_,_,_,IY⟩,⟨_,_,_,Ps⟩,⟨_,_,_,Qg⟩] []
noncomputable abbrev aeR:=Tryz.f60
abbrev csZ:List CS:=[.d .str,.d tI,.d tI,.d tI,.d (.list .str),.own (.st 3) 87,.zc (.st 4) (.st 10) 42,.d tI,.d tI,.d .bool,.d (.list .limb),.d (.list .limb),.d tI,.d .str,.mr .s .str 9,.d (.list (.st 14))]
abbrev csO:List CS:=[.d .str,.d tI,.d tI,.d tI,.d (.list .str),.own (.st 3) 87,.zip (.st 4) (.st 10) 42 [.d .str,.own tI 3,.own tI 3],.d tI,.d tI,.d .bool,.d (.list .limb),.d (.list .limb),.d tI,.d .str,.mr .s .str 9,.d (.list (.st 14))]
abbrev Ez:SS:=.box 110 csZ
abbrev sBo:SS:=.box 110 csO
abbrev csD:List CS:=[.d (.mp .s tI),.d (.mp .s (.list .str)),.d (.mp .s tI),.d .bool,.d (.list .limb),.d (.list .limb),.d .str]
abbrev sVd:SS:=.box 180 csD
abbrev sUs:SS:=.c (.own .bool 4)
noncomputable abbrev Uu:Rg Tryz.prog aeR.ntmps:=o8 (fRg CV8 aeR [0] [(2,[23])]) [(5,XC 0 6),(11,m5 0 6),(13,m5 0 6),(22,m5 0 6),(25,m5 0 6)] [(2,Qk 0 6 (.st 4) (.st 10))]
abbrev BZ:=eB csZ
abbrev BO:=eB csO
abbrev SJ:=eB csD
abbrev ZIn:=Nat×List aj×(ByteArray×List Int×List Int×Unit)×List ByteArray
namespace BO
abbrev prec (x:BO):List ByteArray:=x.2.2.2.2.1
abbrev cont (x:BO):List ae:=x.2.2.2.2.2.1
abbrev z (x:BO):ZIn:=x.2.2.2.2.2.2.1
abbrev ps (x:BO):List Int:=x.z.2.2.1.2.1
abbrev cs (x:BO):List Int:=x.z.2.2.1.2.2.1
def withP (x:BO) (ps cs:List Int):BO:=(x.1,x.2.1,x.2.2.1,x.2.2.2.1,x.2.2.2.2.1,x.2.2.2.2.2.1,(x.z.1,x.z.2.1,(x.z.2.2.1.1,ps,cs,()),x.z.2.2.2),x.2.2.2.2.2.2.2)
def cl (x:BO):BZ:=(x.1,x.2.1,x.2.2.1,x.2.2.2.1,x.2.2.2.2.1,x.2.2.2.2.2.1,(x.z.1,x.z.2.1++[⟨x.z.2.2.1.1,x.ps.reverse,x.cs.reverse⟩],x.z.2.2.2),x.2.2.2.2.2.2.2)
end BO
abbrev SJ.ln (v:SJ) (k:ByteArray):Int:=(v.2.2.1 k).getD (0:Int)
abbrev k1L:List (Nat×SS):=[(0,sBo),(2,Mn),(3,sUs),(4,sI),(5,sVd),(6,.sb 2 3),(23,sD (.list (.st 14))),(24,sI),(25,sI),(39,sL),(40,sI),(41,sI)]
abbrev k2L:List (Nat×SS):=[(0,sBo),(2,Mn),(3,sUs),(4,sI),(5,sVd),(6,.sb 2 3),(23,sD (.list (.st 14))),(24,sI),(25,sI),(84,sL),(85,sI),(86,sI)]
abbrev Ph:List (Nat×SS):=[(0,sBo),(2,Mn),(3,sUs),(4,sI),(5,sVd),(6,.sb 2 3),(23,sD (.list (.st 14))),(24,sI),(25,sI)]
section
variable {L:Type} (back:BO->List Bool->L) (out:BO->List Bool->L) (ret:dG->BZ->L) (v:SJ)
def lnE (k:ByteArray) (x:BO) (no:Int):T L:=.nd (Kt.ok .s k) (.lf (ret ⟨no,v.ln k⟩ x.cl))
def k1T (x:BO) (us:List Bool) (l:List ByteArray) (a j:Int):T L:=.br (decide (j<a)) (.nd (0<=j/\j<l.length) (.br (decide (Lib.idxOfS x.prec (l.getD j.toNat ⟨#[]⟩)<0)) (lnE ret v af x 2)
 (.nd (0<=Lib.idxOfS x.prec (l.getD j.toNat ⟨#[]⟩)/\Lib.idxOfS x.prec (l.getD j.toNat ⟨#[]⟩)<us.length) (.br (us.reverse.getD (Lib.idxOfS x.prec (l.getD j.toNat ⟨#[]⟩)).toNat false) (lnE ret v af x 3)
 (.nd (0<=Lib.idxOfS x.prec (l.getD j.toNat ⟨#[]⟩)/\Lib.idxOfS x.prec (l.getD j.toNat ⟨#[]⟩)<us.length) (.nd ((x.ps.length+1)*9<=140737488355328) (.nd (cw (j+1)) (.lf (back (x.withP (Lib.idxOfS x.prec (l.getD j.toNat ⟨#[]⟩)::x.ps) x.cs) (us.reverse.set (Lib.idxOfS x.prec (l.getD j.toNat ⟨#[]⟩)).toNat true).reverse))))))))) (.lf (out x us))
def k2T (x:BO) (us:List Bool) (l:List ByteArray) (a j:Int):T L:=.br (decide (j<a)) (.nd (0<=j/\j<l.length) (.br (decide (bh (l.getD j.toNat ⟨#[]⟩) x.cont.reverse 0<0)) (lnE ret v ay x 2)
 (.nd ((x.cs.length+1)*9<=140737488355328) (.nd (cw (j+1)) (.lf (back (x.withP x.ps (bh (l.getD j.toNat ⟨#[]⟩) x.cont.reverse 0::x.cs)) us)))))) (.lf (out x us))
def lnF (x:BO) (u:List Bool) (ps cs:List Int) (e:dG):T L:=.br (e.no==0) (.lf (out (x.withP ps.reverse cs.reverse) u.reverse)) (.lf (ret e (x.withP ps.reverse cs.reverse).cl))
end
def pY (prec:List ByteArray) (line:Int):List ByteArray->List Bool->List Int->(List Bool×List Int)×dG
 | [],u,a=>((u,a),⟨0,0⟩)
 | s::l,u,a=>if Lib.idxOfS prec s<0 then((u,a),⟨2,line⟩) else if u.getD (Lib.idxOfS prec s).toNat false=true then((u,a),⟨3,line⟩) else pY prec line l (u.set (Lib.idxOfS prec s).toNat true) (a++[Lib.idxOfS prec s])
def AA (cont:List ae) (line:Int):List ByteArray->List Int->List Int×dG
 | [],a=>(a,⟨0,0⟩)
 | s::l,a=>if bh s cont 0<0 then(a,⟨2,line⟩) else AA cont line l (a++[bh s cont 0])
abbrev eF (e:dG):XV:=.agg [.val (.int .i64 e.no),.sym (.int .i64 e.line)]
section
variable (y:ox) (c:Int) (v:SJ) (vs:List aJ) (n i:Int) (l:List ByteArray) (a j:Int)
def ZT (x:BO) (us:List Bool):LE k1L Ph [(0,Ez)]:=.back (x,y,us,c,v,(),vs,n,i,l,a,j+1,())
def IT (x:BO) (us:List Bool):LE k1L Ph [(0,Ez)]:=.out (x,y,us,c,v,(),vs,n,i,())
def yB (e:dG) (x:BZ):LE k1L Ph [(0,Ez)]:=.ret (eF e) (x,())
def ZQ (x:BO) (us:List Bool):LE k2L Ph [(0,Ez)]:=.back (x,y,us,c,v,(),vs,n,i,l,a,j+1,())
def Pg (x:BO) (us:List Bool):LE k2L Ph [(0,Ez)]:=.out (x,y,us,c,v,(),vs,n,i,())
def Pf (e:dG) (x:BZ):LE k2L Ph [(0,Ez)]:=.ret (eF e) (x,())
end
def lnP (x:BO) (us:List Bool) (r:List Int) (l:List ByteArray) (a j:Int):Prop:=0<=j/\j<=l.length/\a=l.length/\us.length=x.prec.length/\(r.length:Int)=j/\l.length<=1099511627776
theorem UT (l:List ByteArray) (s:ByteArray):Lib.idxOfS l s<0\/(0<=Lib.idxOfS l s/\Lib.idxOfS l s<l.length):=by
 have:=iy s l 0;have h2:∀(l:List ByteArray) (i:Nat),Lib.idxFromS l s i<0\/Lib.idxFromS l s i<i+l.length:=by
  intro l;induction l with
  | nil=>intro i;exact .inl (by show(-1:Int)<0;omega)
  | cons x l ih=>
   intro i;unfold Lib.idxFromS;rw[aaJ];split
   ·exact .inr (by omega)
   ·rcases ih (i+1) with h|h
    ·exact .inl h
    ·exact .inr (by omega)
 have h3:=h2 l 0;unfold Lib.idxOfS;omega
theorem Ur:cL Uu 1 2 k1L Ph [(0,Ez)] λ((x:BO),(y:ox),(us:List Bool),(c:Int),(v:SJ),_,(vs:List aJ),(n:Int),(i:Int),(l:List ByteArray),(a:Int),(j:Int),_)=>
 .nd (lnP x us x.ps l a j) (lnF (IT y c v vs n i) yB x (pY x.prec (v.ln af) (l.drop j.toNat) us.reverse x.ps.reverse).1.1 (pY x.prec (v.ln af) (l.drop j.toNat) us.reverse x.ps.reverse).1.2 x.cs.reverse (pY x.prec (v.ln af) (l.drop j.toNat) us.reverse x.ps.reverse).2):=by
  refine fy _ (nL _ _) 99 1 2 k1L Ph [(0,Ez)] (λ((x:BO),(y:ox),(us:List Bool),(c:Int),(v:SJ),_,(vs:List aJ),(n:Int),(i:Int),(l:List ByteArray),(a:Int),(j:Int),_)=>k1T (ZT y c v vs n i l a j) (IT y c v vs n i) yB v x us l a j)
   (λ(_,_,_,_,_,_,_,_,_,(l:List ByteArray),_,(j:Int),_)=>l.length-j.toNat) ?_
  rintro⟨(x:BO),(y:ox),(us:List Bool),(c:Int),(v:SJ),⟨⟩,(vs:List aJ),(n:Int),(i:Int),(l:List ByteArray),(a:Int),(j:Int),_⟩ r _ ⟨⟨h0,h1,rfl,h5,h6,h7⟩,hr⟩;have hr:(lnF (IT y c v vs n i) yB x _ _ _ _).hit r:=hr;obtain⟨k,rfl⟩:∃k:Nat,j=k:=⟨j.toNat,by omega⟩;rw[aae] at hr;have Pv:x.withP x.ps.reverse.reverse x.cs.reverse.reverse=x:=by rw[aat,aat];rfl
  show∃q,(k1T _ _ _ v x us l l.length k).hit q/\_;unfold k1T;by_cases hk:k<l.length
  ·rw[getD_drop (⟨#[]⟩:ByteArray) hk,pY] at hr;rw[aae];have hE:∀no:Int,no≠0->(lnF (IT y c v vs n i) yB x us.reverse x.ps.reverse x.cs.reverse ⟨no,v.ln af⟩).hit r->(lnE (L:=LE k1L Ph [(0,Ez)]) yB v af x no).hit r/\yB ⟨no,v.ln af⟩ x.cl=r:=λno hn h=>by
    have h:=h.2 (beq_false_of_ne hn);rw[Pv] at h;exact⟨⟨px,h⟩,h⟩
   have hn:(0:Int)<=k/\(k:Int)<l.length:=⟨by omega,by omega⟩;split at hr
   ·rename_i hlt;obtain⟨q1,rfl⟩:=hE 2 (by decide) hr;exact⟨_,aC (decide_eq_true hn.2) ⟨hn,aC (decide_eq_true hlt) q1⟩,rfl⟩
   ·rename_i hge;have hx:=(UT x.prec (l.getD k ⟨#[]⟩)).resolve_left hge;split at hr
    ·rename_i hu;obtain⟨q1,rfl⟩:=hE 3 (by decide) hr;exact⟨_,aC (decide_eq_true hn.2) ⟨hn,aK (decide_eq_false hge) ⟨⟨hx.1,by omega⟩,aC hu q1⟩⟩,rfl⟩
    ·rename_i hu;refine⟨_,aC (decide_eq_true hn.2) ⟨hn,aK (decide_eq_false hge) ⟨⟨hx.1,by omega⟩,aK (by simpa using hu) ⟨⟨hx.1,by omega⟩,by omega,⟨by omega,by omega⟩,rfl⟩⟩⟩,?_,?_⟩
     ·show l.length-(k+1)<l.length-k;omega
     ·refine⟨⟨by omega,by omega,rfl,?_,?_,h7⟩,?_⟩
      ·rw[aaP,ab1,aaP];exact h5
      ·show((x.ps.length+1:Nat):Int)=(k:Int)+1;omega
      ·show(lnF _ _ _ _ _ _ _).hit r;rw[aat];have e:(Lib.idxOfS x.prec (l.getD k ⟨#[]⟩)::x.ps).reverse=x.ps.reverse++[Lib.idxOfS x.prec (l.getD k ⟨#[]⟩)]:=by simp
       rw[<-e] at hr;exact hr
  ·rw[aaQ (by omega),pY] at hr;have h:=hr.1 rfl;rw[Pv,aat] at h;obtain rfl:=h;exact⟨_,aK (decide_eq_false (by omega)) rfl,rfl⟩
theorem Uq:cL Uu 2 5 k2L Ph [(0,Ez)] λ((x:BO),(y:ox),(us:List Bool),(c:Int),(v:SJ),_,(vs:List aJ),(n:Int),(i:Int),(l:List ByteArray),(a:Int),(j:Int),_)=>
 .nd (lnP x us x.cs l a j) (lnF (Pg y c v vs n i) Pf x us.reverse x.ps.reverse (AA x.cont.reverse (v.ln ay) (l.drop j.toNat) x.cs.reverse).1 (AA x.cont.reverse (v.ln ay) (l.drop j.toNat) x.cs.reverse).2):=by
  refine fy _ (nL _ _) 99 2 5 k2L Ph [(0,Ez)] (λ((x:BO),(y:ox),(us:List Bool),(c:Int),(v:SJ),_,(vs:List aJ),(n:Int),(i:Int),(l:List ByteArray),(a:Int),(j:Int),_)=>k2T (ZQ y c v vs n i l a j) (Pg y c v vs n i) Pf v x us l a j)
   (λ(_,_,_,_,_,_,_,_,_,(l:List ByteArray),_,(j:Int),_)=>l.length-j.toNat) ?_
  rintro⟨(x:BO),(y:ox),(us:List Bool),(c:Int),(v:SJ),⟨⟩,(vs:List aJ),(n:Int),(i:Int),(l:List ByteArray),(a:Int),(j:Int),_⟩ r _ ⟨⟨h0,h1,rfl,h5,h6,h7⟩,hr⟩;have hr:(lnF (Pg y c v vs n i) Pf x _ _ _ _).hit r:=hr;obtain⟨k,rfl⟩:∃k:Nat,j=k:=⟨j.toNat,by omega⟩;rw[aae] at hr;have Pv:x.withP x.ps.reverse.reverse x.cs.reverse.reverse=x:=by rw[aat,aat];rfl
  show∃q,(k2T _ _ _ v x us l l.length k).hit q/\_;unfold k2T;by_cases hk:k<l.length
  ·rw[getD_drop (⟨#[]⟩:ByteArray) hk,AA] at hr;rw[aae];have hn:(0:Int)<=k/\(k:Int)<l.length:=⟨by omega,by omega⟩;split at hr
   ·rename_i hlt;have h:=hr.2 rfl;rw[Pv] at h;obtain rfl:=h;exact⟨_,aC (decide_eq_true hn.2) ⟨hn,aC (decide_eq_true hlt) ⟨px,rfl⟩⟩,rfl⟩
   ·rename_i hge;refine⟨_,aC (decide_eq_true hn.2) ⟨hn,aK (decide_eq_false hge) ⟨by omega,⟨by omega,by omega⟩,rfl⟩⟩,?_,?_⟩
    ·show l.length-(k+1)<l.length-k;omega
    ·refine⟨⟨by omega,by omega,rfl,h5,?_,h7⟩,?_⟩
     ·show((x.cs.length+1:Nat):Int)=(k:Int)+1;omega
     ·have e:(bh (l.getD k ⟨#[]⟩) x.cont.reverse 0::x.cs).reverse=x.cs.reverse++[bh (l.getD k ⟨#[]⟩) x.cont.reverse 0]:=by simp
      rw[<-e] at hr;exact hr
  ·rw[aaQ (by omega),AA] at hr;have h:=hr.1 rfl;rw[Pv,aat] at h;obtain rfl:=h;exact⟨_,aK (decide_eq_false (by omega)) rfl,rfl⟩
abbrev k0L:List (Nat×SS):=[(0,Ez),(2,Mn),(3,sUs),(23,sD (.list (.st 14))),(24,sI),(25,sI)]
abbrev k0O:List (Nat×SS):=[(0,Ez),(2,Mn),(3,sUs)]
abbrev K0:=LE k0L k0O [(0,Ez)]
abbrev ZcB:=Nat×List aj×List ByteArray
namespace BZ
abbrev prec (x:BZ):List ByteArray:=x.2.2.2.2.1
abbrev cont (x:BZ):List ae:=x.2.2.2.2.2.1
abbrev z (x:BZ):ZcB:=x.2.2.2.2.2.2.1
def withZ (x:BZ) (d:List aj) (r:List ByteArray):BZ:=(x.1,x.2.1,x.2.2.1,x.2.2.2.1,x.2.2.2.2.1,x.2.2.2.2.2.1,(x.z.1,d,r),x.2.2.2.2.2.2.2)
def op (x:BZ):BO:=(x.1,x.2.1,x.2.2.1,x.2.2.2.1,x.2.2.2.2.1,x.2.2.2.2.2.1,(x.z.1,x.z.2.1,(x.z.2.2.getD 0 ⟨#[]⟩,[],[],()),x.z.2.2.drop 1),x.2.2.2.2.2.2.2)
end BZ
section
variable (y:ox) (vs:List aJ) (n i:Int)
def Uv {L:Type} (out:BO->List Bool->T L) (ret:dG->BZ->L) (x:BO) (u:List Bool) (ps cs:List Int) (e:dG):T L:=.br (e.no==0) (out (x.withP ps.reverse cs.reverse) u.reverse) (.lf (ret e (x.withP ps.reverse cs.reverse).cl))
def yC (e:dG) (x:BZ):K0:=.ret (eF e) (x,())
def k0E (x:BO) (us:List Bool):T K0:=.nd (cw (i+1)) (.lf (.back (x.cl,y,us,vs,n,i+1,())))
def k0D (v:aJ) (x:BO) (us:List Bool):T K0:=.nd (Kt.ok .s ay) (.nd (lnP x us x.cs (v.s ay) (v.s ay).length 0) (Uv (k0E y vs n i) yC x us.reverse x.ps.reverse (AA x.cont.reverse (v.l ay) ((v.s ay).drop (Int.toNat 0)) x.cs.reverse).1 (AA x.cont.reverse (v.l ay) ((v.s ay).drop (Int.toNat 0)) x.cs.reverse).2))
def k0C (v:aJ) (x:BO) (us:List Bool):T K0:=.nd (Kt.ok .s af) (.nd (lnP x us x.ps (v.s af) (v.s af).length 0) (Uv (k0D y vs n i v) yC x (pY x.prec (v.l af) ((v.s af).drop (Int.toNat 0)) us.reverse x.ps.reverse).1.1 (pY x.prec (v.l af) ((v.s af).drop (Int.toNat 0)) us.reverse x.ps.reverse).1.2 x.cs.reverse (pY x.prec (v.l af) ((v.s af).drop (Int.toNat 0)) us.reverse x.ps.reverse).2))
def k0B (x:BZ) (us:List Bool):T K0:=.br (decide (i<n)) (.nd (0<=i/\i<vs.length) (.nd (x.z.2.1.length<x.z.1) (.nd (i=x.z.2.1.length) (k0C y vs n i (vs.getD i.toNat aJ.zero) x.op us)))) (.lf (.out (x,y,us,())))
end
def oX (prec:List ByteArray) (cont:List ae):List aJ->List aj->List ByteArray->List Bool->(List aj×List ByteArray×List Bool)×dG
 | [],d,r,u=>((d,r,u),⟨0,0⟩)
 | v::vs,d,r,u=>
  if(pY prec (v.l af) (v.s af) u []).2.no=0 then
   if(AA cont (v.l ay) (v.s ay) []).2.no=0 then oX prec cont vs (d++[⟨r.getD 0 ⟨#[]⟩,(pY prec (v.l af) (v.s af) u []).1.2,(AA cont (v.l ay) (v.s ay) []).1⟩]) (r.drop 1) (pY prec (v.l af) (v.s af) u []).1.1
   else((d++[⟨r.getD 0 ⟨#[]⟩,(pY prec (v.l af) (v.s af) u []).1.2,(AA cont (v.l ay) (v.s ay) []).1⟩],r.drop 1,(pY prec (v.l af) (v.s af) u []).1.1),(AA cont (v.l ay) (v.s ay) []).2)
  else((d++[⟨r.getD 0 ⟨#[]⟩,(pY prec (v.l af) (v.s af) u []).1.2,[]⟩],r.drop 1,(pY prec (v.l af) (v.s af) u []).1.1),(pY prec (v.l af) (v.s af) u []).2)
theorem IF (prec:List ByteArray) (line:Int):∀(l:List ByteArray) (u:List Bool) (a:List Int),(pY prec line l u a).1.1.length=u.length
 | [],_,_=>rfl
 | s::l,u,a=>by
  unfold pY;split
  ·rfl
  split
  ·rfl
  ·rw[IF prec line l,ab1]
def vOk (v:aJ):Prop:=(v.s af).length<=1099511627776/\(v.s ay).length<=1099511627776
def lnR (x:BZ) (y:ox) (q:(List aj×List ByteArray×List Bool)×dG):T K0:=.br (q.2.no==0) (.lf (.out (x.withZ q.1.1 q.1.2.1,y,q.1.2.2.reverse,()))) (.lf (.ret (eF q.2) (x.withZ q.1.1 q.1.2.1,())))
theorem Us:cL Uu 0 0 k0L k0O [(0,Ez)] λ((x:BZ),(y:ox),(us:List Bool),(vs:List aJ),(n:Int),(i:Int),_)=>
 .nd (0<=i/\i<=vs.length/\n=vs.length/\i=x.z.2.1.length/\x.z.1=vs.length/\us.length=x.prec.length/\∀v∈vs,vOk v) (lnR x y (oX x.prec x.cont.reverse (vs.drop i.toNat) x.z.2.1 x.z.2.2 us.reverse)):=by
  refine fy _ (((nL _ _).add 1 _ Ur).add 2 _ Uq) 99 0 0 k0L k0O [(0,Ez)] (λ((x:BZ),(y:ox),(us:List Bool),(vs:List aJ),(n:Int),(i:Int),_)=>k0B y vs n i x us)
   (λ(_,_,_,(vs:List aJ),_,(i:Int),_)=>vs.length-i.toNat) ?_
  rintro⟨(x:BZ),(y:ox),(us:List Bool),(vs:List aJ),(n:Int),(i:Int),_⟩ r rh ⟨⟨h0,h1,rfl,h3,h4,h5,h6⟩,hr⟩;have Bu:vs.length<=9223372036854775807:=rh.2.2.2.1;obtain⟨k,rfl⟩:∃k:Nat,i=k:=⟨i.toNat,by omega⟩;rw[aae] at hr;show∃q,(k0B y vs vs.length k x us).hit q/\_;unfold k0B;by_cases hk:k<vs.length
  ·rw[getD_drop aJ.zero hk,oX] at hr;rw[aae];obtain⟨v,hv⟩:∃v,vs.getD k aJ.zero=v:=⟨_,rfl⟩;have tQ:vOk v:=h6 v (by rw[<-hv,aal,aac hk];exact ach _);rw[hv] at hr ⊢;have hn:(0:Int)<=k/\(k:Int)<vs.length:=⟨by omega,by omega⟩;have pre:∀{q},(Uv (k0D y vs vs.length k v) yC x.op (pY x.prec (v.l af) (v.s af) us.reverse []).1.1 (pY x.prec (v.l af) (v.s af) us.reverse []).1.2 [] (pY x.prec (v.l af) (v.s af) us.reverse []).2).hit q->(T.br (decide ((k:Int)<vs.length)) (.nd (0<=(k:Int)/\(k:Int)<vs.length) (.nd (x.z.2.1.length<x.z.1) (.nd ((k:Int)=x.z.2.1.length) (k0C y vs vs.length k v x.op us)))) (.lf (.out (x,y,us,())))).hit q:=λhq=>
    aC (decide_eq_true hn.2) ⟨hn,by omega,h3,px,⟨by omega,by omega,rfl,h5,rfl,tQ.1⟩,hq⟩
   have bJ:=IF x.prec (v.l af) (v.s af) us.reverse [];obtain⟨q,hq⟩:∃q,pY x.prec (v.l af) (v.s af) us.reverse []=q:=⟨_,rfl⟩;obtain⟨p,hp⟩:∃p,AA x.cont.reverse (v.l ay) (v.s ay) []=p:=⟨_,rfl⟩;rw[hq] at hr bJ pre;rw[hp] at hr;rw[aaP] at bJ;by_cases e1:q.2.no=0
   ·rw[if_pos e1] at hr;have aen:∀{t},(Uv (k0E y vs vs.length k) yC (x.op.withP q.1.2.reverse []) q.1.1.reverse.reverse q.1.2.reverse.reverse p.1 p.2).hit t->(k0D y vs vs.length k v (x.op.withP q.1.2.reverse []) q.1.1.reverse).hit t:=λht=>
     ⟨px,⟨by omega,by omega,rfl,by rw[aaP,bJ];exact h5,rfl,tQ.2⟩,by
      have:AA (x.op.withP q.1.2.reverse []).cont.reverse (v.l ay) ((v.s ay).drop (Int.toNat 0)) (x.op.withP q.1.2.reverse []).cs.reverse=p:=hp;rw[this];exact ht⟩
    have ex:((x.op.withP q.1.2.reverse []).withP q.1.2.reverse.reverse.reverse p.1.reverse).cl=x.withZ (x.z.2.1++[⟨x.z.2.2.getD 0 ⟨#[]⟩,q.1.2,p.1⟩]) (x.z.2.2.drop 1):=by
     have e3:q.1.2.reverse.reverse.reverse.reverse=q.1.2:=by simp only[aat]
     have e4:p.1.reverse.reverse=p.1:=aat _;show x.withZ (x.z.2.1++[⟨x.z.2.2.getD 0 ⟨#[]⟩,q.1.2.reverse.reverse.reverse.reverse,p.1.reverse.reverse⟩]) (x.z.2.2.drop 1)=_;rw[e3,e4]
    by_cases e2:p.2.no=0
    ·rw[if_pos e2] at hr;refine⟨.back (x.withZ (x.z.2.1++[⟨x.z.2.2.getD 0 ⟨#[]⟩,q.1.2,p.1⟩]) (x.z.2.2.drop 1),y,q.1.1.reverse.reverse.reverse,vs,(vs.length:Int),(k:Int)+1,()),pre (aC (by rw[e1];rfl) (aen (aC (by rw[e2];rfl) ⟨⟨by omega,by omega⟩,by rw[ex];rfl⟩))),?_,?_⟩
     ·show vs.length-(k+1)<vs.length-k;omega
     ·refine⟨⟨by omega,by omega,rfl,?_,h4,?_,h6⟩,?_⟩
      ·show(k:Int)+1=((x.z.2.1++[_]).length:Nat);rw[aaM,abA];omega
      ·show q.1.1.reverse.reverse.reverse.length=x.prec.length;rw[aaP,aaP,aaP,bJ];exact h5
      ·show(lnR _ _ (oX _ _ (vs.drop (k+1)) _ _ q.1.1.reverse.reverse.reverse.reverse)).hit r;simp only[aat];exact hr
    ·rw[if_neg e2] at hr;obtain rfl:=hr.2 (beq_false_of_ne e2);refine⟨yC p.2 (x.withZ (x.z.2.1++[⟨x.z.2.2.getD 0 ⟨#[]⟩,q.1.2,p.1⟩]) (x.z.2.2.drop 1)),pre (aC (by rw[e1];rfl) (aen (aK (beq_false_of_ne e2) ?_))),rfl⟩;rw[ex];rfl
   ·rw[if_neg e1] at hr;obtain rfl:=hr.2 (beq_false_of_ne e1);refine⟨yC q.2 (x.withZ (x.z.2.1++[⟨x.z.2.2.getD 0 ⟨#[]⟩,q.1.2,[]⟩]) (x.z.2.2.drop 1)),pre (aK (beq_false_of_ne e1) ?_),rfl⟩;have ex:(x.op.withP q.1.2.reverse ([]:List Int).reverse).cl=x.withZ (x.z.2.1++[⟨x.z.2.2.getD 0 ⟨#[]⟩,q.1.2,[]⟩]) (x.z.2.2.drop 1):=by
     show x.withZ (x.z.2.1++[⟨x.z.2.2.getD 0 ⟨#[]⟩,q.1.2.reverse.reverse,[]⟩]) (x.z.2.2.drop 1)=_;rw[aat]
    rw[ex];rfl
  ·rw[aaQ (by omega),oX] at hr;have h:=hr.1 rfl;rw[aat] at h;obtain rfl:=h;exact⟨_,aK (decide_eq_false (by omega)) rfl,rfl⟩
abbrev csY:List CS:=[.d .str,.d tI,.d tI,.d tI,.d (.list .str),.own (.st 3) 87,.zc (.st 4) (.st 10) 42,.d tI,.d tI,.d .bool,.d (.list .limb),.d (.list .limb),.d tI,.d .str,.mr .s .str 9,.any]
abbrev sBy:SS:=.box 110 csY
abbrev BY:=eB csY
def BZ.y (x:BZ):BY:=(x.1,x.2.1,x.2.2.1,x.2.2.2.1,x.2.2.2.2.1,x.2.2.2.2.2.1,x.2.2.2.2.2.2.1,x.2.2.2.2.2.2.2.1,x.2.2.2.2.2.2.2.2.1,x.2.2.2.2.2.2.2.2.2.1,x.2.2.2.2.2.2.2.2.2.2.1,x.2.2.2.2.2.2.2.2.2.2.2.1,x.2.2.2.2.2.2.2.2.2.2.2.2.1,x.2.2.2.2.2.2.2.2.2.2.2.2.2.1,x.2.2.2.2.2.2.2.2.2.2.2.2.2.2.1,(),())
abbrev Mh (r:XV) (x:BZ):XV×BY×Unit:=(r,x.y,())
abbrev BX.prec (x:BX):List ByteArray:=x.2.2.2.2.1
def BX.zb (x:BX):BZ:=(x.1,x.2.1,x.2.2.1,x.2.2.2.1,x.2.2.2.2.1,x.2.2.2.2.2.1,(x.styn.length,[],x.styn.reverse),x.2.2.2.2.2.2.2.1,x.2.2.2.2.2.2.2.2.1,x.2.2.2.2.2.2.2.2.2.1,x.2.2.2.2.2.2.2.2.2.2.1,x.2.2.2.2.2.2.2.2.2.2.2.1,x.2.2.2.2.2.2.2.2.2.2.2.2.1,x.2.2.2.2.2.2.2.2.2.2.2.2.2.1,x.2.2.2.2.2.2.2.2.2.2.2.2.2.2.1,x.vals.reverse,())
def BX.go (x:BX):(List aj×List ByteArray×List Bool)×dG:=oX x.prec x.cont.reverse (x.vals.reverse.drop (Int.toNat 0)) [] x.styn.reverse (List.replicate (Int.toNat x.prec.length) false).reverse
def lkT (x:BX):T (XV×BY×Unit):=.nd ((0:Int)<=x.prec.length/\(x.prec.length:Int)=x.prec.length/\(x.prec.length:Int)*(1+1)<=281474976710656)
 (.nd ((0:Int)<=0/\(0:Int)<=x.vals.reverse.length/\(x.vals.length:Int)=x.vals.reverse.length/\(0:Int)=x.zb.z.2.1.length/\x.zb.z.1=x.vals.reverse.length/\(List.replicate (Int.toNat x.prec.length) false).length=x.zb.prec.length/\∀v∈x.vals.reverse,vOk v)
 (.br (x.go.2.no==0) (.br (x.go.1.2.2.reverse.reverse.contains false) (.lf (Mh (Bl 6 0) (x.zb.withZ x.go.1.1 x.go.1.2.1))) (.lf (Mh (Bl 0 0) (x.zb.withZ x.go.1.1 x.go.1.2.1)))) (.lf (Mh (aE x.go.2) (x.zb.withZ x.go.1.1 x.go.1.2.1)))))
def fQ (x:BX):dG×BZ:=(if x.go.2.no=0 then(if x.go.1.2.2.contains false then⟨6,0⟩ else⟨0,0⟩) else x.go.2,x.zb.withZ x.go.1.1 x.go.1.2.1)
def vH (x:BX):Prop:=x.prec.length<=140737488355328/\x.styn.length=x.vals.length/\∀v∈x.vals,vOk v
theorem O1:ew Tryz.prog 60 [0] [(0,zR)] [(0,sBy)] λ((x:BX),_)=>.nd (vH x) (.lf (Mh (aE (fQ x).1) (fQ x).2)):=by
 refine Ba (R:=Uu) ((nL _ _).add 0 _ Us) 99 [(0,zR)] [(0,sBy)] (λ((x:BX),_)=>lkT x) ?_ Tryz.func60;rintro⟨(x:BX),_⟩ r _ ⟨⟨h1,h2,h3⟩,hr⟩;obtain rfl:Mh (aE (fQ x).1) (fQ x).2=r:=hr;refine⟨⟨by omega,rfl,by omega⟩,⟨by omega,by omega,by rw[aaP],rfl,by rw[aaP];exact h2,by rw[ado];exact aae _,λv hv=>h3 v (List.mem_reverse.1 hv)⟩,?_⟩;unfold fQ;by_cases e:x.go.2.no=0
 ·rw[if_pos e];refine aC (by rw[e];rfl) ?_;rw[aat];cases x.go.1.2.2.contains false
  ·exact aK rfl rfl
  ·exact aC rfl rfl
 ·rw[if_neg e];exact aK (beq_false_of_ne e) rfl
theorem W8 (prec:List ByteArray) (line:Int):∀(l:List ByteArray) (u:List Bool) (a:List Int),cR prec line l u a=if(pY prec line l u a).2.no=0 then .ok (pY prec line l u a).1 else .error (pY prec line l u a).2
 | [],_,_=>rfl
 | s::l,u,a=>by
  unfold cR pY;split
  ·rfl
  split
  ·rfl
  ·exact W8 prec line l _ _
theorem Xe (cont:List ae) (line:Int):∀(l:List ByteArray) (a:List Int),dC cont line l a=if(AA cont line l a).2.no=0 then .ok (AA cont line l a).1 else .error (AA cont line l a).2
 | [],_=>rfl
 | s::l,a=>by
  unfold dC AA;split
  ·rfl
  ·exact Xe cont line l _
theorem Xb (prec:List ByteArray) (cont:List ae):∀(vs:List aJ) (r:List ByteArray) (u:List Bool) (d:List aj),vs.length=r.length-> dV prec cont vs (r.map λn=>⟨n,[],[]⟩) u d=if(oX prec cont vs d r u).2.no=0 then(if(oX prec cont vs d r u).1.2.2.contains false then .error ⟨6,0⟩ else .ok (oX prec cont vs d r u).1.1) else .error (oX prec cont vs d r u).2
 | [],[],_,_,_=>rfl
 | v::vs,s::r,u,d,h=>by
  rw[aco];unfold dV oX;rw[W8,Xe];by_cases e1:(pY prec (v.l af) (v.s af) u []).2.no=0
  ·simp only[if_pos e1];by_cases e2:(AA cont (v.l ay) (v.s ay) []).2.no=0
   ·simp only[if_pos e2];exact Xb prec cont vs r _ _ (by simpa using h)
   ·simp only[if_neg e2]
  ·simp only[if_neg e1]
 | [],_::_,_,_,h=>by cases h
 | _::_,[],_,_,h=>by cases h
theorem UC (x:BX) (h:vH x):oE x.d=if(fQ x).1.no=0 then .ok (fQ x).2.z.2.1 else .error (fQ x).1:=by
 have e:oE x.d=_:=Xb x.prec x.cont.reverse x.vals.reverse x.styn.reverse (List.replicate x.prec.length false) [] (by rw[aaP,aaP];exact h.2.1.symm);have hg:x.go=oX x.prec x.cont.reverse x.vals.reverse [] x.styn.reverse (List.replicate x.prec.length false):=by
  unfold BX.go;rw[List.reverse_replicate,aae];rfl
 rw[e,<-hg];unfold fQ;by_cases e1:x.go.2.no=0
 ·simp only[if_pos e1];cases x.go.1.2.2.contains false<;>rfl
 ·simp only[if_neg e1]
end Go.Proofs.YtdbpbfglhbiadaaGreatDoor
