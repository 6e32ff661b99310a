/- Tp3 Tp4 Tp5 Tp6 Tp7 Lnk1 Tp8 Tp9 Tp10 Tp11 -/
import Derived.Test.YtjlhbfbdcfajfaaGreatDoorV00
import Derived.Test.YtjlhbfbdcfajfaaGreatDoorV38
import Derived.Test.YtjlhbfbdcfajfaaGreatDoorV37
import Derived.Test.YtjlhbfbdcfajfaaGreatDoorV22
import Derived.Test.YtjlhbfbdcfajfaaGreatDoorV12
import Derived.Test.YtjlhbfbdcfajfaaGreatDoorV10
set_option maxHeartbeats 8000000
set_option maxRecDepth 100000
namespace Go.Proofs.YtjlhbfbdcfajfaaGreatDoor
open Go Go.RowKit
noncomputable def CV3:iZ Tryz.prog:=d9 LI [⟨_,_,_,sG⟩,⟨_,_,_,HJ⟩,⟨_,_,_,RO⟩,⟨_,_,_,tc⟩,⟨_,_,_,RH⟩] [⟨_,_,_,_,_,Q7⟩]
abbrev VX.L (x:VX):Nat×(ByteArray→Option (List ByteArray)):=x.2.1
abbrev VX.N (x:VX):Nat×(ByteArray→Option Int):=x.2.2.1
def VX.setL (x:VX) (k:ByteArray) (v:Int):VX:=(x.1,x.2.1,(x.2.2.1.1+1,mC .s x.2.2.1.2 k v),x.2.2.2)
def VX.setV (x:VX) (k:ByteArray) (v:List ByteArray):VX:=(x.1,(x.2.1.1+1,mC .s x.2.1.2 k v),x.2.2)
def kOk (k:ByteArray) (n:Nat):Prop:=Kt.ok .s k∧n<1000000000000
def aak (x:VX) (k:ByteArray) (f:ao):T (XV×VX×Unit):=
 .br (!(Lib.containsS (aJ k) f.key)) (.lf (tJ (aI 2) x)) (.nd (Kt.ok .s f.key) (.br (x.N.2 f.key).isSome (.lf (tJ (aI 3) x)) (.nd (kOk f.key x.N.1)
 (.br (decide (dd f.key>0)) (.nd (f.vals.length≤1099511627776) (.nd (kOk f.key x.L.1) (.nd (∀s∈f.vals,dI s) (.lf (tJ (aI (eD f.vals (dd f.key))) ((x.setL f.key f.line).setV f.key f.vals))))))
 (.br (!((f.vals.length:Int)==1)) (.lf (tJ (aI 7) (x.setL f.key f.line))) (.nd ((0:Int)≤0∧(0:Int)<f.vals.length) (.nd (Hh f.key (x.setL f.key f.line)∧dI (f.vals.getD 0 ⟨#[]⟩)) (.lf (tJ (aI (nO f.key (f.vals.getD 0 ⟨#[]⟩) (x.setL f.key f.line)).1) (nO f.key (f.vals.getD 0 ⟨#[]⟩) (x.setL f.key f.line)).2)))))))))
def fl (k:ByteArray) (f:ao) (x:VX):Int×VX:=
 if Lib.containsS (aJ k) f.key=false then(2,x)
 else if(x.N.2 f.key).isSome then(3,x)
 else if 0<dd f.key then(eD f.vals (dd f.key),(x.setL f.key f.line).setV f.key f.vals)
 else if f.vals.length≠1 then(7,x.setL f.key f.line)
 else nO f.key (f.vals.getD 0 ⟨#[]⟩) (x.setL f.key f.line)
def VX.n (x:VX) (n:Nat):Prop:=x.1.1≤n∧x.L.1≤n∧x.N.1≤n
def qT (f:ao):Prop:=dI f.key∧f.vals.length≤1099511627776∧∀s∈f.vals,dI s
theorem VX.v_setL (x:VX) (k:ByteArray) (v:Int):(x.setL k v).v={ x.v with ln:=setF x.v.ln k v }:=
 congrArg (fun f:ByteArray→Option Int=>(⟨x.1.2,x.2.1.2,f,⟨x.2.2.2.1,x.2.2.2.2.1,x.2.2.2.2.2.1⟩,x.2.2.2.2.2.2.1⟩:aC)) (Js x.2.2.1.2 k v)
theorem VX.v_setV (x:VX) (k:ByteArray) (v:List ByteArray):(x.setV k v).v={ x.v with lst:=setF x.v.lst k v }:=
 congrArg (fun f:ByteArray→Option (List ByteArray)=>(⟨x.1.2,f,x.2.2.1.2,⟨x.2.2.2.1,x.2.2.2.2.1,x.2.2.2.2.2.1⟩,x.2.2.2.2.2.2.1⟩:aC)) (Js x.2.1.2 k v)
theorem QP (k:ByteArray) (f:ao) (x:VX):aY k f x.v=((fl k f x).1,(fl k f x).2.v):=by
 unfold aY fl;split
 ·rfl
 split
 ·rename_i h;rw[if_pos (show(x.N.2 f.key).isSome from h)]
 rename_i h;rw[if_neg (show¬(x.N.2 f.key).isSome from h)];split
 ·rw[VX.v_setV,VX.v_setL]
 split
 ·rw[VX.v_setL]
 ·rw[←VX.v_setL,V9]
theorem QQ {k:ByteArray} {f:ao} {x:VX} {n:Nat} (h:x.n n):(fl k f x).2.n (n+1):=by
 obtain⟨h1,h2,h3⟩:=h;have h0:x.n (n+1):=⟨by omega,by omega,by omega⟩;have hl:(x.setL f.key f.line).n (n+1):=⟨by show x.1.1≤_;omega,by show x.L.1≤_;omega,by show x.N.1+1≤_;omega⟩;unfold fl;split
 ·exact h0
 split
 ·exact h0
 split
 ·exact⟨by show x.1.1≤_;omega,by show x.L.1+1≤_;omega,by show x.N.1+1≤_;omega⟩
 split
 ·exact hl
 ·obtain⟨q1,q2,q3⟩:=MB f.key (f.vals.getD 0 ⟨#[]⟩) (x.setL f.key f.line);refine⟨aa7 q1 (by show x.1.1+1≤_;omega),?_,?_⟩
  ·show(nO _ _ _).2.2.1.1≤_;rw[q2];exact hl.2.1
  ·show(nO _ _ _).2.2.2.1.1≤_;rw[q3];exact hl.2.2
theorem dI.kt {s:ByteArray} (h:dI s):Kt.ok .s s:=aa7 h (by decide)
theorem Mm:fV Tryz.prog 95 pV [(0,sV),(1,sS),(2,.st 0)] [(0,sV)] fun((x:VX),(k:ByteArray),(f:ao),_)=>.nd (x.n 999999999999∧qT f) (.lf (tJ (aI (fl k f x).1) (fl k f x).2)):=
 kx (C:=CV3) (nL _ _) 99 [(0,sV),(1,sS),(2,.st 0)] [(0,sV)] (fun((x:VX),(k:ByteArray),(f:ao),_)=>aak x k f) (fun⟨(x:VX),(k:ByteArray),(f:ao),_⟩ r _ ⟨⟨⟨n1,n2,n3⟩,f1,f2,f3⟩,h⟩=>by
  obtain rfl:tJ (aI (fl k f x).1) (fl k f x).2=r:=h;unfold fl;by_cases h1:Lib.containsS (aJ k) f.key=false
  ·rw[if_pos h1];exact bf (by rw[h1];rfl) rfl
  rw[if_neg h1];refine bw (by simpa using h1) ⟨f1.kt,?_⟩;by_cases h2:(x.N.2 f.key).isSome
  ·rw[if_pos h2];exact bf h2 rfl
  rw[if_neg h2];refine bw (by simpa using h2) ⟨⟨f1.kt,by omega⟩,?_⟩;by_cases h3:0<dd f.key
  ·rw[if_pos h3];exact bf (decide_eq_true h3) ⟨f2,⟨f1.kt,by omega⟩,f3,rfl⟩
  rw[if_neg h3];refine bw (decide_eq_false h3) ?_;by_cases h4:f.vals.length=1
  ·rw[if_neg (by simp[h4])];refine bw (by rw[h4];rfl) ⟨by omega,⟨⟨f1.kt,by show x.1.1<_;omega⟩,?_⟩,rfl⟩;rw[aar,aac (by omega)];exact f3 _ (ab7 _)
  ·rw[if_pos h4];exact bf (by simp;omega) rfl) Tryz.func95
noncomputable def CV4:iZ Tryz.prog:=d9 LI [⟨_,_,_,sG⟩] []
abbrev KS:SS:=.box 76 [.d tI,.d tI]
noncomputable abbrev coF:=Tryz.f96
abbrev o4:=fc [.d tI,.d tI]
abbrev coL:List (Nat×SS):=[(0,.rf 14),(1,sS),(2,sI),(6,KS),(14,sL),(15,sI),(16,sI)]
abbrev coO:List (Nat×SS):=[(0,.rf 14),(1,sS),(2,sI),(6,KS)]
abbrev AS (a b:Int):XV:=.agg [.sym (.int .i64 a),.sym (.int .i64 b)]
abbrev CpE:=LE coL coO []
def OX (n:Int):T CpE:=.lf (.ret (.agg [.val (.int .i64 6),.sym (.int .i64 n)]) ())
def Yd (x:aC) (k:ByteArray) (n:Int) (y:o4) (l:List ByteArray) (a i:Int):T CpE:=.nd (du (i+1)) (.lf (.back (x,k,n,y,l,a,i+1,())))
def cpT (x:aC) (k:ByteArray) (n:Int) (y:o4) (l:List ByteArray) (a i:Int):T CpE:=
 .br (decide (i<a)) (.nd (0≤i∧i<l.length) (.nd (Kt.ok .s (l.getD i.toNat ⟨#[]⟩)) (.br (!((x.ln (l.getD i.toNat ⟨#[]⟩)).isSome)) (.br (!((l.getD i.toNat ⟨#[]⟩).toList==az.toList)) (OX n) (.nd (Kt.ok .s aM) (.br (x.n aM==2) (OX n) (Yd x k n y l a i)))) (Yd x k n y l a i)))) (.lf (.out (x,k,n,y,())))
theorem p9 {s:ByteArray} (h:s.size≤1000:=by decide):Kt.ok .s s:=aa7 h (by decide)
theorem Cd {v:aC} {line:Int} {e:eB}:∀{l:List ByteArray},sA v line e l=if l.any (gy v) then⟨6,line⟩ else e
 | []=>rfl
 | k::l=>by
  unfold sA;rw[adh,Cd (l:=l)];cases gy v k<;>rfl
theorem GU {v:aC} {k:ByteArray} (h1:(v.ln k).isSome=false) (h2:k≠az∨v.n aM=2):gy v k=true:=by
 unfold gy;rw[h1];rcases h2 with h|h
 ·rw[decide_eq_true h];rfl
 ·rw[decide_eq_true h,Bool.or_true];rfl
theorem Tv:fO (xZ CV4 coF) 0 0 coL coO [] fun((x:aC),(k:ByteArray),(n:Int),(y:o4),(l:List ByteArray),(a:Int),(i:Int),_)=>
 .nd (0≤i∧i≤l.length∧a=l.length∧∀s∈l,Kt.ok .s s) (.br ((l.drop i.toNat).any (gy x)) (OX n) (.lf (.out (x,k,n,y,())))):=by
  refine fS _ (nL _ _) 99 0 0 coL coO [] (fun((x:aC),(k:ByteArray),(n:Int),(y:o4),(l:List ByteArray),(a:Int),(i:Int),_)=>cpT x k n y l a i) (fun(_,_,_,_,(l:List ByteArray),_,(i:Int),_)=>l.length-i.toNat) ?_;rintro⟨(x:aC),(k:ByteArray),(n:Int),(y:o4),(l:List ByteArray),(a:Int),(i:Int),_⟩ r ⟨_,_,_,_,hl,_⟩ ⟨⟨h0,h1,rfl,hk⟩,h⟩;have hl:l.length≤9223372036854775807:=hl;obtain⟨j,rfl⟩:∃j:Nat,i=j:=⟨i.toNat,by omega⟩;simp only[aaf] at h;by_cases hi:j<l.length
  ·rw[getD_drop ⟨#[]⟩ hi,adh] at h;have hx:Kt.ok .s (l.getD j ⟨#[]⟩):=by
    rw[aar,aac hi];exact hk _ (ab7 _)
   have back:gy x (l.getD j ⟨#[]⟩)=false→(T.nd (0≤(j:Int)+1∧(j:Int)+1≤l.length∧(l.length:Int)=l.length∧∀s∈l,Kt.ok .s s) (.br ((l.drop ((j:Int)+1).toNat).any (gy x)) (OX n) (.lf (.out (x,k,n,y,()))))).hit r:=fun hm=>by
    rw[hm,adc] at h;exact⟨⟨by omega,by omega,rfl,hk⟩,h⟩
   have nx:(Yd x k n y l l.length (j:Int)).hit (.back (x,k,n,y,l,(l.length:Int),(j:Int)+1,())):=⟨⟨by omega,by omega⟩,rfl⟩;have μ:l.length-((j:Int)+1).toNat<l.length-j:=by omega
   have aaL:gy x (l.getD j ⟨#[]⟩)=true→(OX n).hit r:=fun hm=>by
    rw[hm,Bool.true_or] at h;exact h.1 rfl
   have hn:(0:Int)≤j∧(j:Int)<l.length:=⟨by omega,by omega⟩;cases h3:(x.ln (l.getD j ⟨#[]⟩)).isSome
   ·by_cases h4:l.getD j ⟨#[]⟩=az
    ·by_cases h5:x.n aM=2
     ·have q:=GU h3 (.inr h5);exact⟨_,bf (decide_eq_true hn.2) ⟨hn,hx,bf (by rw[aaf,h3];rfl) (bw (by rw[aaf,h4];simp) ⟨p9,bf (by rw[h5];rfl) rfl⟩)⟩,(aaL q)⟩
     ·exact⟨_,bf (decide_eq_true hn.2) ⟨hn,hx,bf (by rw[aaf,h3];rfl) (bw (by rw[aaf,h4];simp) ⟨p9,bw (beq_false_of_ne h5) nx⟩)⟩,μ,back (by unfold gy;rw[h3,decide_eq_false (fun e=>e h4),decide_eq_false h5];rfl)⟩
    ·exact⟨_,bf (decide_eq_true hn.2) ⟨hn,hx,bf (by rw[aaf,h3];rfl) (bf (by rw[aaf,eu,decide_eq_false h4];rfl) rfl)⟩,aaL (GU h3 (.inl h4))⟩
   ·exact⟨_,bf (decide_eq_true hn.2) ⟨hn,hx,bw (by rw[aaf,h3];rfl) nx⟩,μ,back (by unfold gy;rw[h3];rfl)⟩
  ·rw[aa5 (by omega)] at h;exact⟨_,bw (decide_eq_false (by omega)) rfl,h.2 rfl⟩
def cS (x:aC) (k:ByteArray) (n:Int):T XV:=.br (k.toList==aP.toList) (.nd (Kt.ok .s bp) (.nd (Kt.ok .s aZ) (.br (decide (x.n bp>x.n aZ)) (.lf (AS 4 n)) (.lf (AS 0 0))))) (.lf (AS 0 0))
def cC (x:aC) (k:ByteArray) (n:Int):T XV:=.br (k.toList==af.toList) (.nd (Kt.ok .s aM) (.br (x.n aM==1) (.nd (Kt.ok .s bc) (.br (decide (x.n bc>1)) (.nd (Kt.ok .s bc) (.lf (AS 4 (x.l bc)))) (cS x k n))) (cS x k n))) (cS x k n)
def cD (x:aC) (k:ByteArray) (n:Int):T XV:=.nd (Kt.ok .s az) (.br (x.ln az).isSome (.nd (Kt.ok .s aM) (.br (!(x.n aM==2)) (.lf (AS 5 (x.l az))) (cC x k n))) (cC x k n))
def cB (x:aC) (k:ByteArray) (n:Int):T XV:=.nd ((0:Int)≤0∧(0:Int)≤(aJ k).length∧((aJ k).length:Int)=(aJ k).length∧∀s∈aJ k,Kt.ok .s s) (.br ((aJ k).any (gy x)) (.lf (AS 6 n)) (cD x k n))
theorem FJ (x:aC) (k:ByteArray) (n:Int):(cS x k n).hit (if k=aP∧x.n aZ<x.n bp then AS 4 n else AS 0 0):=by
 unfold cS;by_cases h1:k=aP
 ·refine bf (by rw[h1];simp) ⟨p9,p9,?_⟩;by_cases h2:x.n aZ<x.n bp
  ·rw[if_pos ⟨h1,h2⟩];exact bf (decide_eq_true h2) rfl
  ·rw[if_neg fun q=>h2 q.2];exact bw (decide_eq_false h2) rfl
 ·rw[if_neg fun q=>h1 q.1];exact bw (by rw[eu];exact decide_eq_false h1) rfl
theorem Yi (x:aC) (k:ByteArray) (n:Int):(cC x k n).hit (if k=af∧x.n aM=1∧1<x.n bc then AS 4 (x.l bc) else if k=aP∧x.n aZ<x.n bp then AS 4 n else AS 0 0):=by
 unfold cC;by_cases h1:k=af
 ·refine bf (by rw[h1];simp) ⟨p9,?_⟩;by_cases h2:x.n aM=1
  ·refine bf (by rw[h2];rfl) ⟨p9,?_⟩;by_cases h3:1<x.n bc
   ·rw[if_pos ⟨h1,h2,h3⟩];exact bf (decide_eq_true h3) ⟨p9,rfl⟩
   ·rw[if_neg fun q=>h3 q.2.2];exact bw (decide_eq_false h3) (FJ x k n)
  ·rw[if_neg fun q=>h2 q.2.1];exact bw (beq_false_of_ne h2) (FJ x k n)
 ·rw[if_neg fun q=>h1 q.1];exact bw (by rw[eu];exact decide_eq_false h1) (FJ x k n)
def aE (e:eB):XV:=AS e.no e.line
theorem Iy {P:Prop} [Decidable P] (a b:eB):aE (if P then a else b)=if P then aE a else aE b:=by split<;>rfl
theorem Yh (x:aC) (k:ByteArray) (n:Int):(cD x k n).hit (aE (kf k n x)):=by
 have hc:=Yi x k n;unfold kf;rw[Iy,Iy,Iy];refine⟨p9,?_⟩;cases h1:(x.ln az).isSome
 ·rw[if_neg fun q=>by cases q.1];exact bw rfl hc
 ·refine bf rfl ⟨p9,?_⟩;by_cases h2:x.n aM=2
  ·rw[if_neg fun q=>q.2 h2];exact bw (by rw[h2];rfl) hc
  ·rw[if_pos ⟨rfl,h2⟩];exact bf (by rw[beq_false_of_ne h2];rfl) rfl
theorem R2 (k:ByteArray):∀s∈aJ k,Kt.ok .s s:=by
 have h:∀a∈fa,∀s∈aJ a,s.size≤1000:=by decide
 by_cases hk:k∈fa
 ·exact fun s hs=>p9 (h k hk s hs)
 ·simp only[fa,aba,abG,or_false,not_or] at hk;simp[aJ,hk]
theorem O5:ax Tryz.prog 96 false (aX [(0,.rf 14),(1,sS),(2,sI)] fun((x:aC),(k:ByteArray),(n:Int),_)=>.lf (aE (eH k n x))):=
 bT (C:=CV4) ((nL _ _).add 0 _ Tv) false 99 [(0,.rf 14),(1,sS),(2,sI)] (fun((x:aC),(k:ByteArray),(n:Int),_)=>cB x k n) (fun⟨(x:aC),(k:ByteArray),(n:Int),_⟩ r _ h=>by
  obtain rfl:aE (eH k n x)=r:=h;refine⟨⟨⟨by omega,by omega,rfl,R2 k⟩,?_⟩,.inr rfl⟩;unfold eH;rw[Cd,Iy];cases (aJ k).any (gy x)
  ·exact bw rfl (Yh x k n)
  ·exact bf rfl rfl) Tryz.func96
noncomputable def CV5:iZ Tryz.prog:=d9 LI [⟨_,_,_,sG⟩,⟨_,_,_,JD⟩,⟨_,_,_,Pv⟩,⟨_,_,_,HJ⟩,⟨_,_,_,TA⟩] []
def hd4 (k m:ByteArray) (ns:List ByteArray):T XV:=.br (m.toList==(⟨#[]⟩:ByteArray).toList) (.lf (aI 6)) (.nd (szB m) (.br (!(iz m.data.toList)) (.lf (aI 8)) (.nd ((0:Int)≤0∧(0:Int)<m.size) (.br (decide (((m.data.toList.getD 0 0).toNat:Int)<97)) (.lf (aI 8)) (.br (decide ((m.size:Int)>24)) (.lf (aI 8)) (.br (Lib.containsS ns m) (.lf (aI 3)) (.br ((ns.length:Int)==eg k) (.lf (aI 7)) (.lf (aI 0)))))))))
def hd3 (k m:ByteArray) (ns:List ByteArray):T XV:=.br (!(mD k)) (.lf (aI 0)) (hd4 k m ns)
def Qd (k m:ByteArray) (ns:List ByteArray):T XV:=.br (!(mD k)) (.br (decide ((ns.length:Int)>0)) (.lf (aI 3)) (hd3 k m ns)) (hd3 k m ns)
def UV (k m:ByteArray) (ns:List ByteArray):T XV:=.br (!(mD k)) (.br (!(m.toList==(⟨#[]⟩:ByteArray).toList)) (.lf (aI 2)) (Qd k m ns)) (Qd k m ns)
def hd0 (k m:ByteArray) (ns:List ByteArray):T XV:=.nd (Kt.ok .s k) (.br ((aJ k).isEmpty) (.lf (aI 2)) (UV k m ns))
theorem Wj {m:ByteArray} (h:m≠⟨#[]⟩):0<m.size:=by
 rcases adg m.size with e|e
 ·exact absurd (by rcases m with⟨a⟩;obtain rfl:a=#[]:=aco e;rfl) h
 ·exact e
theorem Xt {k m:ByteArray} (ns:List ByteArray) (hk:dI k) (hm:dI m):(hd0 k m ns).hit (aI (gA k m ns)):=by
 refine⟨hk.kt,?_⟩;unfold gA;by_cases h0:aJ k=[]
 ·rw[if_pos h0];exact bf (by rw[h0];rfl) rfl
 refine bw (by simpa using h0) ?_;rw[if_neg h0];unfold UV;cases h1:mD k
 ·rw[if_pos rfl];refine bf rfl ?_;by_cases h2:m=⟨#[]⟩
  ·rw[if_neg (by simpa using h2)];refine bw (by rw[h2];simp) ?_;unfold Qd;rw[h1];refine bf rfl ?_;by_cases h3:0<ns.length
   ·rw[if_pos h3];exact bf (decide_eq_true (by omega)) rfl
   ·rw[if_neg h3];refine bw (decide_eq_false (by omega)) ?_;unfold hd3;rw[h1];exact bf rfl rfl
  ·rw[if_pos h2];exact bf (by rw[eu,decide_eq_false h2];rfl) rfl
 ·rw[if_neg (by decide)];refine bw rfl ?_;unfold Qd hd3;rw[h1];refine bw rfl (bw rfl ?_);unfold hd4;by_cases h2:m=⟨#[]⟩
  ·rw[if_pos h2];exact bf (by rw[h2];simp) rfl
  rw[if_neg h2];refine bw (by rw[eu];exact decide_eq_false h2) ⟨hm.szB,?_⟩;have hp:=Wj h2;have e0:(m.data.toList[0]?).getD 0=m.data.toList.getD 0 0:=(aar ..).symm;rw[e0];by_cases h3:iz m.data.toList=false
  ·rw[if_pos (.inl h3)];exact bf (by rw[h3];rfl) rfl
  refine bw (by simpa using h3) ⟨⟨by omega,by omega⟩,?_⟩;by_cases h4:(m.data.toList.getD 0 0).toNat<97
  ·rw[if_pos (.inr (.inl h4))];exact bf (decide_eq_true (by omega)) rfl
  refine bw (decide_eq_false (by omega)) ?_;by_cases h5:24<m.size
  ·rw[if_pos (.inr (.inr h5))];exact bf (decide_eq_true (by omega)) rfl
  rw[if_neg fun q=>q.elim h3 fun q=>q.elim h4 h5];refine bw (decide_eq_false (by omega)) ?_;cases h6:Lib.containsS ns m
  ·rw[if_neg (by decide)];refine bw rfl ?_;by_cases h7:(ns.length:Int)=eg k
   ·rw[if_pos h7];exact bf (by rw[h7];simp) rfl
   ·rw[if_neg h7];exact bw (beq_false_of_ne h7) rfl
  ·exact bf rfl rfl
theorem Oe:ax Tryz.prog 94 false (aX [(0,.rf 15),(1,.st 1)] fun((x:AZ),(b:av),_)=>.nd (dI b.kind∧dI b.name) (.lf (aI (gA b.kind b.name ((x.names b.kind).getD []))))):=
 bT (C:=CV5) (nL _ _) false 99 [(0,.rf 15),(1,.st 1)] (fun((x:AZ),(b:av),_)=>hd0 b.kind b.name ((x.names b.kind).getD [])) (fun⟨(x:AZ),(b:av),_⟩ r _ ⟨⟨h1,h2⟩,h⟩=>by
  obtain rfl:aI (gA b.kind b.name ((x.names b.kind).getD []))=r:=h;exact⟨Xt _ h1 h2,.inr rfl⟩) Tryz.func94
abbrev csB:List CS:=[.d .str,.d tI,.d tI,.d tI,.d (.list .str),.own (.st 3) 95,.own (.st 10) 97,.d tI,.d tI,.d .bool,.d (.list .limb),.d (.list .limb),.d tI,.d .str,.mr .s .str 9,.own (.st 14) 168]
abbrev zA:SS:=.box 135 csB
abbrev pBd:List Nat:=[0]
abbrev BX:=fc csB
abbrev FX (r:XV) (x:BX):XV×BX×Unit:=(r,x,())
noncomputable def Qs (t:TypeId):Option Ty:=List.lookup t [(9,.str),(3,tI),(4,.bool),(22,.list .str),(95,.st 3),(97,.st 10),(168,.st 14),(135,.st 15)]
noncomputable def CV6:iZ Tryz.prog:=d9 Qs [] []
namespace BX
abbrev cont (x:BX):List ah:=x.2.2.2.2.2.1
abbrev styn (x:BX):List ByteArray:=x.2.2.2.2.2.2.1
abbrev names (x:BX):Nat×(ByteArray→Option (List ByteArray)):=x.2.2.2.2.2.2.2.2.2.2.2.2.2.2.1
abbrev vals (x:BX):List aC:=x.2.2.2.2.2.2.2.2.2.2.2.2.2.2.2.1
def uScan (x:BX) (v:aC):BX:=(x.1,v.n cZ,v.n bp,v.n aZ,x.2.2.2.2)
def uScs (x:BX) (v:aC):BX:=(x.1,x.2.1,x.2.2.1,x.2.2.2.1,x.2.2.2.2.1,x.2.2.2.2.2.1,x.2.2.2.2.2.2.1,v.n bV,v.n bW,x.2.2.2.2.2.2.2.2.2)
def uPrec (x:BX) (v:aC):BX:=(x.1,x.2.1,x.2.2.1,x.2.2.2.1,v.s bU,x.2.2.2.2.2)
def uCont (x:BX) (c:ah):BX:=(x.1,x.2.1,x.2.2.1,x.2.2.2.1,x.2.2.2.2.1,c::x.cont,x.2.2.2.2.2.2)
def uSty (x:BX) (nm:ByteArray) (v:aC):BX:=(x.1,x.2.1,x.2.2.1,x.2.2.2.1,x.2.2.2.2.1,x.2.2.2.2.2.1,nm::x.styn,x.2.2.2.2.2.2.2.1,x.2.2.2.2.2.2.2.2.1,x.2.2.2.2.2.2.2.2.2.1,x.2.2.2.2.2.2.2.2.2.2.1,x.2.2.2.2.2.2.2.2.2.2.2.1,x.2.2.2.2.2.2.2.2.2.2.2.2.1,x.2.2.2.2.2.2.2.2.2.2.2.2.2.1,x.2.2.2.2.2.2.2.2.2.2.2.2.2.2.1,v::x.vals,())
def uAud (x:BX) (v:aC):BX:=(x.1,x.2.1,x.2.2.1,x.2.2.2.1,x.2.2.2.2.1,x.2.2.2.2.2.1,x.2.2.2.2.2.2.1,x.2.2.2.2.2.2.2.1,x.2.2.2.2.2.2.2.2.1,v.risk.neg,v.risk.num,v.risk.den,x.2.2.2.2.2.2.2.2.2.2.2.2.1,v.seed,x.2.2.2.2.2.2.2.2.2.2.2.2.2.2)
def uCell (x:BX) (v:aC):BX:=(x.1,x.2.1,x.2.2.1,x.2.2.2.1,x.2.2.2.2.1,x.2.2.2.2.2.1,x.2.2.2.2.2.2.1,x.2.2.2.2.2.2.2.1,x.2.2.2.2.2.2.2.2.1,x.2.2.2.2.2.2.2.2.2.1,x.2.2.2.2.2.2.2.2.2.2.1,x.2.2.2.2.2.2.2.2.2.2.2.1,v.n dB,x.2.2.2.2.2.2.2.2.2.2.2.2.2)
def d (x:BX):cG:=⟨⟨x.1,x.2.1,x.2.2.1,x.2.2.2.1,x.2.2.2.2.1,x.cont.reverse,x.styn.reverse.map fun n=>⟨n,[],[]⟩,x.2.2.2.2.2.2.2.1,x.2.2.2.2.2.2.2.2.1,⟨x.2.2.2.2.2.2.2.2.2.1,x.2.2.2.2.2.2.2.2.2.2.1,x.2.2.2.2.2.2.2.2.2.2.2.1⟩,x.2.2.2.2.2.2.2.2.2.2.2.2.1,x.2.2.2.2.2.2.2.2.2.2.2.2.2.1⟩,fun k=>(x.names.2 k).map List.reverse,x.vals.reverse⟩
structure ok (x:BX) (n:Nat):Prop where
 c:x.cont.length≤n
 s:x.styn.length≤n
 v:x.vals.length≤n
 m:x.names.1≤n
 r:∀k r,x.names.2 k=some r→r.length≤n
end BX
def kk (l:List ByteArray) (t:T (XV×BX×Unit)):T (XV×BX×Unit):=l.foldr (fun k t=>.nd (Kt.ok .s k) t) t
def zu (x:BX):T (XV×BX×Unit):=.lf (FX (.tup []) x)
def stB (x:BX) (k nm:ByteArray) (v:aC):T (XV×BX×Unit):=
 .br (k.toList==aP.toList) (kk [cZ,bp,aZ] (zu (x.uScan v)))
 (.br (k.toList==au.toList) (kk [bV,bW] (zu (x.uScs v)))
 (.br (k.toList==ae.toList) (kk [bU] (zu (x.uPrec v)))
 (.br (k.toList==af.toList) (kk [cz,aM,bc,bP,az,cV,aU,cW] (.nd ((x.cont.length+1)*97≤140737488355328) (zu (x.uCont (cU nm v)))))
 (.br (k.toList==aD.toList) (.nd ((x.styn.length+1)*65≤140737488355328) (.nd ((x.vals.length+1)*97≤140737488355328) (zu (x.uSty nm v))))
 (.br (k.toList==aO.toList) (zu (x.uAud v))
 (.br (k.toList==aW.toList) (kk [dB] (zu (x.uCell v))) (zu x)))))))
def ke (k nm:ByteArray) (v:aC) (x:BX):BX:=
 if k=aP then x.uScan v else if k=au then x.uScs v else if k=ae then x.uPrec v else if k=af then x.uCont (cU nm v) else if k=aD then x.uSty nm v else if k=aO then x.uAud v else if k=aW then x.uCell v else x
theorem LN (k nm:ByteArray) (v:aC) (x:BX):(ke k nm v x).d=bE k nm v x.d:=by
 have e1:(x.uCont (cU nm v)).d={ x.d with e:={ x.d.e with cont:=x.d.e.cont++[cU nm v] } }:=congrArg (fun c=>({ x.d with e:={ x.d.e with cont:=c } }:cG)) (ab6 ..);have e2:(x.uSty nm v).d={ x.d with e:={ x.d.e with styl:=x.d.e.styl++[⟨nm,[],[]⟩] },vals:=x.d.vals++[v] }:=by
  have h1:(nm::x.styn).reverse.map (fun n=>(⟨n,[],[]⟩:aw))=x.d.e.styl++[⟨nm,[],[]⟩]:=by rw[ab6,adp];rfl
  have h2:(v::x.vals).reverse=x.d.vals++[v]:=ab6 ..;rw[←h1,←h2];rfl
 unfold ke bE;split
 ·rfl
 split
 ·rfl
 split
 ·rfl
 split
 ·exact e1
 split
 ·exact e2
 split
 ·rfl
 split
 ·rfl
 ·rfl
theorem IX {k nm:ByteArray} {v:aC} {x:BX} {n m:Nat} (h:x.ok n) (hm:n+1≤m):(ke k nm v x).ok m:=by
 obtain⟨h1,h2,h3,h4,h5⟩:=h;have h0:x.ok m:=⟨by omega,by omega,by omega,by omega,fun k r e=>by have:=h5 k r e;omega⟩;unfold ke;split
 ·exact⟨h0.1,h0.2,h0.3,h0.4,h0.5⟩
 split
 ·exact⟨h0.1,h0.2,h0.3,h0.4,h0.5⟩
 split
 ·exact⟨h0.1,h0.2,h0.3,h0.4,h0.5⟩
 split
 ·exact⟨by show x.cont.length+1≤m;omega,h0.2,h0.3,h0.4,h0.5⟩
 split
 ·exact⟨h0.1,by show x.styn.length+1≤m;omega,by show x.vals.length+1≤m;omega,h0.4,h0.5⟩
 split
 ·exact⟨h0.1,h0.2,h0.3,h0.4,h0.5⟩
 split
 ·exact⟨h0.1,h0.2,h0.3,h0.4,h0.5⟩
 ·exact h0
theorem FP {α β:Type} {F:α→β} {b:Bool} {X Y:T β} {P:Prop} [Decidable P] {c d:α} (hP:P↔b=true) (hX:X.hit (F c)) (hY:Y.hit (F d)):(T.br b X Y).hit (F (if P then c else d)):=by
 by_cases h:P
 ·rw[if_pos h];exact bf (hP.1 h) hX
 ·rw[if_neg h];exact bw (by cases b with|false=>rfl|true=>exact absurd (hP.2 rfl) h) hY
theorem po (x y:ByteArray):x=y↔(x.toList==y.toList)=true:=by rw[eu,decide_eq_true_iff]
theorem LO:fV Tryz.prog 97 pBd [(0,zA),(1,.st 1),(2,.st 14)] [(0,zA)] fun((x:BX),(b:av),(v:aC),_)=>.nd (x.ok 999999999998) (zu (ke b.kind b.name v x)):=
 kx (C:=CV6) (nL _ _) 99 [(0,zA),(1,.st 1),(2,.st 14)] [(0,zA)] (fun((x:BX),(b:av),(v:aC),_)=>stB x b.kind b.name v) (fun⟨(x:BX),(b:av),(v:aC),_⟩ r _ ⟨⟨h1,h2,h3,h4,_⟩,h⟩=>by
  obtain rfl:FX (.tup []) (ke b.kind b.name v x)=r:=h;unfold ke;refine FP (F:=FX (.tup [])) (po _ _) ⟨p9,p9,p9,rfl⟩ (FP (F:=FX (.tup [])) (po _ _) ⟨p9,p9,rfl⟩ (FP (F:=FX (.tup [])) (po _ _) ⟨p9,rfl⟩
   (FP (F:=FX (.tup [])) (po _ _) ⟨p9,p9,p9,p9,p9,p9,p9,p9,by omega,rfl⟩ (FP (F:=FX (.tup [])) (po _ _) ⟨by omega,by omega,rfl⟩ (FP (F:=FX (.tup [])) (po _ _) rfl (FP (F:=FX (.tup [])) (po _ _) ⟨p9,rfl⟩ rfl)))))))
  Tryz.func97
noncomputable def CV7:iZ Tryz.prog:=d9 Qs [⟨_,_,_,Oe⟩,⟨_,_,_,O5⟩] [⟨_,_,_,_,_,Mm⟩,⟨_,_,_,_,_,LO⟩]
abbrev aad:SS:=.box 110 [.d .str,.d .str,.d (.list (.st 0)),.d tI]
abbrev PS:=fc [.d .str,.d .str,.d (.list (.st 0)),.d tI]
noncomputable abbrev aiu:=Tryz.f65
abbrev blL:List (Nat×SS):=[(0,zA),(3,aad),(4,KS),(6,sV),(42,sD (.list (.st 0))),(43,sI),(44,sI)]
abbrev blO:List (Nat×SS):=[(0,zA),(3,aad),(4,KS),(6,sV)]
abbrev BlE:=LE blL blO [(0,zA)]
def fz:ao:=⟨⟨#[]⟩,[],0⟩
def blT (x:BX) (b:PS) (y:o4) (v:VX) (l:List ao) (a i:Int):T BlE:=
 .br (decide (i<a)) (.nd (0≤i∧i<l.length) (.nd (v.n 999999999999∧qT (l.getD i.toNat fz)) (.br (!((fl b.1 (l.getD i.toNat fz) v).1==0)) (.lf (.ret (AS (fl b.1 (l.getD i.toNat fz) v).1 (l.getD i.toNat fz).line) (x,())))
  (.nd (du (i+1)) (.lf (.back (x,b,y,(fl b.1 (l.getD i.toNat fz) v).2,l,a,i+1,()))))))) (.lf (.out (x,b,y,v,())))
def gN (kind:ByteArray):List ao→VX→eB×VX
 | [],v=>(⟨0,0⟩,v)
 | f::l,v=>if(fl kind f v).1≠0 then(⟨(fl kind f v).1,f.line⟩,(fl kind f v).2) else gN kind l (fl kind f v).2
theorem BJ (kind:ByteArray):∀(l:List ao) (v:VX),eY kind l v.v=((gN kind l v).1,(gN kind l v).2.v)
 | [],v=>rfl
 | f::l,v=>by
  unfold eY gN;rw[QP];split
  ·rfl
  ·exact BJ kind l _
def blR (x:BX) (b:PS) (y:o4) (q:eB×VX):T BlE:=.br (!(q.1.no==0)) (.lf (.ret (AS q.1.no q.1.line) (x,()))) (.lf (.out (x,b,y,q.2,())))
theorem acE:fO (Kh CV7 aiu pBd) 0 0 blL blO [(0,zA)] fun((x:BX),(b:PS),(y:o4),(v:VX),(l:List ao),(a:Int),(i:Int),_)=>
 .nd (0≤i∧i≤l.length∧a=l.length∧v.n i.toNat∧l.length≤274877906944∧∀f∈l,qT f) (blR x b y (gN b.1 (l.drop i.toNat) v)):=by
  refine fS _ (nL _ _) 99 0 0 blL blO [(0,zA)] (fun((x:BX),(b:PS),(y:o4),(v:VX),(l:List ao),(a:Int),(i:Int),_)=>blT x b y v l a i) (fun(_,_,_,_,(l:List ao),_,(i:Int),_)=>l.length-i.toNat) ?_;rintro⟨(x:BX),(b:PS),(y:o4),(v:VX),(l:List ao),(a:Int),(i:Int),_⟩ r _ ⟨⟨h0,h1,rfl,hv,hl,hf⟩,h⟩;obtain⟨j,rfl⟩:∃j:Nat,i=j:=⟨i.toNat,by omega⟩;rw[aaf] at h hv;by_cases hi:j<l.length
  ·rw[getD_drop fz hi] at h;replace h:(blR x b y (if(fl b.1 (l.getD j fz) v).1≠0 then(⟨(fl b.1 (l.getD j fz) v).1,(l.getD j fz).line⟩,(fl b.1 (l.getD j fz) v).2) else gN b.1 (l.drop (j+1)) (fl b.1 (l.getD j fz) v).2)).hit r:=h;have hx:qT (l.getD j fz):=by
    rw[aar,aac hi];exact hf _ (ab7 _)
   have hn:(0:Int)≤j∧(j:Int)<l.length:=⟨by omega,by omega⟩;have NF:v.n 999999999999:=⟨by have:=hv.1;omega,by have:=hv.2.1;omega,by have:=hv.2.2;omega⟩;have hb:∀q,(T.br (!((fl b.1 (l.getD j fz) v).1==0)) (.lf (.ret (AS (fl b.1 (l.getD j fz) v).1 (l.getD j fz).line) (x,()))) (.nd (du ((j:Int)+1)) (.lf (.back (x,b,y,(fl b.1 (l.getD j fz) v).2,l,(l.length:Int),(j:Int)+1,())))):T BlE).hit q→(blT x b y v l l.length j).hit q:=fun q hq=>
    bf (decide_eq_true hn.2) ⟨hn,by rw[aaf];exact⟨⟨NF,hx⟩,hq⟩⟩
   by_cases h3:(fl b.1 (l.getD j fz) v).1=0
   ·rw[if_neg (by simpa using h3)] at h;refine⟨_,hb _ (bw (by rw[h3];rfl) ⟨⟨by omega,by omega⟩,rfl⟩),by show l.length-((j:Int)+1).toNat<l.length-j;omega,⟨by omega,by omega,rfl,?_,hl,hf⟩,h⟩;exact QQ hv
   ·rw[if_pos h3] at h;rw[←(hB h).elim (fun q=>q.2) (fun q=>absurd q.1 (by rw[beq_false_of_ne h3];decide))];exact⟨_,hb _ (bf (by rw[beq_false_of_ne h3];rfl) rfl),rfl⟩
  ·rw[aa5 (by omega)] at h;exact⟨_,bw (decide_eq_false (by omega)) rfl,h.2 rfl⟩
def VX.zero:VX:=((0,fun _=>none),(0,fun _=>none),(0,fun _=>none),false,[],[],⟨#[]⟩,())
def BX.nam (x:BX) (k m:ByteArray):BX:=(x.1,x.2.1,x.2.2.1,x.2.2.2.1,x.2.2.2.2.1,x.2.2.2.2.2.1,x.2.2.2.2.2.2.1,x.2.2.2.2.2.2.2.1,x.2.2.2.2.2.2.2.2.1,x.2.2.2.2.2.2.2.2.2.1,x.2.2.2.2.2.2.2.2.2.2.1,x.2.2.2.2.2.2.2.2.2.2.2.1,x.2.2.2.2.2.2.2.2.2.2.2.2.1,x.2.2.2.2.2.2.2.2.2.2.2.2.2.1,(x.names.1+1,mC .s x.names.2 k (m::(x.names.2 k).getD [])),x.2.2.2.2.2.2.2.2.2.2.2.2.2.2.2)
def aix (b:av) (x:BX) (v:VX):T (XV×BX×Unit):=.br (!((eH b.kind b.line v.v).no==0)) (.lf (FX (aE (eH b.kind b.line v.v)) x)) (.nd (x.ok 999999999998) (.lf (FX (AS 0 0) (ke b.kind b.name v.v x))))
def aiA (b:av) (x:BX) (q:eB×VX):T (XV×BX×Unit):=.nd ((0:Int)≤0∧(0:Int)≤b.fields.length∧(b.fields.length:Int)=b.fields.length∧VX.zero.n 0∧b.fields.length≤274877906944∧∀f∈b.fields,qT f) (.br (!(q.1.no==0)) (.lf (FX (aE q.1) x)) (aix b x q.2))
def aiC (b:av) (x:BX):T (XV×BX×Unit):=.nd (dI b.kind∧dI b.name) (.br (!(gA b.kind b.name (x.d.of b.kind)==0)) (.lf (FX (AS (gA b.kind b.name (x.d.of b.kind)) b.line) x))
 (.nd (Kt.ok .s b.kind) (.nd ((((x.names.2 b.kind).getD []).length+1)*17≤140737488355328) (.nd (Kt.ok .s b.kind∧b.kind=b.kind∧x.names.1<1000000000000) (aiA b (x.nam b.kind b.name) (gN b.kind b.fields VX.zero))))))
def fM (b:av) (x:BX):eB×BX:=
 if gA b.kind b.name (x.d.of b.kind)≠0 then(⟨gA b.kind b.name (x.d.of b.kind),b.line⟩,x)
 else if(gN b.kind b.fields VX.zero).1.no≠0 then((gN b.kind b.fields VX.zero).1,x.nam b.kind b.name)
 else if(eH b.kind b.line (gN b.kind b.fields VX.zero).2.v).no≠0 then(eH b.kind b.line (gN b.kind b.fields VX.zero).2.v,x.nam b.kind b.name)
 else(⟨0,0⟩,ke b.kind b.name (gN b.kind b.fields VX.zero).2.v (x.nam b.kind b.name))
theorem BX.d_nam (x:BX) (k m:ByteArray):(x.nam k m).d=x.d.named k m:=by
 have h:(fun t=>(mC .s x.names.2 k (m::(x.names.2 k).getD []) t).map List.reverse)=setF x.d.names k (x.d.of k++[m]):=by
  refine(congrArg (fun g:ByteArray→Option (List ByteArray)=>fun t=>(g t).map List.reverse) (Js x.names.2 k (m::(x.names.2 k).getD []))).trans ?_;funext t
  unfold setF;by_cases e:t=k
  ·subst e;rw[if_pos rfl,if_pos rfl];show some (m::(x.names.2 t).getD []).reverse=_;rw[ab6];congr 2
   show _=((x.names.2 t).map List.reverse).getD [];cases x.names.2 t<;>rfl
  ·rw[if_neg e,if_neg e];rfl
 exact congrArg (fun f=>({ x.d with names:=f }:cG)) h
theorem BX.ok_nam {x:BX} {n:Nat} (k m:ByteArray) (h:x.ok n):(x.nam k m).ok (n+1):=by
 obtain⟨h1,h2,h3,h4,h5⟩:=h;refine⟨Nat.le_succ_of_le h1,Nat.le_succ_of_le h2,Nat.le_succ_of_le h3,Nat.succ_le_succ h4,fun t r e=>?_⟩;have e:setF x.names.2 k (m::(x.names.2 k).getD []) t=some r:=(congrFun (Js x.names.2 k (m::(x.names.2 k).getD [])) t).symm.trans e;unfold setF at e;by_cases q:t=k
 ·subst q;rw[if_pos rfl] at e;obtain rfl:=aae e;cases hz:x.names.2 t with
  | none=>simp
  | some z=>have:=h5 t z hz;simpa using this
 ·rw[if_neg q] at e;exact Nat.le_succ_of_le (h5 t r e)
theorem Pg (b:av) (x:BX):ig b x.d=((fM b x).1,(fM b x).2.d):=by
 have hz:eY b.kind b.fields aC.zero=_:=BJ b.kind b.fields VX.zero;unfold ig fM;rw[hz];split
 ·rfl
 split
 ·rw[BX.d_nam]
 split
 ·rw[BX.d_nam]
 ·rw[LN,BX.d_nam]
theorem KB {b:av} {x:BX} {n:Nat} (h:x.ok n):(fM b x).2.ok (n+2):=by
 have h1:=BX.ok_nam b.kind b.name h;have up:∀{y:BX} {m:Nat},y.ok m→m≤n+2→y.ok (n+2):=fun h hm=>⟨aa7 h.1 hm,aa7 h.2 hm,aa7 h.3 hm,aa7 h.4 hm,fun k r e=>aa7 (h.5 k r e) hm⟩;unfold fM;split
 ·exact up h (by omega)
 split
 ·exact up h1 (by omega)
 split
 ·exact up h1 (by omega)
 ·exact IX h1 (aaW _)
theorem TF:fV Tryz.prog 65 pBd [(0,zA),(1,.st 1)] [(0,zA)] fun((x:BX),(b:av),_)=>.nd (gZ b∧x.ok 999999999997) (.lf (FX (aE (fM b x).1) (fM b x).2)):=
 kx (C:=CV7) ((nL _ _).add 0 _ acE) 99 [(0,zA),(1,.st 1)] [(0,zA)] (fun((x:BX),(b:av),_)=>aiC b x) (fun⟨(x:BX),(b:av),_⟩ r _ ⟨⟨⟨s1,s2,s3,s4⟩,hx⟩,h⟩=>by
  obtain rfl:FX (aE (fM b x).1) (fM b x).2=r:=h;refine⟨⟨s1,s2⟩,?_⟩;unfold fM;by_cases h1:gA b.kind b.name (x.d.of b.kind)=0
  ·rw[if_neg (by simpa using h1)];refine bw (by rw[h1];rfl) ⟨s1.kt,?_,⟨s1.kt,rfl,by have:=hx.m;omega⟩,⟨by omega,by omega,rfl,⟨aaW _,aaW _,aaW _⟩,s3,fun f hf=>⟨(s4 f hf).1.1,(s4 f hf).1.2.2,(s4 f hf).1.2.1⟩⟩,?_⟩
   ·cases hz:x.names.2 b.kind with
    | none=>decide
    | some z=>have:=hx.r _ z hz;show(z.length+1)*17≤_;omega
   by_cases h2:(gN b.kind b.fields VX.zero).1.no=0
   ·rw[if_neg (by simpa using h2)];refine bw (by rw[h2];rfl) ?_;by_cases h3:(eH b.kind b.line (gN b.kind b.fields VX.zero).2.v).no=0
    ·rw[if_neg (by simpa using h3)];exact bw (by rw[h3];rfl) ⟨BX.ok_nam _ _ hx,rfl⟩
    ·rw[if_pos h3];exact bf (by rw[beq_false_of_ne h3];rfl) rfl
   ·rw[if_pos h2];exact bf (by rw[beq_false_of_ne h2];rfl) rfl
  ·rw[if_pos h1];exact bf (by rw[beq_false_of_ne h1];rfl) rfl) Tryz.func65
theorem JE {w:World} {S:Nat→Prop} {v:Value} {x:ah} (h:SV w S v x) (p:Nat) (nm:ByteArray) (hp:w.cell? ⟨p,0,none⟩=some (.string nm)) : Calls Tryz.prog 100 #[v,.pointer (some ⟨p,0,none⟩)] w (j5 w (.bool (decide (x.name=nm)))):=by
 obtain⟨cs,rfl,A,n,c,rfl,_⟩:=h;have cI:Below w.heap.size w (w.alloc (.cells #[.string x.name,.slice A n c,.int .i64 x.method,.int .i64 x.seats,.int .i64 x.ranks,.int .i64 x.digits,.int .i64 x.ties,.int .i64 x.over,.int .i64 x.skip] 95)):=(Below.refl _ _).alloc (aaW _) _;have tw:dy (w.alloc (.cells #[.string x.name,.slice A n c,.int .i64 x.method,.int .i64 x.seats,.int .i64 x.ranks,.int .i64 x.digits,.int .i64 x.ties,.int .i64 x.over,.int .i64 x.skip] 95)) w.heap.size 95 #[.string x.name,.slice A n c,.int .i64 x.method,.int .i64 x.seats,.int .i64 x.ranks,.int .i64 x.digits,.int .i64 x.ties,.int .i64 x.over,.int .i64 x.skip]:=dy.new _ _ _;obtain⟨w1,fX⟩:∃q,w.alloc (.cells #[.string x.name,.slice A n c,.int .i64 x.method,.int .i64 x.seats,.int .i64 x.ranks,.int .i64 x.digits,.int .i64 x.ties,.int .i64 x.over,.int .i64 x.skip] 95)=q:=⟨_,rfl⟩;rw[fX] at cI tw;have c0:w1.cell? ⟨w.heap.size,0,none⟩=some (.string x.name):=tw.cell 0;have cp:w1.cell? ⟨p,0,none⟩=some (.string nm):=(cI.cell (World.block_lt_of_cell? w _ hp)).trans hp;have oq:=zH fX;have fy:=zH cI;clear fX cI tw hp;go_enter Tryz.func100,Tryz.ntmps100;by_cases hn:x.name=nm
 ·have Xp:(x.name.toList==nm.toList)=true:=by rw[hn];simp
  rw[decide_eq_true hn];clear hn;go_upto_region 1 with(fail);rw[oq.out];go_wp2_with fail;go_ret
  exact⟨rfl,fy.out⟩
 ·have Xp:(x.name.toList==nm.toList)=false:=(Lib.bytes_beq_false_iff _ _).2 hn;rw[decide_eq_false hn];clear hn;go_upto_region 1 with(fail);rw[oq.out];go_wp2_with fail;go_ret
  exact⟨rfl,fy.out⟩
theorem Sb {w:World} {S:Nat→Prop} {A:Option Addr} {n c:Nat} {xs:List ah} (h:RS w S A n c xs) (hS:∀b,S b→b<w.heap.size) (p:Nat) (nm:ByteArray) (hp:w.cell? ⟨p,0,none⟩=some (.string nm)) : Calls Tryz.prog 99 #[.slice A n c,.func (.func 100) #[] #[.pointer (some ⟨p,0,none⟩)]] w (j5 w (.int .i64 (cA nm xs 0))):=by
 obtain⟨z,hz⟩:∃z,cA nm xs 0=z:=⟨_,rfl⟩;rw[hz];have fA:=hz.symm;have Hq:=h.max;have H1:=zH h;have HZ:=zH fA;have Ec:=zH h.len;have HP:=zH hp;clear h hz fA hp;go_enter Tryz.func99,Tryz.ntmps99;go_wp2_with fail;go_loopw [8] (fun iv wr=>∃k:Nat,iv=.int .i64 k∧k≤n∧z=cA nm (xs.drop k) k∧Below w.heap.size w wr) (fun iv _=>n-(intOf iv).toNat)
 case atStart=>exact⟨0,rfl,abS _,by simpa using HZ.out,Below.refl _ _⟩
 case round=>
  clear HZ;obtain⟨k,rfl,hk,E9,hb⟩:=hrel;have PK:=zH E9;have HB:=zH hb;have HR:=zH (H1.out.below hb hS);clear E9 hb;by_cases hlt:k<n
  ·have jJ:(k:Int)<(n:Int):=by omega
   obtain⟨b,o,x,cs,rfl,Bf,hx,hr,UP⟩:=HR.out.load_at (fun b h=>abw (hS b h) HB.out.size) hlt;have NV:(k:Int)≤(c:Int):=by have:=HR.out.cap;omega
   have fu:z=if x.name=nm then(k:Int) else cA nm (xs.drop (k+1)) (k+1):=by rw[PK.out,ky hx];rfl
   have ka:=zH fu;obtain⟨A3,n3,c3,rfl,x1⟩:=hr;have iF:=UP wr (Below.refl _ _);have r0:wr.cell? ⟨b,o+k*9,none⟩=some (.string x.name):=iF.1 _ rfl;have r1:wr.cell? ⟨b,o+k*9+1,none⟩=some (.slice A3 n3 c3):=iF.2 1 _ rfl;have r2:wr.cell? ⟨b,o+k*9+2,none⟩=some (.int .i64 x.method):=iF.2 2 _ rfl;have r3:wr.cell? ⟨b,o+k*9+3,none⟩=some (.int .i64 x.seats):=iF.2 3 _ rfl;have r4:wr.cell? ⟨b,o+k*9+4,none⟩=some (.int .i64 x.ranks):=iF.2 4 _ rfl;have r5:wr.cell? ⟨b,o+k*9+5,none⟩=some (.int .i64 x.digits):=iF.2 5 _ rfl;have r6:wr.cell? ⟨b,o+k*9+6,none⟩=some (.int .i64 x.ties):=iF.2 6 _ rfl;have r7:wr.cell? ⟨b,o+k*9+7,none⟩=some (.int .i64 x.over):=iF.2 7 _ rfl;have r8:wr.cell? ⟨b,o+k*9+8,none⟩=some (.int .i64 x.skip):=iF.2 8 _ rfl;have hpr:wr.cell? ⟨p,0,none⟩=some (.string nm):=(HB.out.cell (World.block_lt_of_cell? w _ HP.out)).trans HP.out;have HC:=zH (JE (w:=wr) (S:=S) (x:=x) ⟨_,rfl,A3,n3,c3,rfl,x1⟩ p nm hpr);clear iF UP hx fu x1 hpr;go_wp2_with fail;refine HC.out.mono ?_;rintro e w3 ⟨rfl,kD⟩;have mg:=zH (ak HB.out kD);clear kD;by_cases hn:x.name=nm
   ·rw[decide_eq_true hn];have bj:z=(k:Int):=by rw[ka.out,if_pos hn]
    have dL:=zH bj;clear bj hn;go_wp2_with fail;go_ret
    exact⟨by rw[dL.out];rfl,mg.out⟩
   ·rw[decide_eq_false hn];have bj:z=cA nm (xs.drop (k+1)) (k+1):=by rw[ka.out,if_neg hn]
    have dL:=zH bj;clear bj hn;go_wp2_with fail;go_roundw
    case rel=>exact⟨k+1,by go_num,by omega,dL.out,mg.out⟩
    case measure=>simp[intOf];omega
  ·have gM:k=n:=by omega
   have bj:z= -1:=by
    rw[PK.out,aa5 (by rw[Ec.out];omega)];rfl
   have dL:=zH bj;clear bj gM;go_wp2_with fail;go_ret
   exact⟨by rw[dL.out];rfl,HB.out⟩
abbrev aa1:FuncId:=100
theorem Nx:ax Tryz.prog 99 false (aX [(0,sD (.list (.st 3))),(1,.cl aa1 .str)] fun((l:List ah),(s:ByteArray),_)=>.lf (aI (cA s l 0))):=
 gr fun w S x vs r hS he hl hr=>by
  obtain⟨(l:List ah),(s:ByteArray),_⟩:=x;obtain⟨v,h1,A,q,c,h2,h3,_⟩:=he 0 (.one (.list (.st 3) l false)) aaS;obtain⟨v',i9,b,cs,hb,Bg,J5,h4'⟩:=he 1 (.one (.cl aa1 .str s)) (aa9 _ aaS);obtain rfl:=hr
  match vs,hl,h1,i9 with
  | [u,u'],_,h1,i9=>
   injection h1 with h1
   injection i9 with i9
   subst h1 i9 h2 Bg;obtain rfl:cs=[.string s]:=J5;exact Calls.mono (Sb h3 hS b s (h4' 0 _ rfl)) fun _ _ h=>FW rfl h
theorem Ot:ax Tryz.prog 101 false (aX [(0,sD (.list .bool)),(1,sB)] fun((l:List Bool),(b:Bool),_)=>.lf (aB (l.contains b))):=
 gr fun w S x vs r hS he hl hr=>by
  obtain⟨(l:List Bool),(s:Bool),_⟩:=x;obtain⟨v,h1,A,q,c,h2,h3,_⟩:=he 0 (.one (.list .bool l false)) aaS;obtain⟨v',i9,Bg,_⟩:=he 1 (aB s) (aa9 _ aaS);obtain rfl:=hr
  match vs,hl,h1,i9 with
  | [u,u'],_,h1,i9=>
   injection h1 with h1
   injection i9 with i9
   subst h1 i9 h2 Bg;exact Calls.mono (SB h3 s) fun _ _ h=>FW rfl ⟨h.1,h.2▸Below.refl _ _⟩
noncomputable def CV8:iZ Tryz.prog:=d9 Qs [⟨_,_,_,Hm⟩,⟨_,_,_,Nx⟩,⟨_,_,_,Ot⟩] []
noncomputable abbrev aaR:=Tryz.f67
abbrev csZ:List CS:=[.d .str,.d tI,.d tI,.d tI,.d (.list .str),.own (.st 3) 95,.zc (.st 4) (.st 10) 97,.d tI,.d tI,.d .bool,.d (.list .limb),.d (.list .limb),.d tI,.d .str,.mr .s .str 9,.d (.list (.st 14))]
abbrev csO:List CS:=[.d .str,.d tI,.d tI,.d tI,.d (.list .str),.own (.st 3) 95,.zip (.st 4) (.st 10) 97 [.d .str,.own tI 3,.own tI 3],.d tI,.d tI,.d .bool,.d (.list .limb),.d (.list .limb),.d tI,.d .str,.mr .s .str 9,.d (.list (.st 14))]
abbrev DY:SS:=.box 135 csZ
abbrev sBo:SS:=.box 135 csO
abbrev csD:List CS:=[.d (.mp .s tI),.d (.mp .s (.list .str)),.d (.mp .s tI),.d .bool,.d (.list .limb),.d (.list .limb),.d .str]
abbrev sVd:SS:=.box 168 csD
abbrev sUs:SS:=.c (.own .bool 4)
noncomputable abbrev RA:Rg Tryz.prog aaR.ntmps:=Am (fRg CV8 aaR [0] [(2,[23])]) [(5,U4 0 6),(11,oa 0 6),(13,oa 0 6),(22,oa 0 6),(25,oa 0 6)] [(2,Ow 0 6 (.st 4) (.st 10))]
abbrev BZ:=fc csZ
abbrev BO:=fc csO
abbrev Qj:=fc csD
abbrev ZIn:=Nat×List aw×(ByteArray×List Int×List Int×Unit)×List ByteArray
namespace BO
abbrev prec (x:BO):List ByteArray:=x.2.2.2.2.1
abbrev cont (x:BO):List ah:=x.2.2.2.2.2.1
abbrev z (x:BO):ZIn:=x.2.2.2.2.2.2.1
abbrev ps (x:BO):List Int:=x.z.2.2.1.2.1
abbrev cs (x:BO):List Int:=x.z.2.2.1.2.2.1
def withP (x:BO) (ps cs:List Int):BO:=(x.1,x.2.1,x.2.2.1,x.2.2.2.1,x.2.2.2.2.1,x.2.2.2.2.2.1,(x.z.1,x.z.2.1,(x.z.2.2.1.1,ps,cs,()),x.z.2.2.2),x.2.2.2.2.2.2.2)
def cl (x:BO):BZ:=(x.1,x.2.1,x.2.2.1,x.2.2.2.1,x.2.2.2.2.1,x.2.2.2.2.2.1,(x.z.1,x.z.2.1++[⟨x.z.2.2.1.1,x.ps.reverse,x.cs.reverse⟩],x.z.2.2.2),x.2.2.2.2.2.2.2)
end BO
abbrev Qj.ln (v:Qj) (k:ByteArray):Int:=(v.2.2.1 k).getD (0:Int)
abbrev Y6:List (Nat×SS):=[(0,sBo),(2,KS),(3,sUs),(4,sI),(5,sVd),(6,.sb 2 3),(23,sD (.list (.st 14))),(24,sI),(25,sI),(39,sL),(40,sI),(41,sI)]
abbrev k2L:List (Nat×SS):=[(0,sBo),(2,KS),(3,sUs),(4,sI),(5,sVd),(6,.sb 2 3),(23,sD (.list (.st 14))),(24,sI),(25,sI),(84,sL),(85,sI),(86,sI)]
abbrev Nq:List (Nat×SS):=[(0,sBo),(2,KS),(3,sUs),(4,sI),(5,sVd),(6,.sb 2 3),(23,sD (.list (.st 14))),(24,sI),(25,sI)]
section
variable {L:Type} (back:BO→List Bool→L) (out:BO→List Bool→L) (ret:eB→BZ→L) (v:Qj)
def lnE (k:ByteArray) (x:BO) (no:Int):T L:=.nd (Kt.ok .s k) (.lf (ret ⟨no,v.ln k⟩ x.cl))
def k1T (x:BO) (us:List Bool) (l:List ByteArray) (a j:Int):T L:=.br (decide (j<a)) (.nd (0≤j∧j<l.length) (.br (decide (Lib.idxOfS x.prec (l.getD j.toNat ⟨#[]⟩)<0)) (lnE ret v ae x 2)
 (.nd (0≤Lib.idxOfS x.prec (l.getD j.toNat ⟨#[]⟩)∧Lib.idxOfS x.prec (l.getD j.toNat ⟨#[]⟩)<us.length) (.br (us.reverse.getD (Lib.idxOfS x.prec (l.getD j.toNat ⟨#[]⟩)).toNat false) (lnE ret v ae x 3)
 (.nd (0≤Lib.idxOfS x.prec (l.getD j.toNat ⟨#[]⟩)∧Lib.idxOfS x.prec (l.getD j.toNat ⟨#[]⟩)<us.length) (.nd ((x.ps.length+1)*9≤140737488355328) (.nd (du (j+1)) (.lf (back (x.withP (Lib.idxOfS x.prec (l.getD j.toNat ⟨#[]⟩)::x.ps) x.cs) (us.reverse.set (Lib.idxOfS x.prec (l.getD j.toNat ⟨#[]⟩)).toNat true).reverse))))))))) (.lf (out x us))
def k2T (x:BO) (us:List Bool) (l:List ByteArray) (a j:Int):T L:=.br (decide (j<a)) (.nd (0≤j∧j<l.length) (.br (decide (cA (l.getD j.toNat ⟨#[]⟩) x.cont.reverse 0<0)) (lnE ret v ay x 2)
 (.nd ((x.cs.length+1)*9≤140737488355328) (.nd (du (j+1)) (.lf (back (x.withP x.ps (cA (l.getD j.toNat ⟨#[]⟩) x.cont.reverse 0::x.cs)) us)))))) (.lf (out x us))
def Y2 (x:BO) (u:List Bool) (ps cs:List Int) (e:eB):T L:=.br (e.no==0) (.lf (out (x.withP ps.reverse cs.reverse) u.reverse)) (.lf (ret e (x.withP ps.reverse cs.reverse).cl))
end
def qG (prec:List ByteArray) (line:Int):List ByteArray→List Bool→List Int→(List Bool×List Int)×eB
 | [],u,a=>((u,a),⟨0,0⟩)
 | s::l,u,a=>if Lib.idxOfS prec s<0 then((u,a),⟨2,line⟩) else if u.getD (Lib.idxOfS prec s).toNat false=true then((u,a),⟨3,line⟩) else qG prec line l (u.set (Lib.idxOfS prec s).toNat true) (a++[Lib.idxOfS prec s])
def Ac (cont:List ah) (line:Int):List ByteArray→List Int→List Int×eB
 | [],a=>(a,⟨0,0⟩)
 | s::l,a=>if cA s cont 0<0 then(a,⟨2,line⟩) else Ac cont line l (a++[cA s cont 0])
abbrev eF (e:eB):XV:=.agg [.val (.int .i64 e.no),.sym (.int .i64 e.line)]
section
variable (y:o4) (c:Int) (v:Qj) (vs:List aC) (n i:Int) (l:List ByteArray) (a j:Int)
def WI (x:BO) (us:List Bool):LE Y6 Nq [(0,DY)]:=.back (x,y,us,c,v,(),vs,n,i,l,a,j+1,())
def Hi (x:BO) (us:List Bool):LE Y6 Nq [(0,DY)]:=.out (x,y,us,c,v,(),vs,n,i,())
def yx (e:eB) (x:BZ):LE Y6 Nq [(0,DY)]:=.ret (eF e) (x,())
def WH (x:BO) (us:List Bool):LE k2L Nq [(0,DY)]:=.back (x,y,us,c,v,(),vs,n,i,l,a,j+1,())
def Np (x:BO) (us:List Bool):LE k2L Nq [(0,DY)]:=.out (x,y,us,c,v,(),vs,n,i,())
def No (e:eB) (x:BZ):LE k2L Nq [(0,DY)]:=.ret (eF e) (x,())
end
def lnP (x:BO) (us:List Bool) (r:List Int) (l:List ByteArray) (a j:Int):Prop:=0≤j∧j≤l.length∧a=l.length∧us.length=x.prec.length∧(r.length:Int)=j∧l.length≤1099511627776
theorem R9 (l:List ByteArray) (s:ByteArray):Lib.idxOfS l s<0∨(0≤Lib.idxOfS l s∧Lib.idxOfS l s<l.length):=by
 have:=iU s l 0;have h2:∀(l:List ByteArray) (i:Nat),Lib.idxFromS l s i<0∨Lib.idxFromS l s i<i+l.length:=by
  intro l;induction l with
  | nil=>intro i;exact .inl (by show(-1:Int)<0;omega)
  | cons x l ih=>
   intro i;unfold Lib.idxFromS;rw[abs];split
   ·exact .inr (by omega)
   ·rcases ih (i+1) with h|h
    ·exact .inl h
    ·exact .inr (by omega)
 have h3:=h2 l 0;unfold Lib.idxOfS;omega
theorem Rx:fO RA 1 2 Y6 Nq [(0,DY)] fun((x:BO),(y:o4),(us:List Bool),(c:Int),(v:Qj),_,(vs:List aC),(n:Int),(i:Int),(l:List ByteArray),(a:Int),(j:Int),_)=>
 .nd (lnP x us x.ps l a j) (Y2 (Hi y c v vs n i) yx x (qG x.prec (v.ln ae) (l.drop j.toNat) us.reverse x.ps.reverse).1.1 (qG x.prec (v.ln ae) (l.drop j.toNat) us.reverse x.ps.reverse).1.2 x.cs.reverse (qG x.prec (v.ln ae) (l.drop j.toNat) us.reverse x.ps.reverse).2):=by
  refine fS _ (nL _ _) 99 1 2 Y6 Nq [(0,DY)] (fun((x:BO),(y:o4),(us:List Bool),(c:Int),(v:Qj),_,(vs:List aC),(n:Int),(i:Int),(l:List ByteArray),(a:Int),(j:Int),_)=>k1T (WI y c v vs n i l a j) (Hi y c v vs n i) yx v x us l a j)
   (fun(_,_,_,_,_,_,_,_,_,(l:List ByteArray),_,(j:Int),_)=>l.length-j.toNat) ?_
  rintro⟨(x:BO),(y:o4),(us:List Bool),(c:Int),(v:Qj),⟨⟩,(vs:List aC),(n:Int),(i:Int),(l:List ByteArray),(a:Int),(j:Int),_⟩ r _ ⟨⟨h0,h1,rfl,h5,h6,h7⟩,hr⟩;have hr:(Y2 (Hi y c v vs n i) yx x _ _ _ _).hit r:=hr;obtain⟨k,rfl⟩:∃k:Nat,j=k:=⟨j.toNat,by omega⟩;rw[aaf] at hr;have ND:x.withP x.ps.reverse.reverse x.cs.reverse.reverse=x:=by rw[aal,aal];rfl
  show∃q,(k1T _ _ _ v x us l l.length k).hit q∧_;unfold k1T;by_cases hk:k<l.length
  ·rw[getD_drop (⟨#[]⟩:ByteArray) hk,qG] at hr;rw[aaf];have hE:∀no:Int,no≠0→(Y2 (Hi y c v vs n i) yx x us.reverse x.ps.reverse x.cs.reverse ⟨no,v.ln ae⟩).hit r→(lnE (L:=LE Y6 Nq [(0,DY)]) yx v ae x no).hit r∧yx ⟨no,v.ln ae⟩ x.cl=r:=fun no hn h=>by
    have h:=h.2 (beq_false_of_ne hn);rw[ND] at h;exact⟨⟨p9,h⟩,h⟩
   have hn:(0:Int)≤k∧(k:Int)<l.length:=⟨by omega,by omega⟩;split at hr
   ·rename_i hlt;obtain⟨q1,rfl⟩:=hE 2 (by decide) hr;exact⟨_,bf (decide_eq_true hn.2) ⟨hn,bf (decide_eq_true hlt) q1⟩,rfl⟩
   ·rename_i hge;have hx:=(R9 x.prec (l.getD k ⟨#[]⟩)).resolve_left hge;split at hr
    ·rename_i hu;obtain⟨q1,rfl⟩:=hE 3 (by decide) hr;exact⟨_,bf (decide_eq_true hn.2) ⟨hn,bw (decide_eq_false hge) ⟨⟨hx.1,by omega⟩,bf hu q1⟩⟩,rfl⟩
    ·rename_i hu;refine⟨_,bf (decide_eq_true hn.2) ⟨hn,bw (decide_eq_false hge) ⟨⟨hx.1,by omega⟩,bw (by simpa using hu) ⟨⟨hx.1,by omega⟩,by omega,⟨by omega,by omega⟩,rfl⟩⟩⟩,?_,?_⟩
     ·show l.length-(k+1)<l.length-k;omega
     ·refine⟨⟨by omega,by omega,rfl,?_,?_,h7⟩,?_⟩
      ·rw[aaH,abN,aaH];exact h5
      ·show((x.ps.length+1:Nat):Int)=(k:Int)+1;omega
      ·show(Y2 _ _ _ _ _ _ _).hit r;rw[aal];have e:(Lib.idxOfS x.prec (l.getD k ⟨#[]⟩)::x.ps).reverse=x.ps.reverse++[Lib.idxOfS x.prec (l.getD k ⟨#[]⟩)]:=by simp
       rw[←e] at hr;exact hr
  ·rw[aa5 (by omega),qG] at hr;have h:=hr.1 rfl;rw[ND,aal] at h;obtain rfl:=h;exact⟨_,bw (decide_eq_false (by omega)) rfl,rfl⟩
theorem Rw:fO RA 2 5 k2L Nq [(0,DY)] fun((x:BO),(y:o4),(us:List Bool),(c:Int),(v:Qj),_,(vs:List aC),(n:Int),(i:Int),(l:List ByteArray),(a:Int),(j:Int),_)=>
 .nd (lnP x us x.cs l a j) (Y2 (Np y c v vs n i) No x us.reverse x.ps.reverse (Ac x.cont.reverse (v.ln ay) (l.drop j.toNat) x.cs.reverse).1 (Ac x.cont.reverse (v.ln ay) (l.drop j.toNat) x.cs.reverse).2):=by
  refine fS _ (nL _ _) 99 2 5 k2L Nq [(0,DY)] (fun((x:BO),(y:o4),(us:List Bool),(c:Int),(v:Qj),_,(vs:List aC),(n:Int),(i:Int),(l:List ByteArray),(a:Int),(j:Int),_)=>k2T (WH y c v vs n i l a j) (Np y c v vs n i) No v x us l a j)
   (fun(_,_,_,_,_,_,_,_,_,(l:List ByteArray),_,(j:Int),_)=>l.length-j.toNat) ?_
  rintro⟨(x:BO),(y:o4),(us:List Bool),(c:Int),(v:Qj),⟨⟩,(vs:List aC),(n:Int),(i:Int),(l:List ByteArray),(a:Int),(j:Int),_⟩ r _ ⟨⟨h0,h1,rfl,h5,h6,h7⟩,hr⟩;have hr:(Y2 (Np y c v vs n i) No x _ _ _ _).hit r:=hr;obtain⟨k,rfl⟩:∃k:Nat,j=k:=⟨j.toNat,by omega⟩;rw[aaf] at hr;have ND:x.withP x.ps.reverse.reverse x.cs.reverse.reverse=x:=by rw[aal,aal];rfl
  show∃q,(k2T _ _ _ v x us l l.length k).hit q∧_;unfold k2T;by_cases hk:k<l.length
  ·rw[getD_drop (⟨#[]⟩:ByteArray) hk,Ac] at hr;rw[aaf];have hn:(0:Int)≤k∧(k:Int)<l.length:=⟨by omega,by omega⟩;split at hr
   ·rename_i hlt;have h:=hr.2 rfl;rw[ND] at h;obtain rfl:=h;exact⟨_,bf (decide_eq_true hn.2) ⟨hn,bf (decide_eq_true hlt) ⟨p9,rfl⟩⟩,rfl⟩
   ·rename_i hge;refine⟨_,bf (decide_eq_true hn.2) ⟨hn,bw (decide_eq_false hge) ⟨by omega,⟨by omega,by omega⟩,rfl⟩⟩,?_,?_⟩
    ·show l.length-(k+1)<l.length-k;omega
    ·refine⟨⟨by omega,by omega,rfl,h5,?_,h7⟩,?_⟩
     ·show((x.cs.length+1:Nat):Int)=(k:Int)+1;omega
     ·have e:(cA (l.getD k ⟨#[]⟩) x.cont.reverse 0::x.cs).reverse=x.cs.reverse++[cA (l.getD k ⟨#[]⟩) x.cont.reverse 0]:=by simp
      rw[←e] at hr;exact hr
  ·rw[aa5 (by omega),Ac] at hr;have h:=hr.1 rfl;rw[ND,aal] at h;obtain rfl:=h;exact⟨_,bw (decide_eq_false (by omega)) rfl,rfl⟩
abbrev k0L:List (Nat×SS):=[(0,DY),(2,KS),(3,sUs),(23,sD (.list (.st 14))),(24,sI),(25,sI)]
abbrev k0O:List (Nat×SS):=[(0,DY),(2,KS),(3,sUs)]
abbrev K0:=LE k0L k0O [(0,DY)]
abbrev ZcB:=Nat×List aw×List ByteArray
namespace BZ
abbrev prec (x:BZ):List ByteArray:=x.2.2.2.2.1
abbrev cont (x:BZ):List ah:=x.2.2.2.2.2.1
abbrev z (x:BZ):ZcB:=x.2.2.2.2.2.2.1
def withZ (x:BZ) (d:List aw) (r:List ByteArray):BZ:=(x.1,x.2.1,x.2.2.1,x.2.2.2.1,x.2.2.2.2.1,x.2.2.2.2.2.1,(x.z.1,d,r),x.2.2.2.2.2.2.2)
def op (x:BZ):BO:=(x.1,x.2.1,x.2.2.1,x.2.2.2.1,x.2.2.2.2.1,x.2.2.2.2.2.1,(x.z.1,x.z.2.1,(x.z.2.2.getD 0 ⟨#[]⟩,[],[],()),x.z.2.2.drop 1),x.2.2.2.2.2.2.2)
end BZ
section
variable (y:o4) (vs:List aC) (n i:Int)
def RB {L:Type} (out:BO→List Bool→T L) (ret:eB→BZ→L) (x:BO) (u:List Bool) (ps cs:List Int) (e:eB):T L:=.br (e.no==0) (out (x.withP ps.reverse cs.reverse) u.reverse) (.lf (ret e (x.withP ps.reverse cs.reverse).cl))
def yy (e:eB) (x:BZ):K0:=.ret (eF e) (x,())
def k0E (x:BO) (us:List Bool):T K0:=.nd (du (i+1)) (.lf (.back (x.cl,y,us,vs,n,i+1,())))
def k0D (v:aC) (x:BO) (us:List Bool):T K0:=.nd (Kt.ok .s ay) (.nd (lnP x us x.cs (v.s ay) (v.s ay).length 0) (RB (k0E y vs n i) yy x us.reverse x.ps.reverse (Ac x.cont.reverse (v.l ay) ((v.s ay).drop (Int.toNat 0)) x.cs.reverse).1 (Ac x.cont.reverse (v.l ay) ((v.s ay).drop (Int.toNat 0)) x.cs.reverse).2))
def k0C (v:aC) (x:BO) (us:List Bool):T K0:=.nd (Kt.ok .s ae) (.nd (lnP x us x.ps (v.s ae) (v.s ae).length 0) (RB (k0D y vs n i v) yy x (qG x.prec (v.l ae) ((v.s ae).drop (Int.toNat 0)) us.reverse x.ps.reverse).1.1 (qG x.prec (v.l ae) ((v.s ae).drop (Int.toNat 0)) us.reverse x.ps.reverse).1.2 x.cs.reverse (qG x.prec (v.l ae) ((v.s ae).drop (Int.toNat 0)) us.reverse x.ps.reverse).2))
def k0B (x:BZ) (us:List Bool):T K0:=.br (decide (i<n)) (.nd (0≤i∧i<vs.length) (.nd (x.z.2.1.length<x.z.1) (.nd (i=x.z.2.1.length) (k0C y vs n i (vs.getD i.toNat aC.zero) x.op us)))) (.lf (.out (x,y,us,())))
end
def pF (prec:List ByteArray) (cont:List ah):List aC→List aw→List ByteArray→List Bool→(List aw×List ByteArray×List Bool)×eB
 | [],d,r,u=>((d,r,u),⟨0,0⟩)
 | v::vs,d,r,u=>
  if(qG prec (v.l ae) (v.s ae) u []).2.no=0 then
   if(Ac cont (v.l ay) (v.s ay) []).2.no=0 then pF prec cont vs (d++[⟨r.getD 0 ⟨#[]⟩,(qG prec (v.l ae) (v.s ae) u []).1.2,(Ac cont (v.l ay) (v.s ay) []).1⟩]) (r.drop 1) (qG prec (v.l ae) (v.s ae) u []).1.1
   else((d++[⟨r.getD 0 ⟨#[]⟩,(qG prec (v.l ae) (v.s ae) u []).1.2,(Ac cont (v.l ay) (v.s ay) []).1⟩],r.drop 1,(qG prec (v.l ae) (v.s ae) u []).1.1),(Ac cont (v.l ay) (v.s ay) []).2)
  else((d++[⟨r.getD 0 ⟨#[]⟩,(qG prec (v.l ae) (v.s ae) u []).1.2,[]⟩],r.drop 1,(qG prec (v.l ae) (v.s ae) u []).1.1),(qG prec (v.l ae) (v.s ae) u []).2)
theorem GZ (prec:List ByteArray) (line:Int):∀(l:List ByteArray) (u:List Bool) (a:List Int),(qG prec line l u a).1.1.length=u.length
 | [],_,_=>rfl
 | s::l,u,a=>by
  unfold qG;split
  ·rfl
  split
  ·rfl
  ·rw[GZ prec line l,abN]
def ZQ (v:aC):Prop:=(v.s ae).length≤1099511627776∧(v.s ay).length≤1099511627776
def lnR (x:BZ) (y:o4) (q:(List aw×List ByteArray×List Bool)×eB):T K0:=.br (q.2.no==0) (.lf (.out (x.withZ q.1.1 q.1.2.1,y,q.1.2.2.reverse,()))) (.lf (.ret (eF q.2) (x.withZ q.1.1 q.1.2.1,())))
theorem Ry:fO RA 0 0 k0L k0O [(0,DY)] fun((x:BZ),(y:o4),(us:List Bool),(vs:List aC),(n:Int),(i:Int),_)=>
 .nd (0≤i∧i≤vs.length∧n=vs.length∧i=x.z.2.1.length∧x.z.1=vs.length∧us.length=x.prec.length∧∀v∈vs,ZQ v) (lnR x y (pF x.prec x.cont.reverse (vs.drop i.toNat) x.z.2.1 x.z.2.2 us.reverse)):=by
  refine fS _ (((nL _ _).add 1 _ Rx).add 2 _ Rw) 99 0 0 k0L k0O [(0,DY)] (fun((x:BZ),(y:o4),(us:List Bool),(vs:List aC),(n:Int),(i:Int),_)=>k0B y vs n i x us)
   (fun(_,_,_,(vs:List aC),_,(i:Int),_)=>vs.length-i.toNat) ?_
  rintro⟨(x:BZ),(y:o4),(us:List Bool),(vs:List aC),(n:Int),(i:Int),_⟩ r rG ⟨⟨h0,h1,rfl,h3,h4,h5,h6⟩,hr⟩;have Bc:vs.length≤9223372036854775807:=rG.2.2.2.1;obtain⟨k,rfl⟩:∃k:Nat,i=k:=⟨i.toNat,by omega⟩;rw[aaf] at hr;show∃q,(k0B y vs vs.length k x us).hit q∧_;unfold k0B;by_cases hk:k<vs.length
  ·rw[getD_drop aC.zero hk,pF] at hr;rw[aaf];obtain⟨v,hv⟩:∃v,vs.getD k aC.zero=v:=⟨_,rfl⟩;have uf:ZQ v:=h6 v (by rw[←hv,aar,aac hk];exact ab7 _);rw[hv] at hr ⊢;have hn:(0:Int)≤k∧(k:Int)<vs.length:=⟨by omega,by omega⟩;have pre:∀{q},(RB (k0D y vs vs.length k v) yy x.op (qG x.prec (v.l ae) (v.s ae) us.reverse []).1.1 (qG x.prec (v.l ae) (v.s ae) us.reverse []).1.2 [] (qG x.prec (v.l ae) (v.s ae) us.reverse []).2).hit q→(T.br (decide ((k:Int)<vs.length)) (.nd (0≤(k:Int)∧(k:Int)<vs.length) (.nd (x.z.2.1.length<x.z.1) (.nd ((k:Int)=x.z.2.1.length) (k0C y vs vs.length k v x.op us)))) (.lf (.out (x,y,us,())))).hit q:=fun hq=>
    bf (decide_eq_true hn.2) ⟨hn,by omega,h3,p9,⟨by omega,by omega,rfl,h5,rfl,uf.1⟩,hq⟩
   have bM:=GZ x.prec (v.l ae) (v.s ae) us.reverse [];obtain⟨q,hq⟩:∃q,qG x.prec (v.l ae) (v.s ae) us.reverse []=q:=⟨_,rfl⟩;obtain⟨p,hp⟩:∃p,Ac x.cont.reverse (v.l ay) (v.s ay) []=p:=⟨_,rfl⟩;rw[hq] at hr bM pre;rw[hp] at hr;rw[aaH] at bM;by_cases e1:q.2.no=0
   ·rw[if_pos e1] at hr;have aat:∀{t},(RB (k0E y vs vs.length k) yy (x.op.withP q.1.2.reverse []) q.1.1.reverse.reverse q.1.2.reverse.reverse p.1 p.2).hit t→(k0D y vs vs.length k v (x.op.withP q.1.2.reverse []) q.1.1.reverse).hit t:=fun ht=>
     ⟨p9,⟨by omega,by omega,rfl,by rw[aaH,bM];exact h5,rfl,uf.2⟩,by
      have:Ac (x.op.withP q.1.2.reverse []).cont.reverse (v.l ay) ((v.s ay).drop (Int.toNat 0)) (x.op.withP q.1.2.reverse []).cs.reverse=p:=hp;rw[this];exact ht⟩
    have ex:((x.op.withP q.1.2.reverse []).withP q.1.2.reverse.reverse.reverse p.1.reverse).cl=x.withZ (x.z.2.1++[⟨x.z.2.2.getD 0 ⟨#[]⟩,q.1.2,p.1⟩]) (x.z.2.2.drop 1):=by
     have e3:q.1.2.reverse.reverse.reverse.reverse=q.1.2:=by simp only[aal]
     have e4:p.1.reverse.reverse=p.1:=aal _;show x.withZ (x.z.2.1++[⟨x.z.2.2.getD 0 ⟨#[]⟩,q.1.2.reverse.reverse.reverse.reverse,p.1.reverse.reverse⟩]) (x.z.2.2.drop 1)=_;rw[e3,e4]
    by_cases e2:p.2.no=0
    ·rw[if_pos e2] at hr;refine⟨.back (x.withZ (x.z.2.1++[⟨x.z.2.2.getD 0 ⟨#[]⟩,q.1.2,p.1⟩]) (x.z.2.2.drop 1),y,q.1.1.reverse.reverse.reverse,vs,(vs.length:Int),(k:Int)+1,()),pre (bf (by rw[e1];rfl) (aat (bf (by rw[e2];rfl) ⟨⟨by omega,by omega⟩,by rw[ex];rfl⟩))),?_,?_⟩
     ·show vs.length-(k+1)<vs.length-k;omega
     ·refine⟨⟨by omega,by omega,rfl,?_,h4,?_,h6⟩,?_⟩
      ·show(k:Int)+1=((x.z.2.1++[_]).length:Nat);rw[aa8,ab2];omega
      ·show q.1.1.reverse.reverse.reverse.length=x.prec.length;rw[aaH,aaH,aaH,bM];exact h5
      ·show(lnR _ _ (pF _ _ (vs.drop (k+1)) _ _ q.1.1.reverse.reverse.reverse.reverse)).hit r;simp only[aal];exact hr
    ·rw[if_neg e2] at hr;obtain rfl:=hr.2 (beq_false_of_ne e2);refine⟨yy p.2 (x.withZ (x.z.2.1++[⟨x.z.2.2.getD 0 ⟨#[]⟩,q.1.2,p.1⟩]) (x.z.2.2.drop 1)),pre (bf (by rw[e1];rfl) (aat (bw (beq_false_of_ne e2) ?_))),rfl⟩;rw[ex];rfl
   ·rw[if_neg e1] at hr;obtain rfl:=hr.2 (beq_false_of_ne e1);refine⟨yy q.2 (x.withZ (x.z.2.1++[⟨x.z.2.2.getD 0 ⟨#[]⟩,q.1.2,[]⟩]) (x.z.2.2.drop 1)),pre (bw (beq_false_of_ne e1) ?_),rfl⟩;have ex:(x.op.withP q.1.2.reverse ([]:List Int).reverse).cl=x.withZ (x.z.2.1++[⟨x.z.2.2.getD 0 ⟨#[]⟩,q.1.2,[]⟩]) (x.z.2.2.drop 1):=by
     show x.withZ (x.z.2.1++[⟨x.z.2.2.getD 0 ⟨#[]⟩,q.1.2.reverse.reverse,[]⟩]) (x.z.2.2.drop 1)=_;rw[aal]
    rw[ex];rfl
  ·rw[aa5 (by omega),pF] at hr;have h:=hr.1 rfl;rw[aal] at h;obtain rfl:=h;exact⟨_,bw (decide_eq_false (by omega)) rfl,rfl⟩
abbrev csY:List CS:=[.d .str,.d tI,.d tI,.d tI,.d (.list .str),.own (.st 3) 95,.zc (.st 4) (.st 10) 97,.d tI,.d tI,.d .bool,.d (.list .limb),.d (.list .limb),.d tI,.d .str,.mr .s .str 9,.any]
abbrev sBy:SS:=.box 135 csY
abbrev BY:=fc csY
def BZ.y (x:BZ):BY:=(x.1,x.2.1,x.2.2.1,x.2.2.2.1,x.2.2.2.2.1,x.2.2.2.2.2.1,x.2.2.2.2.2.2.1,x.2.2.2.2.2.2.2.1,x.2.2.2.2.2.2.2.2.1,x.2.2.2.2.2.2.2.2.2.1,x.2.2.2.2.2.2.2.2.2.2.1,x.2.2.2.2.2.2.2.2.2.2.2.1,x.2.2.2.2.2.2.2.2.2.2.2.2.1,x.2.2.2.2.2.2.2.2.2.2.2.2.2.1,x.2.2.2.2.2.2.2.2.2.2.2.2.2.2.1,(),())
abbrev KO (r:XV) (x:BZ):XV×BY×Unit:=(r,x.y,())
abbrev BX.prec (x:BX):List ByteArray:=x.2.2.2.2.1
def BX.zb (x:BX):BZ:=(x.1,x.2.1,x.2.2.1,x.2.2.2.1,x.2.2.2.2.1,x.2.2.2.2.2.1,(x.styn.length,[],x.styn.reverse),x.2.2.2.2.2.2.2.1,x.2.2.2.2.2.2.2.2.1,x.2.2.2.2.2.2.2.2.2.1,x.2.2.2.2.2.2.2.2.2.2.1,x.2.2.2.2.2.2.2.2.2.2.2.1,x.2.2.2.2.2.2.2.2.2.2.2.2.1,x.2.2.2.2.2.2.2.2.2.2.2.2.2.1,x.2.2.2.2.2.2.2.2.2.2.2.2.2.2.1,x.vals.reverse,())
def BX.go (x:BX):(List aw×List ByteArray×List Bool)×eB:=pF x.prec x.cont.reverse (x.vals.reverse.drop (Int.toNat 0)) [] x.styn.reverse (List.replicate (Int.toNat x.prec.length) false).reverse
def lkT (x:BX):T (XV×BY×Unit):=.nd ((0:Int)≤x.prec.length∧(x.prec.length:Int)=x.prec.length∧(x.prec.length:Int)*(1+1)≤281474976710656)
 (.nd ((0:Int)≤0∧(0:Int)≤x.vals.reverse.length∧(x.vals.length:Int)=x.vals.reverse.length∧(0:Int)=x.zb.z.2.1.length∧x.zb.z.1=x.vals.reverse.length∧(List.replicate (Int.toNat x.prec.length) false).length=x.zb.prec.length∧∀v∈x.vals.reverse,ZQ v)
 (.br (x.go.2.no==0) (.br (x.go.1.2.2.reverse.reverse.contains false) (.lf (KO (AS 6 0) (x.zb.withZ x.go.1.1 x.go.1.2.1))) (.lf (KO (AS 0 0) (x.zb.withZ x.go.1.1 x.go.1.2.1)))) (.lf (KO (aE x.go.2) (x.zb.withZ x.go.1.1 x.go.1.2.1)))))
def gg (x:BX):eB×BZ:=(if x.go.2.no=0 then(if x.go.1.2.2.contains false then⟨6,0⟩ else⟨0,0⟩) else x.go.2,x.zb.withZ x.go.1.1 x.go.1.2.1)
def vK (x:BX):Prop:=x.prec.length≤140737488355328∧x.styn.length=x.vals.length∧∀v∈x.vals,ZQ v
theorem Nc:fV Tryz.prog 67 [0] [(0,zA)] [(0,sBy)] fun((x:BX),_)=>.nd (vK x) (.lf (KO (aE (gg x).1) (gg x).2)):=by
 refine OO (R:=RA) ((nL _ _).add 0 _ Ry) 99 [(0,zA)] [(0,sBy)] (fun((x:BX),_)=>lkT x) ?_ Tryz.func67;rintro⟨(x:BX),_⟩ r _ ⟨⟨h1,h2,h3⟩,hr⟩;obtain rfl:KO (aE (gg x).1) (gg x).2=r:=hr;refine⟨⟨by omega,rfl,by omega⟩,⟨by omega,by omega,by rw[aaH],rfl,by rw[aaH];exact h2,by rw[adz];exact aaf _,fun v hv=>h3 v (adG.1 hv)⟩,?_⟩;unfold gg;by_cases e:x.go.2.no=0
 ·rw[if_pos e];refine bf (by rw[e];rfl) ?_;rw[aal];cases x.go.1.2.2.contains false
  ·exact bw rfl rfl
  ·exact bf rfl rfl
 ·rw[if_neg e];exact bw (beq_false_of_ne e) rfl
theorem Uw (prec:List ByteArray) (line:Int):∀(l:List ByteArray) (u:List Bool) (a:List Int),eI prec line l u a=if(qG prec line l u a).2.no=0 then .ok (qG prec line l u a).1 else .error (qG prec line l u a).2
 | [],_,_=>rfl
 | s::l,u,a=>by
  unfold eI qG;split
  ·rfl
  split
  ·rfl
  ·exact Uw prec line l _ _
theorem UD (cont:List ah) (line:Int):∀(l:List ByteArray) (a:List Int),fo cont line l a=if(Ac cont line l a).2.no=0 then .ok (Ac cont line l a).1 else .error (Ac cont line l a).2
 | [],_=>rfl
 | s::l,a=>by
  unfold fo Ac;split
  ·rfl
  ·exact UD cont line l _
theorem Uz (prec:List ByteArray) (cont:List ah):∀(vs:List aC) (r:List ByteArray) (u:List Bool) (d:List aw),vs.length=r.length→ gQ prec cont vs (r.map fun n=>⟨n,[],[]⟩) u d=if(pF prec cont vs d r u).2.no=0 then(if(pF prec cont vs d r u).1.2.2.contains false then .error ⟨6,0⟩ else .ok (pF prec cont vs d r u).1.1) else .error (pF prec cont vs d r u).2
 | [],[],_,_,_=>rfl
 | v::vs,s::r,u,d,h=>by
  rw[acq];unfold gQ pF;rw[Uw,UD];by_cases e1:(qG prec (v.l ae) (v.s ae) u []).2.no=0
  ·simp only[if_pos e1];by_cases e2:(Ac cont (v.l ay) (v.s ay) []).2.no=0
   ·simp only[if_pos e2];exact Uz prec cont vs r _ _ (by simpa using h)
   ·simp only[if_neg e2]
  ·simp only[if_neg e1]
 | [],_::_,_,_,h=>by cases h
 | _::_,[],_,_,h=>by cases h
theorem RJ (x:BX) (h:vK x):o9 x.d=if(gg x).1.no=0 then .ok (gg x).2.z.2.1 else .error (gg x).1:=by
 have e:o9 x.d=_:=Uz x.prec x.cont.reverse x.vals.reverse x.styn.reverse (List.replicate x.prec.length false) [] (by rw[aaH,aaH];exact h.2.1.symm);have hg:x.go=pF x.prec x.cont.reverse x.vals.reverse [] x.styn.reverse (List.replicate x.prec.length false):=by
  unfold BX.go;rw[List.reverse_replicate,aaf];rfl
 rw[e,←hg];unfold gg;by_cases e1:x.go.2.no=0
 ·simp only[if_pos e1];cases x.go.1.2.2.contains false<;>rfl
 ·simp only[if_neg e1]
end Go.Proofs.YtjlhbfbdcfajfaaGreatDoor
