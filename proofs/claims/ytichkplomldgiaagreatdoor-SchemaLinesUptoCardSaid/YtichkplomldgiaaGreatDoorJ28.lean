/- Tp3 Tp4 Tp5 Tp6 Tp7 Lnk1 Tp8 Tp9 Tp10 Tp11 -/
import Derived.Test.YtichkplomldgiaaGreatDoorJ27
import Derived.Test.YtichkplomldgiaaGreatDoorJ15
import Derived.Test.YtichkplomldgiaaGreatDoorJ02
import Derived.Test.YtichkplomldgiaaGreatDoorJ10
set_option maxHeartbeats 4000000
set_option maxRecDepth 100000
namespace Go.Proofs.YtichkplomldgiaaGreatDoor
open Go Go.RowKit
noncomputable def CV3:dN Tryz.prog:=bH Ci [⟨_,_,_,ll⟩,⟨_,_,_,rZ⟩,⟨_,_,_,Hy⟩,⟨_,_,_,lB⟩,⟨_,_,_,Hr⟩] [⟨_,_,_,_,_,GX⟩]
abbrev VX.L (x:VX):Nat×(ByteArray->Option (List ByteArray)):=x.2.1
abbrev VX.N (x:VX):Nat×(ByteArray->Option Int):=x.2.2.1
def VX.setL (x:VX) (k:ByteArray) (v:Int):VX:=(x.1,x.2.1,(x.2.2.1.1+1,gU .s x.2.2.1.2 k v),x.2.2.2)
def VX.setV (x:VX) (k:ByteArray) (v:List ByteArray):VX:=(x.1,(x.2.1.1+1,gU .s x.2.1.2 k v),x.2.2)
def YT (k:ByteArray) (n:Nat):Prop:=Kt.ok .s k/\n<1000000000000
def Pd (x:VX) (k:ByteArray) (f:ay):T (XV×VX×Unit):=
 .br (!(Lib.containsS (dw k) f.key)) (.lf (lW (aI 2) x)) (.nd (Kt.ok .s f.key) (.br (x.N.2 f.key).isSome (.lf (lW (aI 3) x)) (.nd (YT f.key x.N.1)
 (.br (decide (dk f.key>0)) (.nd (f.vals.length<=1099511627776) (.nd (YT f.key x.L.1) (.nd (∀s∈f.vals,bP s) (.lf (lW (aI (ny f.vals (dk f.key))) ((x.setL f.key f.line).setV f.key f.vals))))))
 (.br (!((f.vals.length:Int)==1)) (.lf (lW (aI 7) (x.setL f.key f.line))) (.nd ((0:Int)<=0/\(0:Int)<f.vals.length) (.nd (yu f.key (x.setL f.key f.line)/\bP (f.vals.getD 0 ⟨#[]⟩)) (.lf (lW (aI (iJ f.key (f.vals.getD 0 ⟨#[]⟩) (x.setL f.key f.line)).1) (iJ f.key (f.vals.getD 0 ⟨#[]⟩) (x.setL f.key f.line)).2)))))))))
def cL (k:ByteArray) (f:ay) (x:VX):Int×VX:=
 if Lib.containsS (dw k) f.key=false then(2,x)
 else if(x.N.2 f.key).isSome then(3,x)
 else if 0<dk f.key then(ny f.vals (dk f.key),(x.setL f.key f.line).setV f.key f.vals)
 else if f.vals.length≠1 then(7,x.setL f.key f.line)
 else iJ f.key (f.vals.getD 0 ⟨#[]⟩) (x.setL f.key f.line)
def VX.n (x:VX) (n:Nat):Prop:=x.1.1<=n/\x.L.1<=n/\x.N.1<=n
def kH (f:ay):Prop:=bP f.key/\f.vals.length<=1099511627776/\∀s∈f.vals,bP s
theorem VX.v_setL (x:VX) (k:ByteArray) (v:Int):(x.setL k v).v={ x.v with ln:=eL x.v.ln k v }:=
 congrArg (λf:ByteArray->Option Int=>(⟨x.1.2,x.2.1.2,f,⟨x.2.2.2.1,x.2.2.2.2.1,x.2.2.2.2.2.1⟩,x.2.2.2.2.2.2.1⟩:am)) (zZ x.2.2.1.2 k v)
theorem VX.v_setV (x:VX) (k:ByteArray) (v:List ByteArray):(x.setV k v).v={ x.v with lst:=eL x.v.lst k v }:=
 congrArg (λf:ByteArray->Option (List ByteArray)=>(⟨x.1.2,f,x.2.2.1.2,⟨x.2.2.2.1,x.2.2.2.2.1,x.2.2.2.2.2.1⟩,x.2.2.2.2.2.2.1⟩:am)) (zZ x.2.1.2 k v)
theorem GD (k:ByteArray) (f:ay) (x:VX):gr k f x.v=((cL k f x).1,(cL k f x).2.v):=by
 unfold gr cL;split
 ·rfl
 split
 ·rename_i h;rw[if_pos (show(x.N.2 f.key).isSome from h)]
 rename_i h;rw[if_neg (show¬(x.N.2 f.key).isSome from h)];split
 ·rw[VX.v_setV,VX.v_setL]
 split
 ·rw[VX.v_setL]
 ·rw[<-VX.v_setL,Lk]
theorem GF {k:ByteArray} {f:ay} {x:VX} {n:Nat} (h:x.n n):(cL k f x).2.n (n+1):=by
 obtain⟨h1,h2,h3⟩:=h;have h0:x.n (n+1):=⟨by omega,by omega,by omega⟩;have hl:(x.setL f.key f.line).n (n+1):=⟨by show x.1.1<=_;omega,by show x.L.1<=_;omega,by show x.N.1+1<=_;omega⟩;unfold cL;split
 ·exact h0
 split
 ·exact h0
 split
 ·exact⟨by show x.1.1<=_;omega,by show x.L.1+1<=_;omega,by show x.N.1+1<=_;omega⟩
 split
 ·exact hl
 ·obtain⟨q1,q2,q3⟩:=Da f.key (f.vals.getD 0 ⟨#[]⟩) (x.setL f.key f.line);refine⟨Nat.le_trans q1 (by show x.1.1+1<=_;omega),?_,?_⟩
  ·show(iJ _ _ _).2.2.1.1<=_;rw[q2];exact hl.2.1
  ·show(iJ _ _ _).2.2.2.1.1<=_;rw[q3];exact hl.2.2
theorem bP.kt {s:ByteArray} (h:bP s):Kt.ok .s s:=Nat.le_trans h (by decide)
theorem CW:eB Tryz.prog 109 pV [(0,sV),(1,sS),(2,.st 0)] [(0,sV)] λ((x:VX),(k:ByteArray),(f:ay),_)=>.nd (x.n 999999999999/\kH f) (.lf (lW (aI (cL k f x).1) (cL k f x).2)):=
 kI (C:=CV3) (nL _ _) 99 [(0,sV),(1,sS),(2,.st 0)] [(0,sV)] (λ((x:VX),(k:ByteArray),(f:ay),_)=>Pd x k f) (λ⟨(x:VX),(k:ByteArray),(f:ay),_⟩ r _ ⟨⟨⟨n1,n2,n3⟩,f1,f2,f3⟩,h⟩=>by
  obtain rfl:lW (aI (cL k f x).1) (cL k f x).2=r:=h;unfold cL;by_cases h1:Lib.containsS (dw k) f.key=false
  ·rw[if_pos h1];exact aK (by rw[h1];rfl) rfl
  rw[if_neg h1];refine aQ (by simpa using h1) ⟨f1.kt,?_⟩;by_cases h2:(x.N.2 f.key).isSome
  ·rw[if_pos h2];exact aK h2 rfl
  rw[if_neg h2];refine aQ (by simpa using h2) ⟨⟨f1.kt,by omega⟩,?_⟩;by_cases h3:0<dk f.key
  ·rw[if_pos h3];exact aK (decide_eq_true h3) ⟨f2,⟨f1.kt,by omega⟩,f3,rfl⟩
  rw[if_neg h3];refine aQ (decide_eq_false h3) ?_;by_cases h4:f.vals.length=1
  ·rw[if_neg (by simp[h4])];refine aQ (by rw[h4];rfl) ⟨by omega,⟨⟨f1.kt,by show x.1.1<_;omega⟩,?_⟩,rfl⟩;rw[List.getD_eq_getElem?_getD,List.getElem?_eq_getElem (by omega)];exact f3 _ (List.getElem_mem _)
  ·rw[if_pos h4];exact aK (by simp;omega) rfl) Tryz.func109
noncomputable def CV4:dN Tryz.prog:=bH Ci [⟨_,_,_,ll⟩] []
abbrev Bp:SS:=.box 56 [.d tI,.d tI]
noncomputable abbrev coF:=Tryz.f110
abbrev jA:=eX [.d tI,.d tI]
abbrev WM:List (Nat×SS):=[(0,.rf 14),(1,sS),(2,sI),(6,Bp),(14,sL),(15,sI),(16,sI)]
abbrev WL:List (Nat×SS):=[(0,.rf 14),(1,sS),(2,sI),(6,Bp)]
abbrev sH (a b:Int):XV:=.agg [.sym (.int .i64 a),.sym (.int .i64 b)]
abbrev Yd:=LE WM WL []
def E4 (n:Int):T Yd:=.lf (.ret (.agg [.val (.int .i64 6),.sym (.int .i64 n)]) ())
def Na (x:am) (k:ByteArray) (n:Int) (y:jA) (l:List ByteArray) (a i:Int):T Yd:=.nd (dD (i+1)) (.lf (.back (x,k,n,y,l,a,i+1,())))
def cpT (x:am) (k:ByteArray) (n:Int) (y:jA) (l:List ByteArray) (a i:Int):T Yd:=
 .br (decide (i<a)) (.nd (0<=i/\i<l.length) (.nd (Kt.ok .s (l.getD i.toNat ⟨#[]⟩)) (.br (!((x.ln (l.getD i.toNat ⟨#[]⟩)).isSome)) (.br (!((l.getD i.toNat ⟨#[]⟩).toList==bn.toList)) (E4 n) (.nd (Kt.ok .s bz) (.br (x.n bz==2) (E4 n) (Na x k n y l a i)))) (Na x k n y l a i)))) (.lf (.out (x,k,n,y,())))
theorem kg {s:ByteArray} (h:s.size<=1000:=by decide):Kt.ok .s s:=Nat.le_trans h (by decide)
theorem tN {v:am} {line:Int} {e:dA}:∀{l:List ByteArray},jW v line e l=if l.any (eY v) then⟨6,line⟩ else e
 | []=>rfl
 | k::l=>by
  unfold jW;rw[List.any_cons,tN (l:=l)];cases eY v k<;>rfl
theorem yh {v:am} {k:ByteArray} (h1:(v.ln k).isSome=false) (h2:k≠bn\/v.n bz=2):eY v k=true:=by
 unfold eY;rw[h1];rcases h2 with h|h
 ·rw[decide_eq_true h];rfl
 ·rw[decide_eq_true h,Bool.or_true];rfl
theorem I7:dS (nc CV4 coF) 0 0 WM WL [] λ((x:am),(k:ByteArray),(n:Int),(y:jA),(l:List ByteArray),(a:Int),(i:Int),_)=>
 .nd (0<=i/\i<=l.length/\a=l.length/\∀s∈l,Kt.ok .s s) (.br ((l.drop i.toNat).any (eY x)) (E4 n) (.lf (.out (x,k,n,y,())))):=by
  refine jX _ (nL _ _) 99 0 0 WM WL [] (λ((x:am),(k:ByteArray),(n:Int),(y:jA),(l:List ByteArray),(a:Int),(i:Int),_)=>cpT x k n y l a i) (λ(_,_,_,_,(l:List ByteArray),_,(i:Int),_)=>l.length-i.toNat) ?_;rintro⟨(x:am),(k:ByteArray),(n:Int),(y:jA),(l:List ByteArray),(a:Int),(i:Int),_⟩ r ⟨_,_,_,_,hl,_⟩ ⟨⟨h0,h1,rfl,hk⟩,h⟩;have hl:l.length<=9223372036854775807:=hl;obtain⟨j,rfl⟩:∃j:Nat,i=j:=⟨i.toNat,by omega⟩;simp only[Int.toNat_natCast] at h;by_cases hi:j<l.length
  ·rw[getD_drop ⟨#[]⟩ hi,List.any_cons] at h;have hx:Kt.ok .s (l.getD j ⟨#[]⟩):=by
    rw[List.getD_eq_getElem?_getD,List.getElem?_eq_getElem hi];exact hk _ (List.getElem_mem _)
   have back:eY x (l.getD j ⟨#[]⟩)=false->(T.nd (0<=(j:Int)+1/\(j:Int)+1<=l.length/\(l.length:Int)=l.length/\∀s∈l,Kt.ok .s s) (.br ((l.drop ((j:Int)+1).toNat).any (eY x)) (E4 n) (.lf (.out (x,k,n,y,()))))).hit r:=λhm=>by
    rw[hm,Bool.false_or] at h;exact⟨⟨by omega,by omega,rfl,hk⟩,h⟩
   have nx:(Na x k n y l l.length (j:Int)).hit (.back (x,k,n,y,l,(l.length:Int),(j:Int)+1,())):=⟨⟨by omega,by omega⟩,rfl⟩;have μ:l.length-((j:Int)+1).toNat<l.length-j:=by omega
   have Pz:eY x (l.getD j ⟨#[]⟩)=true->(E4 n).hit r:=λhm=>by
    rw[hm,Bool.true_or] at h;exact h.1 rfl
   have hn:(0:Int)<=j/\(j:Int)<l.length:=⟨by omega,by omega⟩;cases h3:(x.ln (l.getD j ⟨#[]⟩)).isSome
   ·by_cases h4:l.getD j ⟨#[]⟩=bn
    ·by_cases h5:x.n bz=2
     ·have q:=yh h3 (.inr h5);exact⟨_,aK (decide_eq_true hn.2) ⟨hn,hx,aK (by rw[Int.toNat_natCast,h3];rfl) (aQ (by rw[Int.toNat_natCast,h4];simp) ⟨kg,aK (by rw[h5];rfl) rfl⟩)⟩,(Pz q)⟩
     ·exact⟨_,aK (decide_eq_true hn.2) ⟨hn,hx,aK (by rw[Int.toNat_natCast,h3];rfl) (aQ (by rw[Int.toNat_natCast,h4];simp) ⟨kg,aQ (beq_false_of_ne h5) nx⟩)⟩,μ,back (by unfold eY;rw[h3,decide_eq_false (λe=>e h4),decide_eq_false h5];rfl)⟩
    ·exact⟨_,aK (decide_eq_true hn.2) ⟨hn,hx,aK (by rw[Int.toNat_natCast,h3];rfl) (aK (by rw[Int.toNat_natCast,dX,decide_eq_false h4];rfl) rfl)⟩,Pz (yh h3 (.inl h4))⟩
   ·exact⟨_,aK (decide_eq_true hn.2) ⟨hn,hx,aQ (by rw[Int.toNat_natCast,h3];rfl) nx⟩,μ,back (by unfold eY;rw[h3];rfl)⟩
  ·rw[List.drop_eq_nil_of_le (by omega)] at h;exact⟨_,aQ (decide_eq_false (by omega)) rfl,h.2 rfl⟩
def cS (x:am) (k:ByteArray) (n:Int):T XV:=.br (k.toList==fV.toList) (.nd (Kt.ok .s dJ) (.nd (Kt.ok .s cJ) (.br (decide (x.n dJ>x.n cJ)) (.lf (sH 4 n)) (.lf (sH 0 0))))) (.lf (sH 0 0))
def cC (x:am) (k:ByteArray) (n:Int):T XV:=.br (k.toList==bZ.toList) (.nd (Kt.ok .s bz) (.br (x.n bz==1) (.nd (Kt.ok .s cT) (.br (decide (x.n cT>1)) (.nd (Kt.ok .s cT) (.lf (sH 4 (x.l cT)))) (cS x k n))) (cS x k n))) (cS x k n)
def cD (x:am) (k:ByteArray) (n:Int):T XV:=.nd (Kt.ok .s bn) (.br (x.ln bn).isSome (.nd (Kt.ok .s bz) (.br (!(x.n bz==2)) (.lf (sH 5 (x.l bn))) (cC x k n))) (cC x k n))
def cB (x:am) (k:ByteArray) (n:Int):T XV:=.nd ((0:Int)<=0/\(0:Int)<=(dw k).length/\((dw k).length:Int)=(dw k).length/\∀s∈dw k,Kt.ok .s s) (.br ((dw k).any (eY x)) (.lf (sH 6 n)) (cD x k n))
theorem wP (x:am) (k:ByteArray) (n:Int):(cS x k n).hit (if k=fV/\x.n cJ<x.n dJ then sH 4 n else sH 0 0):=by
 unfold cS;by_cases h1:k=fV
 ·refine aK (by rw[h1];simp) ⟨kg,kg,?_⟩;by_cases h2:x.n cJ<x.n dJ
  ·rw[if_pos ⟨h1,h2⟩];exact aK (decide_eq_true h2) rfl
  ·rw[if_neg λq=>h2 q.2];exact aQ (decide_eq_false h2) rfl
 ·rw[if_neg λq=>h1 q.1];exact aQ (by rw[dX];exact decide_eq_false h1) rfl
theorem Ni (x:am) (k:ByteArray) (n:Int):(cC x k n).hit (if k=bZ/\x.n bz=1/\1<x.n cT then sH 4 (x.l cT) else if k=fV/\x.n cJ<x.n dJ then sH 4 n else sH 0 0):=by
 unfold cC;by_cases h1:k=bZ
 ·refine aK (by rw[h1];simp) ⟨kg,?_⟩;by_cases h2:x.n bz=1
  ·refine aK (by rw[h2];rfl) ⟨kg,?_⟩;by_cases h3:1<x.n cT
   ·rw[if_pos ⟨h1,h2,h3⟩];exact aK (decide_eq_true h3) ⟨kg,rfl⟩
   ·rw[if_neg λq=>h3 q.2.2];exact aQ (decide_eq_false h3) (wP x k n)
  ·rw[if_neg λq=>h2 q.2.1];exact aQ (beq_false_of_ne h2) (wP x k n)
 ·rw[if_neg λq=>h1 q.1];exact aQ (by rw[dX];exact decide_eq_false h1) (wP x k n)
def aE (e:dA):XV:=sH e.no e.line
theorem yX {P:Prop} [Decidable P] (a b:dA):aE (if P then a else b)=if P then aE a else aE b:=by split<;>rfl
theorem Nh (x:am) (k:ByteArray) (n:Int):(cD x k n).hit (aE (pd k n x)):=by
 have hc:=Ni x k n;unfold pd;rw[yX,yX,yX];refine⟨kg,?_⟩;cases h1:(x.ln bn).isSome
 ·rw[if_neg λq=>by cases q.1];exact aQ rfl hc
 ·refine aK rfl ⟨kg,?_⟩;by_cases h2:x.n bz=2
  ·rw[if_neg λq=>q.2 h2];exact aQ (by rw[h2];rfl) hc
  ·rw[if_pos ⟨rfl,h2⟩];exact aK (by rw[beq_false_of_ne h2];rfl) rfl
theorem Ie (k:ByteArray):∀s∈dw k,Kt.ok .s s:=by
 have h:∀a∈cG,∀s∈dw a,s.size<=1000:=by decide
 by_cases hk:k∈cG
 ·exact λs hs=>kg (h k hk s hs)
 ·simp only[cG,List.mem_cons,List.not_mem_nil,or_false,not_or] at hk;simp[dw,hk]
theorem Fa:aj Tryz.prog 110 false (az [(0,.rf 14),(1,sS),(2,sI)] λ((x:am),(k:ByteArray),(n:Int),_)=>.lf (aE (bj k n x))):=
 aJ (C:=CV4) ((nL _ _).add 0 _ I7) false 99 [(0,.rf 14),(1,sS),(2,sI)] (λ((x:am),(k:ByteArray),(n:Int),_)=>cB x k n) (λ⟨(x:am),(k:ByteArray),(n:Int),_⟩ r _ h=>by
  obtain rfl:aE (bj k n x)=r:=h;refine⟨⟨⟨by omega,by omega,rfl,Ie k⟩,?_⟩,.inr rfl⟩;unfold bj;rw[tN,yX];cases (dw k).any (eY x)
  ·exact aQ rfl (Nh x k n)
  ·exact aK rfl rfl) Tryz.func110
noncomputable def CV5:dN Tryz.prog:=bH Ci [⟨_,_,_,ll⟩,⟨_,_,_,Ae⟩,⟨_,_,_,uE⟩,⟨_,_,_,rZ⟩,⟨_,_,_,Jb⟩] []
def Zy (k m:ByteArray) (ns:List ByteArray):T XV:=.br (m.toList==(⟨#[]⟩:ByteArray).toList) (.lf (aI 6)) (.nd (szB m) (.br (!(gK m.data.toList)) (.lf (aI 8)) (.nd ((0:Int)<=0/\(0:Int)<m.size) (.br (decide (((m.data.toList.getD 0 0).toNat:Int)<97)) (.lf (aI 8)) (.br (decide ((m.size:Int)>24)) (.lf (aI 8)) (.br (Lib.containsS ns m) (.lf (aI 3)) (.br ((ns.length:Int)==eE k) (.lf (aI 7)) (.lf (aI 0)))))))))
def SO (k m:ByteArray) (ns:List ByteArray):T XV:=.br (!(jV k)) (.lf (aI 0)) (Zy k m ns)
def IA (k m:ByteArray) (ns:List ByteArray):T XV:=.br (!(jV k)) (.br (decide ((ns.length:Int)>0)) (.lf (aI 3)) (SO k m ns)) (SO k m ns)
def N7 (k m:ByteArray) (ns:List ByteArray):T XV:=.br (!(jV k)) (.br (!(m.toList==(⟨#[]⟩:ByteArray).toList)) (.lf (aI 2)) (IA k m ns)) (IA k m ns)
def VK (k m:ByteArray) (ns:List ByteArray):T XV:=.nd (Kt.ok .s k) (.br ((dw k).isEmpty) (.lf (aI 2)) (N7 k m ns))
theorem Lr {m:ByteArray} (h:m≠⟨#[]⟩):0<m.size:=by
 rcases Nat.eq_zero_or_pos m.size with e|e
 ·exact absurd (by rcases m with⟨a⟩;obtain rfl:a=#[]:=Array.eq_empty_of_size_eq_zero e;rfl) h
 ·exact e
theorem Mr {k m:ByteArray} (ns:List ByteArray) (hk:bP k) (hm:bP m):(VK k m ns).hit (aI (fX k m ns)):=by
 refine⟨hk.kt,?_⟩;unfold fX;by_cases h0:dw k=[]
 ·rw[if_pos h0];exact aK (by rw[h0];rfl) rfl
 refine aQ (by simpa using h0) ?_;rw[if_neg h0];unfold N7;cases h1:jV k
 ·rw[if_pos rfl];refine aK rfl ?_;by_cases h2:m=⟨#[]⟩
  ·rw[if_neg (by simpa using h2)];refine aQ (by rw[h2];simp) ?_;unfold IA;rw[h1];refine aK rfl ?_;by_cases h3:0<ns.length
   ·rw[if_pos h3];exact aK (decide_eq_true (by omega)) rfl
   ·rw[if_neg h3];refine aQ (decide_eq_false (by omega)) ?_;unfold SO;rw[h1];exact aK rfl rfl
  ·rw[if_pos h2];exact aK (by rw[dX,decide_eq_false h2];rfl) rfl
 ·rw[if_neg (by decide)];refine aQ rfl ?_;unfold IA SO;rw[h1];refine aQ rfl (aQ rfl ?_);unfold Zy;by_cases h2:m=⟨#[]⟩
  ·rw[if_pos h2];exact aK (by rw[h2];simp) rfl
  rw[if_neg h2];refine aQ (by rw[dX];exact decide_eq_false h2) ⟨hm.szB,?_⟩;have hp:=Lr h2;have e0:(m.data.toList[0]?).getD 0=m.data.toList.getD 0 0:=(List.getD_eq_getElem?_getD ..).symm;rw[e0];by_cases h3:gK m.data.toList=false
  ·rw[if_pos (.inl h3)];exact aK (by rw[h3];rfl) rfl
  refine aQ (by simpa using h3) ⟨⟨by omega,by omega⟩,?_⟩;by_cases h4:(m.data.toList.getD 0 0).toNat<97
  ·rw[if_pos (.inr (.inl h4))];exact aK (decide_eq_true (by omega)) rfl
  refine aQ (decide_eq_false (by omega)) ?_;by_cases h5:24<m.size
  ·rw[if_pos (.inr (.inr h5))];exact aK (decide_eq_true (by omega)) rfl
  rw[if_neg λq=>q.elim h3 λq=>q.elim h4 h5];refine aQ (decide_eq_false (by omega)) ?_;cases h6:Lib.containsS ns m
  ·rw[if_neg (by decide)];refine aQ rfl ?_;by_cases h7:(ns.length:Int)=eE k
   ·rw[if_pos h7];exact aK (by rw[h7];simp) rfl
   ·rw[if_neg h7];exact aQ (beq_false_of_ne h7) rfl
  ·exact aK rfl rfl
theorem Ei:aj Tryz.prog 108 false (az [(0,.rf 15),(1,.st 1)] λ((x:sO),(b:ao),_)=>.nd (bP b.kind/\bP b.name) (.lf (aI (fX b.kind b.name ((x.names b.kind).getD []))))):=
 aJ (C:=CV5) (nL _ _) false 99 [(0,.rf 15),(1,.st 1)] (λ((x:sO),(b:ao),_)=>VK b.kind b.name ((x.names b.kind).getD [])) (λ⟨(x:sO),(b:ao),_⟩ r _ ⟨⟨h1,h2⟩,h⟩=>by
  obtain rfl:aI (fX b.kind b.name ((x.names b.kind).getD []))=r:=h;exact⟨Mr _ h1 h2,.inr rfl⟩) Tryz.func108
abbrev Z8:List CS:=[.d .str,.d tI,.d tI,.d tI,.d (.list .str),.own (.st 3) 81,.own (.st 10) 91,.d tI,.d tI,.d .bool,.d (.list .limb),.d (.list .limb),.d tI,.d .str,.mr .s .str 9,.own (.st 14) 163]
abbrev qV:SS:=.box 113 Z8
abbrev Uh:List Nat:=[0]
abbrev BX:=eX Z8
abbrev wW (r:XV) (x:BX):XV×BX×Unit:=(r,x,())
noncomputable def Ge (t:TypeId):Option Ty:=List.lookup t [(9,.str),(3,tI),(4,.bool),(22,.list .str),(81,.st 3),(91,.st 10),(163,.st 14),(113,.st 15)]
noncomputable def CV6:dN Tryz.prog:=bH Ge [] []
namespace BX
abbrev cont (x:BX):List ai:=x.2.2.2.2.2.1
abbrev styn (x:BX):List ByteArray:=x.2.2.2.2.2.2.1
abbrev names (x:BX):Nat×(ByteArray->Option (List ByteArray)):=x.2.2.2.2.2.2.2.2.2.2.2.2.2.2.1
abbrev vals (x:BX):List am:=x.2.2.2.2.2.2.2.2.2.2.2.2.2.2.2.1
def uScan (x:BX) (v:am):BX:=(x.1,v.n pF,v.n dJ,v.n cJ,x.2.2.2.2)
def uScs (x:BX) (v:am):BX:=(x.1,x.2.1,x.2.2.1,x.2.2.2.1,x.2.2.2.2.1,x.2.2.2.2.2.1,x.2.2.2.2.2.2.1,v.n lq,v.n lv,x.2.2.2.2.2.2.2.2.2)
def uPrec (x:BX) (v:am):BX:=(x.1,x.2.1,x.2.2.1,x.2.2.2.1,v.s j3,x.2.2.2.2.2)
def uCont (x:BX) (c:ai):BX:=(x.1,x.2.1,x.2.2.1,x.2.2.2.1,x.2.2.2.2.1,c::x.cont,x.2.2.2.2.2.2)
def uSty (x:BX) (nm:ByteArray) (v:am):BX:=(x.1,x.2.1,x.2.2.1,x.2.2.2.1,x.2.2.2.2.1,x.2.2.2.2.2.1,nm::x.styn,x.2.2.2.2.2.2.2.1,x.2.2.2.2.2.2.2.2.1,x.2.2.2.2.2.2.2.2.2.1,x.2.2.2.2.2.2.2.2.2.2.1,x.2.2.2.2.2.2.2.2.2.2.2.1,x.2.2.2.2.2.2.2.2.2.2.2.2.1,x.2.2.2.2.2.2.2.2.2.2.2.2.2.1,x.2.2.2.2.2.2.2.2.2.2.2.2.2.2.1,v::x.vals,())
def uAud (x:BX) (v:am):BX:=(x.1,x.2.1,x.2.2.1,x.2.2.2.1,x.2.2.2.2.1,x.2.2.2.2.2.1,x.2.2.2.2.2.2.1,x.2.2.2.2.2.2.2.1,x.2.2.2.2.2.2.2.2.1,v.risk.neg,v.risk.num,v.risk.den,x.2.2.2.2.2.2.2.2.2.2.2.2.1,v.seed,x.2.2.2.2.2.2.2.2.2.2.2.2.2.2)
def uCell (x:BX) (v:am):BX:=(x.1,x.2.1,x.2.2.1,x.2.2.2.1,x.2.2.2.2.1,x.2.2.2.2.2.1,x.2.2.2.2.2.2.1,x.2.2.2.2.2.2.2.1,x.2.2.2.2.2.2.2.2.1,x.2.2.2.2.2.2.2.2.2.1,x.2.2.2.2.2.2.2.2.2.2.1,x.2.2.2.2.2.2.2.2.2.2.2.1,v.n pG,x.2.2.2.2.2.2.2.2.2.2.2.2.2)
def d (x:BX):cn:=⟨⟨x.1,x.2.1,x.2.2.1,x.2.2.2.1,x.2.2.2.2.1,x.cont.reverse,x.styn.reverse.map λn=>⟨n,[],[]⟩,x.2.2.2.2.2.2.2.1,x.2.2.2.2.2.2.2.2.1,⟨x.2.2.2.2.2.2.2.2.2.1,x.2.2.2.2.2.2.2.2.2.2.1,x.2.2.2.2.2.2.2.2.2.2.2.1⟩,x.2.2.2.2.2.2.2.2.2.2.2.2.1,x.2.2.2.2.2.2.2.2.2.2.2.2.2.1⟩,λk=>(x.names.2 k).map List.reverse,x.vals.reverse⟩
structure ok (x:BX) (n:Nat):Prop where
 c:x.cont.length<=n
 s:x.styn.length<=n
 v:x.vals.length<=n
 m:x.names.1<=n
 r:∀k r,x.names.2 k=some r->r.length<=n
end BX
def kk (l:List ByteArray) (t:T (XV×BX×Unit)):T (XV×BX×Unit):=l.foldr (λk t=>.nd (Kt.ok .s k) t) t
def qJ (x:BX):T (XV×BX×Unit):=.lf (wW (.tup []) x)
def stB (x:BX) (k nm:ByteArray) (v:am):T (XV×BX×Unit):=
 .br (k.toList==fV.toList) (kk [pF,dJ,cJ] (qJ (x.uScan v)))
 (.br (k.toList==eD.toList) (kk [lq,lv] (qJ (x.uScs v)))
 (.br (k.toList==ac.toList) (kk [j3] (qJ (x.uPrec v)))
 (.br (k.toList==bZ.toList) (kk [lu,bz,cT,lm,bn,pD,fo,pE] (.nd ((x.cont.length+1)*97<=140737488355328) (qJ (x.uCont (gI nm v)))))
 (.br (k.toList==nC.toList) (.nd ((x.styn.length+1)*65<=140737488355328) (.nd ((x.vals.length+1)*97<=140737488355328) (qJ (x.uSty nm v))))
 (.br (k.toList==j4.toList) (qJ (x.uAud v))
 (.br (k.toList==fC.toList) (kk [pG] (qJ (x.uCell v))) (qJ x)))))))
def fw (k nm:ByteArray) (v:am) (x:BX):BX:=
 if k=fV then x.uScan v else if k=eD then x.uScs v else if k=ac then x.uPrec v else if k=bZ then x.uCont (gI nm v) else if k=nC then x.uSty nm v else if k=j4 then x.uAud v else if k=fC then x.uCell v else x
theorem Cp (k nm:ByteArray) (v:am) (x:BX):(fw k nm v x).d=gR k nm v x.d:=by
 have e1:(x.uCont (gI nm v)).d={ x.d with e:={ x.d.e with cont:=x.d.e.cont++[gI nm v] } }:=congrArg (λc=>({ x.d with e:={ x.d.e with cont:=c } }:cn)) (List.reverse_cons ..);have e2:(x.uSty nm v).d={ x.d with e:={ x.d.e with styl:=x.d.e.styl++[⟨nm,[],[]⟩] },vals:=x.d.vals++[v] }:=by
  have h1:(nm::x.styn).reverse.map (λn=>(⟨n,[],[]⟩:ax))=x.d.e.styl++[⟨nm,[],[]⟩]:=by rw[List.reverse_cons,List.map_append];rfl
  have h2:(v::x.vals).reverse=x.d.vals++[v]:=List.reverse_cons ..;rw[<-h1,<-h2];rfl
 unfold fw gR;split
 ·rfl
 split
 ·rfl
 split
 ·rfl
 split
 ·exact e1
 split
 ·exact e2
 split
 ·rfl
 split
 ·rfl
 ·rfl
theorem zy {k nm:ByteArray} {v:am} {x:BX} {n m:Nat} (h:x.ok n) (hm:n+1<=m):(fw k nm v x).ok m:=by
 obtain⟨h1,h2,h3,h4,h5⟩:=h;have h0:x.ok m:=⟨by omega,by omega,by omega,by omega,λk r e=>by have:=h5 k r e;omega⟩;unfold fw;split
 ·exact⟨h0.1,h0.2,h0.3,h0.4,h0.5⟩
 split
 ·exact⟨h0.1,h0.2,h0.3,h0.4,h0.5⟩
 split
 ·exact⟨h0.1,h0.2,h0.3,h0.4,h0.5⟩
 split
 ·exact⟨by show x.cont.length+1<=m;omega,h0.2,h0.3,h0.4,h0.5⟩
 split
 ·exact⟨h0.1,by show x.styn.length+1<=m;omega,by show x.vals.length+1<=m;omega,h0.4,h0.5⟩
 split
 ·exact⟨h0.1,h0.2,h0.3,h0.4,h0.5⟩
 split
 ·exact⟨h0.1,h0.2,h0.3,h0.4,h0.5⟩
 ·exact h0
theorem wS {α β:Type} {F:α->β} {b:Bool} {X Y:T β} {P:Prop} [Decidable P] {c d:α} (hP:P↔b=true) (hX:X.hit (F c)) (hY:Y.hit (F d)):(T.br b X Y).hit (F (if P then c else d)):=by
 by_cases h:P
 ·rw[if_pos h];exact aK (hP.1 h) hX
 ·rw[if_neg h];exact aQ (by cases b with|false=>rfl|true=>exact absurd (hP.2 rfl) h) hY
theorem jR (x y:ByteArray):x=y↔(x.toList==y.toList)=true:=by rw[dX,decide_eq_true_iff]
theorem Cq:eB Tryz.prog 111 Uh [(0,qV),(1,.st 1),(2,.st 14)] [(0,qV)] λ((x:BX),(b:ao),(v:am),_)=>.nd (x.ok 999999999998) (qJ (fw b.kind b.name v x)):=
 kI (C:=CV6) (nL _ _) 99 [(0,qV),(1,.st 1),(2,.st 14)] [(0,qV)] (λ((x:BX),(b:ao),(v:am),_)=>stB x b.kind b.name v) (λ⟨(x:BX),(b:ao),(v:am),_⟩ r _ ⟨⟨h1,h2,h3,h4,_⟩,h⟩=>by
  obtain rfl:wW (.tup []) (fw b.kind b.name v x)=r:=h;unfold fw;refine wS (F:=wW (.tup [])) (jR _ _) ⟨kg,kg,kg,rfl⟩ (wS (F:=wW (.tup [])) (jR _ _) ⟨kg,kg,rfl⟩ (wS (F:=wW (.tup [])) (jR _ _) ⟨kg,rfl⟩
   (wS (F:=wW (.tup [])) (jR _ _) ⟨kg,kg,kg,kg,kg,kg,kg,kg,by omega,rfl⟩ (wS (F:=wW (.tup [])) (jR _ _) ⟨by omega,by omega,rfl⟩ (wS (F:=wW (.tup [])) (jR _ _) rfl (wS (F:=wW (.tup [])) (jR _ _) ⟨kg,rfl⟩ rfl)))))))
  Tryz.func111
noncomputable def CV7:dN Tryz.prog:=bH Ge [⟨_,_,_,Ei⟩,⟨_,_,_,Fa⟩] [⟨_,_,_,_,_,CW⟩,⟨_,_,_,_,_,Cq⟩]
abbrev O0:SS:=.box 67 [.d .str,.d .str,.d (.list (.st 0)),.d tI]
abbrev FH:=eX [.d .str,.d .str,.d (.list (.st 0)),.d tI]
noncomputable abbrev WV:=Tryz.f66
abbrev WY:List (Nat×SS):=[(0,qV),(3,O0),(4,Bp),(6,sV),(42,sD (.list (.st 0))),(43,sI),(44,sI)]
abbrev WX:List (Nat×SS):=[(0,qV),(3,O0),(4,Bp),(6,sV)]
abbrev Yk:=LE WY WX [(0,qV)]
def fz:ay:=⟨⟨#[]⟩,[],0⟩
def blT (x:BX) (b:FH) (y:jA) (v:VX) (l:List ay) (a i:Int):T Yk:=
 .br (decide (i<a)) (.nd (0<=i/\i<l.length) (.nd (v.n 999999999999/\kH (l.getD i.toNat fz)) (.br (!((cL b.1 (l.getD i.toNat fz) v).1==0)) (.lf (.ret (sH (cL b.1 (l.getD i.toNat fz) v).1 (l.getD i.toNat fz).line) (x,())))
  (.nd (dD (i+1)) (.lf (.back (x,b,y,(cL b.1 (l.getD i.toNat fz) v).2,l,a,i+1,()))))))) (.lf (.out (x,b,y,v,())))
def dH (kind:ByteArray):List ay->VX->dA×VX
 | [],v=>(⟨0,0⟩,v)
 | f::l,v=>if(cL kind f v).1≠0 then(⟨(cL kind f v).1,f.line⟩,(cL kind f v).2) else dH kind l (cL kind f v).2
theorem tr (kind:ByteArray):∀(l:List ay) (v:VX),bo kind l v.v=((dH kind l v).1,(dH kind l v).2.v)
 | [],v=>rfl
 | f::l,v=>by
  unfold bo dH;rw[GD];split
  ·rfl
  ·exact tr kind l _
def blR (x:BX) (b:FH) (y:jA) (q:dA×VX):T Yk:=.br (!(q.1.no==0)) (.lf (.ret (sH q.1.no q.1.line) (x,()))) (.lf (.out (x,b,y,q.2,())))
theorem Ro:dS (IW CV7 WV Uh) 0 0 WY WX [(0,qV)] λ((x:BX),(b:FH),(y:jA),(v:VX),(l:List ay),(a:Int),(i:Int),_)=>
 .nd (0<=i/\i<=l.length/\a=l.length/\v.n i.toNat/\l.length<=274877906944/\∀f∈l,kH f) (blR x b y (dH b.1 (l.drop i.toNat) v)):=by
  refine jX _ (nL _ _) 99 0 0 WY WX [(0,qV)] (λ((x:BX),(b:FH),(y:jA),(v:VX),(l:List ay),(a:Int),(i:Int),_)=>blT x b y v l a i) (λ(_,_,_,_,(l:List ay),_,(i:Int),_)=>l.length-i.toNat) ?_;rintro⟨(x:BX),(b:FH),(y:jA),(v:VX),(l:List ay),(a:Int),(i:Int),_⟩ r _ ⟨⟨h0,h1,rfl,hv,hl,hf⟩,h⟩;obtain⟨j,rfl⟩:∃j:Nat,i=j:=⟨i.toNat,by omega⟩;rw[Int.toNat_natCast] at h hv;by_cases hi:j<l.length
  ·rw[getD_drop fz hi] at h;replace h:(blR x b y (if(cL b.1 (l.getD j fz) v).1≠0 then(⟨(cL b.1 (l.getD j fz) v).1,(l.getD j fz).line⟩,(cL b.1 (l.getD j fz) v).2) else dH b.1 (l.drop (j+1)) (cL b.1 (l.getD j fz) v).2)).hit r:=h;have hx:kH (l.getD j fz):=by
    rw[List.getD_eq_getElem?_getD,List.getElem?_eq_getElem hi];exact hf _ (List.getElem_mem _)
   have hn:(0:Int)<=j/\(j:Int)<l.length:=⟨by omega,by omega⟩;have DV:v.n 999999999999:=⟨by have:=hv.1;omega,by have:=hv.2.1;omega,by have:=hv.2.2;omega⟩;have hb:∀q,(T.br (!((cL b.1 (l.getD j fz) v).1==0)) (.lf (.ret (sH (cL b.1 (l.getD j fz) v).1 (l.getD j fz).line) (x,()))) (.nd (dD ((j:Int)+1)) (.lf (.back (x,b,y,(cL b.1 (l.getD j fz) v).2,l,(l.length:Int),(j:Int)+1,())))):T Yk).hit q->(blT x b y v l l.length j).hit q:=λq hq=>
    aK (decide_eq_true hn.2) ⟨hn,by rw[Int.toNat_natCast];exact⟨⟨DV,hx⟩,hq⟩⟩
   by_cases h3:(cL b.1 (l.getD j fz) v).1=0
   ·rw[if_neg (by simpa using h3)] at h;refine⟨_,hb _ (aQ (by rw[h3];rfl) ⟨⟨by omega,by omega⟩,rfl⟩),by show l.length-((j:Int)+1).toNat<l.length-j;omega,⟨by omega,by omega,rfl,?_,hl,hf⟩,h⟩;exact GF hv
   ·rw[if_pos h3] at h;rw[<-(hB h).elim (λq=>q.2) (λq=>absurd q.1 (by rw[beq_false_of_ne h3];decide))];exact⟨_,hb _ (aK (by rw[beq_false_of_ne h3];rfl) rfl),rfl⟩
  ·rw[List.drop_eq_nil_of_le (by omega)] at h;exact⟨_,aQ (decide_eq_false (by omega)) rfl,h.2 rfl⟩
def VX.zero:VX:=((0,λ_=>none),(0,λ_=>none),(0,λ_=>none),false,[],[],⟨#[]⟩,())
def BX.nam (x:BX) (k m:ByteArray):BX:=(x.1,x.2.1,x.2.2.1,x.2.2.2.1,x.2.2.2.2.1,x.2.2.2.2.2.1,x.2.2.2.2.2.2.1,x.2.2.2.2.2.2.2.1,x.2.2.2.2.2.2.2.2.1,x.2.2.2.2.2.2.2.2.2.1,x.2.2.2.2.2.2.2.2.2.2.1,x.2.2.2.2.2.2.2.2.2.2.2.1,x.2.2.2.2.2.2.2.2.2.2.2.2.1,x.2.2.2.2.2.2.2.2.2.2.2.2.2.1,(x.names.1+1,gU .s x.names.2 k (m::(x.names.2 k).getD [])),x.2.2.2.2.2.2.2.2.2.2.2.2.2.2.2)
def W0 (b:ao) (x:BX) (v:VX):T (XV×BX×Unit):=.br (!((bj b.kind b.line v.v).no==0)) (.lf (wW (aE (bj b.kind b.line v.v)) x)) (.nd (x.ok 999999999998) (.lf (wW (sH 0 0) (fw b.kind b.name v.v x))))
def W4 (b:ao) (x:BX) (q:dA×VX):T (XV×BX×Unit):=.nd ((0:Int)<=0/\(0:Int)<=b.fields.length/\(b.fields.length:Int)=b.fields.length/\VX.zero.n 0/\b.fields.length<=274877906944/\∀f∈b.fields,kH f) (.br (!(q.1.no==0)) (.lf (wW (aE q.1) x)) (W0 b x q.2))
def W6 (b:ao) (x:BX):T (XV×BX×Unit):=.nd (bP b.kind/\bP b.name) (.br (!(fX b.kind b.name (x.d.of b.kind)==0)) (.lf (wW (sH (fX b.kind b.name (x.d.of b.kind)) b.line) x))
 (.nd (Kt.ok .s b.kind) (.nd ((((x.names.2 b.kind).getD []).length+1)*17<=140737488355328) (.nd (Kt.ok .s b.kind/\b.kind=b.kind/\x.names.1<1000000000000) (W4 b (x.nam b.kind b.name) (dH b.kind b.fields VX.zero))))))
def cX (b:ao) (x:BX):dA×BX:=
 if fX b.kind b.name (x.d.of b.kind)≠0 then(⟨fX b.kind b.name (x.d.of b.kind),b.line⟩,x)
 else if(dH b.kind b.fields VX.zero).1.no≠0 then((dH b.kind b.fields VX.zero).1,x.nam b.kind b.name)
 else if(bj b.kind b.line (dH b.kind b.fields VX.zero).2.v).no≠0 then(bj b.kind b.line (dH b.kind b.fields VX.zero).2.v,x.nam b.kind b.name)
 else(⟨0,0⟩,fw b.kind b.name (dH b.kind b.fields VX.zero).2.v (x.nam b.kind b.name))
theorem BX.d_nam (x:BX) (k m:ByteArray):(x.nam k m).d=x.d.named k m:=by
 have h:(λt=>(gU .s x.names.2 k (m::(x.names.2 k).getD []) t).map List.reverse)=eL x.d.names k (x.d.of k++[m]):=by
  refine(congrArg (λg:ByteArray->Option (List ByteArray)=>λt=>(g t).map List.reverse) (zZ x.names.2 k (m::(x.names.2 k).getD []))).trans ?_;funext t
  unfold eL;by_cases e:t=k
  ·subst e;rw[if_pos rfl,if_pos rfl];show some (m::(x.names.2 t).getD []).reverse=_;rw[List.reverse_cons];congr 2
   show _=((x.names.2 t).map List.reverse).getD [];cases x.names.2 t<;>rfl
  ·rw[if_neg e,if_neg e];rfl
 exact congrArg (λf=>({ x.d with names:=f }:cn)) h
theorem BX.ok_nam {x:BX} {n:Nat} (k m:ByteArray) (h:x.ok n):(x.nam k m).ok (n+1):=by
 obtain⟨h1,h2,h3,h4,h5⟩:=h;refine⟨Nat.le_succ_of_le h1,Nat.le_succ_of_le h2,Nat.le_succ_of_le h3,Nat.succ_le_succ h4,λt r e=>?_⟩;have e:eL x.names.2 k (m::(x.names.2 k).getD []) t=some r:=(congrFun (zZ x.names.2 k (m::(x.names.2 k).getD [])) t).symm.trans e;unfold eL at e;by_cases q:t=k
 ·subst q;rw[if_pos rfl] at e;obtain rfl:=Option.some.inj e;cases hz:x.names.2 t with
  | none=>simp
  | some z=>have:=h5 t z hz;simpa using this
 ·rw[if_neg q] at e;exact Nat.le_succ_of_le (h5 t r e)
theorem Ff (b:ao) (x:BX):ek b x.d=((cX b x).1,(cX b x).2.d):=by
 have hz:bo b.kind b.fields am.zero=_:=tr b.kind b.fields VX.zero;unfold ek cX;rw[hz];split
 ·rfl
 split
 ·rw[BX.d_nam]
 split
 ·rw[BX.d_nam]
 ·rw[Cp,BX.d_nam]
theorem Bb {b:ao} {x:BX} {n:Nat} (h:x.ok n):(cX b x).2.ok (n+2):=by
 have h1:=BX.ok_nam b.kind b.name h;have up:∀{y:BX} {m:Nat},y.ok m->m<=n+2->y.ok (n+2):=λh hm=>⟨Nat.le_trans h.1 hm,Nat.le_trans h.2 hm,Nat.le_trans h.3 hm,Nat.le_trans h.4 hm,λk r e=>Nat.le_trans (h.5 k r e) hm⟩;unfold cX;split
 ·exact up h (by omega)
 split
 ·exact up h1 (by omega)
 split
 ·exact up h1 (by omega)
 ·exact zy h1 (Nat.le_refl _)
theorem Jf:eB Tryz.prog 66 Uh [(0,qV),(1,.st 1)] [(0,qV)] λ((x:BX),(b:ao),_)=>.nd (dP b/\x.ok 999999999997) (.lf (wW (aE (cX b x).1) (cX b x).2)):=
 kI (C:=CV7) ((nL _ _).add 0 _ Ro) 99 [(0,qV),(1,.st 1)] [(0,qV)] (λ((x:BX),(b:ao),_)=>W6 b x) (λ⟨(x:BX),(b:ao),_⟩ r _ ⟨⟨⟨s1,s2,s3,s4⟩,hx⟩,h⟩=>by
  obtain rfl:wW (aE (cX b x).1) (cX b x).2=r:=h;refine⟨⟨s1,s2⟩,?_⟩;unfold cX;by_cases h1:fX b.kind b.name (x.d.of b.kind)=0
  ·rw[if_neg (by simpa using h1)];refine aQ (by rw[h1];rfl) ⟨s1.kt,?_,⟨s1.kt,rfl,by have:=hx.m;omega⟩,⟨by omega,by omega,rfl,⟨Nat.le_refl _,Nat.le_refl _,Nat.le_refl _⟩,s3,λf hf=>⟨(s4 f hf).1.1,(s4 f hf).1.2.2,(s4 f hf).1.2.1⟩⟩,?_⟩
   ·cases hz:x.names.2 b.kind with
    | none=>decide
    | some z=>have:=hx.r _ z hz;show(z.length+1)*17<=_;omega
   by_cases h2:(dH b.kind b.fields VX.zero).1.no=0
   ·rw[if_neg (by simpa using h2)];refine aQ (by rw[h2];rfl) ?_;by_cases h3:(bj b.kind b.line (dH b.kind b.fields VX.zero).2.v).no=0
    ·rw[if_neg (by simpa using h3)];exact aQ (by rw[h3];rfl) ⟨BX.ok_nam _ _ hx,rfl⟩
    ·rw[if_pos h3];exact aK (by rw[beq_false_of_ne h3];rfl) rfl
   ·rw[if_pos h2];exact aK (by rw[beq_false_of_ne h2];rfl) rfl
  ·rw[if_pos h1];exact aK (by rw[beq_false_of_ne h1];rfl) rfl) Tryz.func66
theorem Af {w:World} {S:Nat->Prop} {v:Value} {x:ai} (h:SV w S v x) (p:Nat) (nm:ByteArray) (hp:w.cell? ⟨p,0,none⟩=some (.string nm)) : Calls Tryz.prog 114 #[v,.pointer (some ⟨p,0,none⟩)] w (jz w (.bool (decide (x.name=nm)))):=by
 obtain⟨cs,rfl,A,n,c,rfl,_⟩:=h;have bp:Below w.heap.size w (w.alloc (.cells #[.string x.name,.slice A n c,.int .i64 x.method,.int .i64 x.seats,.int .i64 x.ranks,.int .i64 x.digits,.int .i64 x.ties,.int .i64 x.over,.int .i64 x.skip] 81)):=(Below.refl _ _).alloc (Nat.le_refl _) _;have nJ:bS (w.alloc (.cells #[.string x.name,.slice A n c,.int .i64 x.method,.int .i64 x.seats,.int .i64 x.ranks,.int .i64 x.digits,.int .i64 x.ties,.int .i64 x.over,.int .i64 x.skip] 81)) w.heap.size 81 #[.string x.name,.slice A n c,.int .i64 x.method,.int .i64 x.seats,.int .i64 x.ranks,.int .i64 x.digits,.int .i64 x.ties,.int .i64 x.over,.int .i64 x.skip]:=bS.new _ _ _;obtain⟨w1,dL⟩:∃q,w.alloc (.cells #[.string x.name,.slice A n c,.int .i64 x.method,.int .i64 x.seats,.int .i64 x.ranks,.int .i64 x.digits,.int .i64 x.ties,.int .i64 x.over,.int .i64 x.skip] 81)=q:=⟨_,rfl⟩;rw[dL] at bp nJ;have c0:w1.cell? ⟨w.heap.size,0,none⟩=some (.string x.name):=nJ.cell 0;have cp:w1.cell? ⟨p,0,none⟩=some (.string nm):=(bp.cell (World.block_lt_of_cell? w _ hp)).trans hp;have jN:=zH dL;have dc:=zH bp;clear dL bp nJ hp;go_enter Tryz.func114,Tryz.ntmps114;by_cases hn:x.name=nm
 ·have heq:(x.name.toList==nm.toList)=true:=by rw[hn];simp
  rw[decide_eq_true hn];clear hn;go_upto_region 1 with(fail);rw[jN.out];go_wp2_with fail;go_ret
  exact⟨rfl,dc.out⟩
 ·have heq:(x.name.toList==nm.toList)=false:=(Lib.bytes_beq_false_iff _ _).2 hn;rw[decide_eq_false hn];clear hn;go_upto_region 1 with(fail);rw[jN.out];go_wp2_with fail;go_ret
  exact⟨rfl,dc.out⟩
theorem Ii {w:World} {S:Nat->Prop} {A:Option Addr} {n c:Nat} {xs:List ai} (h:RS w S A n c xs) (hS:∀b,S b->b<w.heap.size) (p:Nat) (nm:ByteArray) (hp:w.cell? ⟨p,0,none⟩=some (.string nm)) : Calls Tryz.prog 113 #[.slice A n c,.func (.func 114) #[] #[.pointer (some ⟨p,0,none⟩)]] w (jz w (.int .i64 (bi nm xs 0))):=by
 obtain⟨z,hz⟩:∃z,bi nm xs 0=z:=⟨_,rfl⟩;rw[hz];have ew:=hz.symm;have AF:=h.max;have H1:=zH h;have HZ:=zH ew;have NE:=zH h.len;have HP:=zH hp;clear h hz ew hp;go_enter Tryz.func113,Tryz.ntmps113;go_wp2_with fail;go_loopw [8] (λiv wr=>∃k:Nat,iv=.int .i64 k/\k<=n/\z=bi nm (xs.drop k) k/\Below w.heap.size w wr) (λiv _=>n-(intOf iv).toNat)
 case atStart=>exact⟨0,rfl,Nat.zero_le _,by simpa using HZ.out,Below.refl _ _⟩
 case round=>
  clear HZ;obtain⟨k,rfl,hk,J0,hb⟩:=hrel;have Kx:=zH J0;have HB:=zH hb;have HR:=zH (H1.out.below hb hS);clear J0 hb;by_cases hlt:k<n
  ·have wv:(k:Int)<(n:Int):=by omega
   obtain⟨b,o,x,cs,rfl,wB,hx,hr,J7⟩:=HR.out.load_at (λb h=>Nat.lt_of_lt_of_le (hS b h) HB.out.size) hlt;have Vw:(k:Int)<=(c:Int):=by have:=HR.out.cap;omega
   have hz1:z=if x.name=nm then(k:Int) else bi nm (xs.drop (k+1)) (k+1):=by rw[Kx.out,fH hx];rfl
   have kP:=zH hz1;obtain⟨A3,n3,c3,rfl,x1⟩:=hr;have et:=J7 wr (Below.refl _ _);have r0:wr.cell? ⟨b,o+k*9,none⟩=some (.string x.name):=et.1 _ rfl;have r1:wr.cell? ⟨b,o+k*9+1,none⟩=some (.slice A3 n3 c3):=et.2 1 _ rfl;have r2:wr.cell? ⟨b,o+k*9+2,none⟩=some (.int .i64 x.method):=et.2 2 _ rfl;have r3:wr.cell? ⟨b,o+k*9+3,none⟩=some (.int .i64 x.seats):=et.2 3 _ rfl;have r4:wr.cell? ⟨b,o+k*9+4,none⟩=some (.int .i64 x.ranks):=et.2 4 _ rfl;have r5:wr.cell? ⟨b,o+k*9+5,none⟩=some (.int .i64 x.digits):=et.2 5 _ rfl;have r6:wr.cell? ⟨b,o+k*9+6,none⟩=some (.int .i64 x.ties):=et.2 6 _ rfl;have r7:wr.cell? ⟨b,o+k*9+7,none⟩=some (.int .i64 x.over):=et.2 7 _ rfl;have r8:wr.cell? ⟨b,o+k*9+8,none⟩=some (.int .i64 x.skip):=et.2 8 _ rfl;have Zj:wr.cell? ⟨p,0,none⟩=some (.string nm):=(HB.out.cell (World.block_lt_of_cell? w _ HP.out)).trans HP.out;have HC:=zH (Af (w:=wr) (S:=S) (x:=x) ⟨_,rfl,A3,n3,c3,rfl,x1⟩ p nm Zj);clear et J7 hx hz1 x1 Zj;go_wp2_with fail;refine HC.out.mono ?_;rintro e w3 ⟨rfl,kE⟩;have qx:=zH (ah HB.out kE);clear kE;by_cases hn:x.name=nm
   ·rw[decide_eq_true hn];have bE:z=(k:Int):=by rw[kP.out,if_pos hn]
    have fJ:=zH bE;clear bE hn;go_wp2_with fail;go_ret
    exact⟨by rw[fJ.out];rfl,qx.out⟩
   ·rw[decide_eq_false hn];have bE:z=bi nm (xs.drop (k+1)) (k+1):=by rw[kP.out,if_neg hn]
    have fJ:=zH bE;clear bE hn;go_wp2_with fail;go_roundw
    case rel=>exact⟨k+1,by go_num,by omega,fJ.out,qx.out⟩
    case measure=>simp[intOf];omega
  ·have oV:k=n:=by omega
   have bE:z= -1:=by
    rw[Kx.out,List.drop_eq_nil_of_le (by rw[NE.out];omega)];rfl
   have fJ:=zH bE;clear bE oV;go_wp2_with fail;go_ret
   exact⟨by rw[fJ.out];rfl,HB.out⟩
abbrev PZ:FuncId:=114
theorem DR:aj Tryz.prog 113 false (az [(0,sD (.list (.st 3))),(1,.cl PZ .str)] λ((l:List ai),(s:ByteArray),_)=>.lf (aI (bi s l 0))):=
 gV λw S x vs r hS he hl hr=>by
  obtain⟨(l:List ai),(s:ByteArray),_⟩:=x;obtain⟨v,h1,A,q,c,h2,h3,_⟩:=he 0 (.one (.list (.st 3) l false)) List.mem_cons_self;obtain⟨v',iA,b,cs,hb,Ew,Wu,h4'⟩:=he 1 (.one (.cl PZ .str s)) (List.mem_cons_of_mem _ List.mem_cons_self);obtain rfl:=hr
  match vs,hl,h1,iA with
  | [u,u'],_,h1,iA=>
   injection h1 with h1
   injection iA with iA
   subst h1 iA h2 Ew;obtain rfl:cs=[.string s]:=Wu;exact Calls.mono (Ii h3 hS b s (h4' 0 _ rfl)) λ_ _ h=>uH rfl h
theorem Eu:aj Tryz.prog 115 false (az [(0,sD (.list .bool)),(1,sB)] λ((l:List Bool),(b:Bool),_)=>.lf (aB (l.contains b))):=
 gV λw S x vs r hS he hl hr=>by
  obtain⟨(l:List Bool),(s:Bool),_⟩:=x;obtain⟨v,h1,A,q,c,h2,h3,_⟩:=he 0 (.one (.list .bool l false)) List.mem_cons_self;obtain⟨v',iA,Ew,_⟩:=he 1 (aB s) (List.mem_cons_of_mem _ List.mem_cons_self);obtain rfl:=hr
  match vs,hl,h1,iA with
  | [u,u'],_,h1,iA=>
   injection h1 with h1
   injection iA with iA
   subst h1 iA h2 Ew;exact Calls.mono (IC h3 s) λ_ _ h=>uH rfl ⟨h.1,h.2▸Below.refl _ _⟩
noncomputable def CV8:dN Tryz.prog:=bH Ge [⟨_,_,_,yA⟩,⟨_,_,_,DR⟩,⟨_,_,_,Eu⟩] []
noncomputable abbrev PK:=Tryz.f68
abbrev Z1:List CS:=[.d .str,.d tI,.d tI,.d tI,.d (.list .str),.own (.st 3) 81,.zc (.st 4) (.st 10) 91,.d tI,.d tI,.d .bool,.d (.list .limb),.d (.list .limb),.d tI,.d .str,.mr .s .str 9,.d (.list (.st 14))]
abbrev Z5:List CS:=[.d .str,.d tI,.d tI,.d tI,.d (.list .str),.own (.st 3) 81,.zip (.st 4) (.st 10) 91 [.d .str,.own tI 3,.own tI 3],.d tI,.d tI,.d .bool,.d (.list .limb),.d (.list .limb),.d tI,.d .str,.mr .s .str 9,.d (.list (.st 14))]
abbrev uT:SS:=.box 113 Z1
abbrev TY:SS:=.box 113 Z5
abbrev Z7:List CS:=[.d (.mp .s tI),.d (.mp .s (.list .str)),.d (.mp .s tI),.d .bool,.d (.list .limb),.d (.list .limb),.d .str]
abbrev TS:SS:=.box 163 Z7
abbrev OX:SS:=.c (.own .bool 4)
noncomputable abbrev Ho:Rg Tryz.prog PK.ntmps:=nH (Q0 CV8 PK [0] [(2,[23])]) [(5,QR 0 6),(11,sa 0 6),(13,sa 0 6),(22,sa 0 6),(25,sa 0 6)] [(2,MK 0 6 (.st 4) (.st 10))]
abbrev BZ:=eX Z1
abbrev BO:=eX Z5
abbrev F3:=eX Z7
abbrev ZIn:=Nat×List ax×(ByteArray×List Int×List Int×Unit)×List ByteArray
namespace BO
abbrev prec (x:BO):List ByteArray:=x.2.2.2.2.1
abbrev cont (x:BO):List ai:=x.2.2.2.2.2.1
abbrev z (x:BO):ZIn:=x.2.2.2.2.2.2.1
abbrev ps (x:BO):List Int:=x.z.2.2.1.2.1
abbrev cs (x:BO):List Int:=x.z.2.2.1.2.2.1
def withP (x:BO) (ps cs:List Int):BO:=(x.1,x.2.1,x.2.2.1,x.2.2.2.1,x.2.2.2.2.1,x.2.2.2.2.2.1,(x.z.1,x.z.2.1,(x.z.2.2.1.1,ps,cs,()),x.z.2.2.2),x.2.2.2.2.2.2.2)
def cl (x:BO):BZ:=(x.1,x.2.1,x.2.2.1,x.2.2.2.1,x.2.2.2.2.1,x.2.2.2.2.2.1,(x.z.1,x.z.2.1++[⟨x.z.2.2.1.1,x.ps.reverse,x.cs.reverse⟩],x.z.2.2.2),x.2.2.2.2.2.2.2)
end BO
abbrev F3.ln (v:F3) (k:ByteArray):Int:=(v.2.2.1 k).getD (0:Int)
abbrev NS:List (Nat×SS):=[(0,TY),(2,Bp),(3,OX),(4,sI),(5,TS),(6,.sb 2 3),(23,sD (.list (.st 14))),(24,sI),(25,sI),(39,sL),(40,sI),(41,sI)]
abbrev PV:List (Nat×SS):=[(0,TY),(2,Bp),(3,OX),(4,sI),(5,TS),(6,.sb 2 3),(23,sD (.list (.st 14))),(24,sI),(25,sI),(84,sL),(85,sI),(86,sI)]
abbrev DG:List (Nat×SS):=[(0,TY),(2,Bp),(3,OX),(4,sI),(5,TS),(6,.sb 2 3),(23,sD (.list (.st 14))),(24,sI),(25,sI)]
section
variable {L:Type} (back:BO->List Bool->L) (out:BO->List Bool->L) (ret:dA->BZ->L) (v:F3)
def Sz (k:ByteArray) (x:BO) (no:Int):T L:=.nd (Kt.ok .s k) (.lf (ret ⟨no,v.ln k⟩ x.cl))
def UD (x:BO) (us:List Bool) (l:List ByteArray) (a j:Int):T L:=.br (decide (j<a)) (.nd (0<=j/\j<l.length) (.br (decide (Lib.idxOfS x.prec (l.getD j.toNat ⟨#[]⟩)<0)) (Sz ret v ac x 2)
 (.nd (0<=Lib.idxOfS x.prec (l.getD j.toNat ⟨#[]⟩)/\Lib.idxOfS x.prec (l.getD j.toNat ⟨#[]⟩)<us.length) (.br (us.reverse.getD (Lib.idxOfS x.prec (l.getD j.toNat ⟨#[]⟩)).toNat false) (Sz ret v ac x 3)
 (.nd (0<=Lib.idxOfS x.prec (l.getD j.toNat ⟨#[]⟩)/\Lib.idxOfS x.prec (l.getD j.toNat ⟨#[]⟩)<us.length) (.nd ((x.ps.length+1)*9<=140737488355328) (.nd (dD (j+1)) (.lf (back (x.withP (Lib.idxOfS x.prec (l.getD j.toNat ⟨#[]⟩)::x.ps) x.cs) (us.reverse.set (Lib.idxOfS x.prec (l.getD j.toNat ⟨#[]⟩)).toNat true).reverse))))))))) (.lf (out x us))
def UC (x:BO) (us:List Bool) (l:List ByteArray) (a j:Int):T L:=.br (decide (j<a)) (.nd (0<=j/\j<l.length) (.br (decide (bi (l.getD j.toNat ⟨#[]⟩) x.cont.reverse 0<0)) (Sz ret v au x 2)
 (.nd ((x.cs.length+1)*9<=140737488355328) (.nd (dD (j+1)) (.lf (back (x.withP x.ps (bi (l.getD j.toNat ⟨#[]⟩) x.cont.reverse 0::x.cs)) us)))))) (.lf (out x us))
def NQ (x:BO) (u:List Bool) (ps cs:List Int) (e:dA):T L:=.br (e.no==0) (.lf (out (x.withP ps.reverse cs.reverse) u.reverse)) (.lf (ret e (x.withP ps.reverse cs.reverse).cl))
end
def kv (prec:List ByteArray) (line:Int):List ByteArray->List Bool->List Int->(List Bool×List Int)×dA
 | [],u,a=>((u,a),⟨0,0⟩)
 | s::l,u,a=>if Lib.idxOfS prec s<0 then((u,a),⟨2,line⟩) else if u.getD (Lib.idxOfS prec s).toNat false=true then((u,a),⟨3,line⟩) else kv prec line l (u.set (Lib.idxOfS prec s).toNat true) (a++[Lib.idxOfS prec s])
def rG (cont:List ai) (line:Int):List ByteArray->List Int->List Int×dA
 | [],a=>(a,⟨0,0⟩)
 | s::l,a=>if bi s cont 0<0 then(a,⟨2,line⟩) else rG cont line l (a++[bi s cont 0])
abbrev eF (e:dA):XV:=.agg [.val (.int .i64 e.no),.sym (.int .i64 e.line)]
section
variable (y:jA) (c:Int) (v:F3) (vs:List am) (n i:Int) (l:List ByteArray) (a j:Int)
def LO (x:BO) (us:List Bool):LE NS DG [(0,uT)]:=.back (x,y,us,c,v,(),vs,n,i,l,a,j+1,())
def yv (x:BO) (us:List Bool):LE NS DG [(0,uT)]:=.out (x,y,us,c,v,(),vs,n,i,())
def pH (e:dA) (x:BZ):LE NS DG [(0,uT)]:=.ret (eF e) (x,())
def LN (x:BO) (us:List Bool):LE PV DG [(0,uT)]:=.back (x,y,us,c,v,(),vs,n,i,l,a,j+1,())
def DF (x:BO) (us:List Bool):LE PV DG [(0,uT)]:=.out (x,y,us,c,v,(),vs,n,i,())
def DD (e:dA) (x:BZ):LE PV DG [(0,uT)]:=.ret (eF e) (x,())
end
def Sy (x:BO) (us:List Bool) (r:List Int) (l:List ByteArray) (a j:Int):Prop:=0<=j/\j<=l.length/\a=l.length/\us.length=x.prec.length/\(r.length:Int)=j/\l.length<=1099511627776
theorem Ih (l:List ByteArray) (s:ByteArray):Lib.idxOfS l s<0\/(0<=Lib.idxOfS l s/\Lib.idxOfS l s<l.length):=by
 have:=fE s l 0;have h2:∀(l:List ByteArray) (i:Nat),Lib.idxFromS l s i<0\/Lib.idxFromS l s i<i+l.length:=by
  intro l;induction l with
  | nil=>intro i;exact .inl (by show(-1:Int)<0;omega)
  | cons x l ih=>
   intro i;unfold Lib.idxFromS;rw[List.length_cons];split
   ·exact .inr (by omega)
   ·rcases ih (i+1) with h|h
    ·exact .inl h
    ·exact .inr (by omega)
 have h3:=h2 l 0;unfold Lib.idxOfS;omega
theorem Hl:dS Ho 1 2 NS DG [(0,uT)] λ((x:BO),(y:jA),(us:List Bool),(c:Int),(v:F3),_,(vs:List am),(n:Int),(i:Int),(l:List ByteArray),(a:Int),(j:Int),_)=>
 .nd (Sy x us x.ps l a j) (NQ (yv y c v vs n i) pH x (kv x.prec (v.ln ac) (l.drop j.toNat) us.reverse x.ps.reverse).1.1 (kv x.prec (v.ln ac) (l.drop j.toNat) us.reverse x.ps.reverse).1.2 x.cs.reverse (kv x.prec (v.ln ac) (l.drop j.toNat) us.reverse x.ps.reverse).2):=by
  refine jX _ (nL _ _) 99 1 2 NS DG [(0,uT)] (λ((x:BO),(y:jA),(us:List Bool),(c:Int),(v:F3),_,(vs:List am),(n:Int),(i:Int),(l:List ByteArray),(a:Int),(j:Int),_)=>UD (LO y c v vs n i l a j) (yv y c v vs n i) pH v x us l a j)
   (λ(_,_,_,_,_,_,_,_,_,(l:List ByteArray),_,(j:Int),_)=>l.length-j.toNat) ?_
  rintro⟨(x:BO),(y:jA),(us:List Bool),(c:Int),(v:F3),⟨⟩,(vs:List am),(n:Int),(i:Int),(l:List ByteArray),(a:Int),(j:Int),_⟩ r _ ⟨⟨h0,h1,rfl,h5,h6,h7⟩,hr⟩;have hr:(NQ (yv y c v vs n i) pH x _ _ _ _).hit r:=hr;obtain⟨k,rfl⟩:∃k:Nat,j=k:=⟨j.toNat,by omega⟩;rw[Int.toNat_natCast] at hr;have P2:x.withP x.ps.reverse.reverse x.cs.reverse.reverse=x:=by rw[List.reverse_reverse,List.reverse_reverse];rfl
  show∃q,(UD _ _ _ v x us l l.length k).hit q/\_;unfold UD;by_cases hk:k<l.length
  ·rw[getD_drop (⟨#[]⟩:ByteArray) hk,kv] at hr;rw[Int.toNat_natCast];have hE:∀no:Int,no≠0->(NQ (yv y c v vs n i) pH x us.reverse x.ps.reverse x.cs.reverse ⟨no,v.ln ac⟩).hit r->(Sz (L:=LE NS DG [(0,uT)]) pH v ac x no).hit r/\pH ⟨no,v.ln ac⟩ x.cl=r:=λno hn h=>by
    have h:=h.2 (beq_false_of_ne hn);rw[P2] at h;exact⟨⟨kg,h⟩,h⟩
   have hn:(0:Int)<=k/\(k:Int)<l.length:=⟨by omega,by omega⟩;split at hr
   ·rename_i hlt;obtain⟨q1,rfl⟩:=hE 2 (by decide) hr;exact⟨_,aK (decide_eq_true hn.2) ⟨hn,aK (decide_eq_true hlt) q1⟩,rfl⟩
   ·rename_i hge;have hx:=(Ih x.prec (l.getD k ⟨#[]⟩)).resolve_left hge;split at hr
    ·rename_i hu;obtain⟨q1,rfl⟩:=hE 3 (by decide) hr;exact⟨_,aK (decide_eq_true hn.2) ⟨hn,aQ (decide_eq_false hge) ⟨⟨hx.1,by omega⟩,aK hu q1⟩⟩,rfl⟩
    ·rename_i hu;refine⟨_,aK (decide_eq_true hn.2) ⟨hn,aQ (decide_eq_false hge) ⟨⟨hx.1,by omega⟩,aQ (by simpa using hu) ⟨⟨hx.1,by omega⟩,by omega,⟨by omega,by omega⟩,rfl⟩⟩⟩,?_,?_⟩
     ·show l.length-(k+1)<l.length-k;omega
     ·refine⟨⟨by omega,by omega,rfl,?_,?_,h7⟩,?_⟩
      ·rw[List.length_reverse,List.length_set,List.length_reverse];exact h5
      ·show((x.ps.length+1:Nat):Int)=(k:Int)+1;omega
      ·show(NQ _ _ _ _ _ _ _).hit r;rw[List.reverse_reverse];have e:(Lib.idxOfS x.prec (l.getD k ⟨#[]⟩)::x.ps).reverse=x.ps.reverse++[Lib.idxOfS x.prec (l.getD k ⟨#[]⟩)]:=by simp
       rw[<-e] at hr;exact hr
  ·rw[List.drop_eq_nil_of_le (by omega),kv] at hr;have h:=hr.1 rfl;rw[P2,List.reverse_reverse] at h;obtain rfl:=h;exact⟨_,aQ (decide_eq_false (by omega)) rfl,rfl⟩
theorem Hk:dS Ho 2 5 PV DG [(0,uT)] λ((x:BO),(y:jA),(us:List Bool),(c:Int),(v:F3),_,(vs:List am),(n:Int),(i:Int),(l:List ByteArray),(a:Int),(j:Int),_)=>
 .nd (Sy x us x.cs l a j) (NQ (DF y c v vs n i) DD x us.reverse x.ps.reverse (rG x.cont.reverse (v.ln au) (l.drop j.toNat) x.cs.reverse).1 (rG x.cont.reverse (v.ln au) (l.drop j.toNat) x.cs.reverse).2):=by
  refine jX _ (nL _ _) 99 2 5 PV DG [(0,uT)] (λ((x:BO),(y:jA),(us:List Bool),(c:Int),(v:F3),_,(vs:List am),(n:Int),(i:Int),(l:List ByteArray),(a:Int),(j:Int),_)=>UC (LN y c v vs n i l a j) (DF y c v vs n i) DD v x us l a j)
   (λ(_,_,_,_,_,_,_,_,_,(l:List ByteArray),_,(j:Int),_)=>l.length-j.toNat) ?_
  rintro⟨(x:BO),(y:jA),(us:List Bool),(c:Int),(v:F3),⟨⟩,(vs:List am),(n:Int),(i:Int),(l:List ByteArray),(a:Int),(j:Int),_⟩ r _ ⟨⟨h0,h1,rfl,h5,h6,h7⟩,hr⟩;have hr:(NQ (DF y c v vs n i) DD x _ _ _ _).hit r:=hr;obtain⟨k,rfl⟩:∃k:Nat,j=k:=⟨j.toNat,by omega⟩;rw[Int.toNat_natCast] at hr;have P2:x.withP x.ps.reverse.reverse x.cs.reverse.reverse=x:=by rw[List.reverse_reverse,List.reverse_reverse];rfl
  show∃q,(UC _ _ _ v x us l l.length k).hit q/\_;unfold UC;by_cases hk:k<l.length
  ·rw[getD_drop (⟨#[]⟩:ByteArray) hk,rG] at hr;rw[Int.toNat_natCast];have hn:(0:Int)<=k/\(k:Int)<l.length:=⟨by omega,by omega⟩;split at hr
   ·rename_i hlt;have h:=hr.2 rfl;rw[P2] at h;obtain rfl:=h;exact⟨_,aK (decide_eq_true hn.2) ⟨hn,aK (decide_eq_true hlt) ⟨kg,rfl⟩⟩,rfl⟩
   ·rename_i hge;refine⟨_,aK (decide_eq_true hn.2) ⟨hn,aQ (decide_eq_false hge) ⟨by omega,⟨by omega,by omega⟩,rfl⟩⟩,?_,?_⟩
    ·show l.length-(k+1)<l.length-k;omega
    ·refine⟨⟨by omega,by omega,rfl,h5,?_,h7⟩,?_⟩
     ·show((x.cs.length+1:Nat):Int)=(k:Int)+1;omega
     ·have e:(bi (l.getD k ⟨#[]⟩) x.cont.reverse 0::x.cs).reverse=x.cs.reverse++[bi (l.getD k ⟨#[]⟩) x.cont.reverse 0]:=by simp
      rw[<-e] at hr;exact hr
  ·rw[List.drop_eq_nil_of_le (by omega),rG] at hr;have h:=hr.1 rfl;rw[P2,List.reverse_reverse] at h;obtain rfl:=h;exact⟨_,aQ (decide_eq_false (by omega)) rfl,rfl⟩
abbrev UF:List (Nat×SS):=[(0,uT),(2,Bp),(3,OX),(23,sD (.list (.st 14))),(24,sI),(25,sI)]
abbrev UE:List (Nat×SS):=[(0,uT),(2,Bp),(3,OX)]
abbrev K0:=LE UF UE [(0,uT)]
abbrev ZcB:=Nat×List ax×List ByteArray
namespace BZ
abbrev prec (x:BZ):List ByteArray:=x.2.2.2.2.1
abbrev cont (x:BZ):List ai:=x.2.2.2.2.2.1
abbrev z (x:BZ):ZcB:=x.2.2.2.2.2.2.1
def withZ (x:BZ) (d:List ax) (r:List ByteArray):BZ:=(x.1,x.2.1,x.2.2.1,x.2.2.2.1,x.2.2.2.2.1,x.2.2.2.2.2.1,(x.z.1,d,r),x.2.2.2.2.2.2.2)
def op (x:BZ):BO:=(x.1,x.2.1,x.2.2.1,x.2.2.2.1,x.2.2.2.2.1,x.2.2.2.2.2.1,(x.z.1,x.z.2.1,(x.z.2.2.getD 0 ⟨#[]⟩,[],[],()),x.z.2.2.drop 1),x.2.2.2.2.2.2.2)
end BZ
section
variable (y:jA) (vs:List am) (n i:Int)
def Hp {L:Type} (out:BO->List Bool->T L) (ret:dA->BZ->L) (x:BO) (u:List Bool) (ps cs:List Int) (e:dA):T L:=.br (e.no==0) (out (x.withP ps.reverse cs.reverse) u.reverse) (.lf (ret e (x.withP ps.reverse cs.reverse).cl))
def pJ (e:dA) (x:BZ):K0:=.ret (eF e) (x,())
def YU (x:BO) (us:List Bool):T K0:=.nd (dD (i+1)) (.lf (.back (x.cl,y,us,vs,n,i+1,())))
def UG (v:am) (x:BO) (us:List Bool):T K0:=.nd (Kt.ok .s au) (.nd (Sy x us x.cs (v.s au) (v.s au).length 0) (Hp (YU y vs n i) pJ x us.reverse x.ps.reverse (rG x.cont.reverse (v.l au) ((v.s au).drop (Int.toNat 0)) x.cs.reverse).1 (rG x.cont.reverse (v.l au) ((v.s au).drop (Int.toNat 0)) x.cs.reverse).2))
def YV (v:am) (x:BO) (us:List Bool):T K0:=.nd (Kt.ok .s ac) (.nd (Sy x us x.ps (v.s ac) (v.s ac).length 0) (Hp (UG y vs n i v) pJ x (kv x.prec (v.l ac) ((v.s ac).drop (Int.toNat 0)) us.reverse x.ps.reverse).1.1 (kv x.prec (v.l ac) ((v.s ac).drop (Int.toNat 0)) us.reverse x.ps.reverse).1.2 x.cs.reverse (kv x.prec (v.l ac) ((v.s ac).drop (Int.toNat 0)) us.reverse x.ps.reverse).2))
def UH (x:BZ) (us:List Bool):T K0:=.br (decide (i<n)) (.nd (0<=i/\i<vs.length) (.nd (x.z.2.1.length<x.z.1) (.nd (i=x.z.2.1.length) (YV y vs n i (vs.getD i.toNat am.zero) x.op us)))) (.lf (.out (x,y,us,())))
end
def jY (prec:List ByteArray) (cont:List ai):List am->List ax->List ByteArray->List Bool->(List ax×List ByteArray×List Bool)×dA
 | [],d,r,u=>((d,r,u),⟨0,0⟩)
 | v::vs,d,r,u=>
  if(kv prec (v.l ac) (v.s ac) u []).2.no=0 then
   if(rG cont (v.l au) (v.s au) []).2.no=0 then jY prec cont vs (d++[⟨r.getD 0 ⟨#[]⟩,(kv prec (v.l ac) (v.s ac) u []).1.2,(rG cont (v.l au) (v.s au) []).1⟩]) (r.drop 1) (kv prec (v.l ac) (v.s ac) u []).1.1
   else((d++[⟨r.getD 0 ⟨#[]⟩,(kv prec (v.l ac) (v.s ac) u []).1.2,(rG cont (v.l au) (v.s au) []).1⟩],r.drop 1,(kv prec (v.l ac) (v.s ac) u []).1.1),(rG cont (v.l au) (v.s au) []).2)
  else((d++[⟨r.getD 0 ⟨#[]⟩,(kv prec (v.l ac) (v.s ac) u []).1.2,[]⟩],r.drop 1,(kv prec (v.l ac) (v.s ac) u []).1.1),(kv prec (v.l ac) (v.s ac) u []).2)
theorem yk (prec:List ByteArray) (line:Int):∀(l:List ByteArray) (u:List Bool) (a:List Int),(kv prec line l u a).1.1.length=u.length
 | [],_,_=>rfl
 | s::l,u,a=>by
  unfold kv;split
  ·rfl
  split
  ·rfl
  ·rw[yk prec line l,List.length_set]
def OH (v:am):Prop:=(v.s ac).length<=1099511627776/\(v.s au).length<=1099511627776
def YQ (x:BZ) (y:jA) (q:(List ax×List ByteArray×List Bool)×dA):T K0:=.br (q.2.no==0) (.lf (.out (x.withZ q.1.1 q.1.2.1,y,q.1.2.2.reverse,()))) (.lf (.ret (eF q.2) (x.withZ q.1.1 q.1.2.1,())))
theorem Hm:dS Ho 0 0 UF UE [(0,uT)] λ((x:BZ),(y:jA),(us:List Bool),(vs:List am),(n:Int),(i:Int),_)=>
 .nd (0<=i/\i<=vs.length/\n=vs.length/\i=x.z.2.1.length/\x.z.1=vs.length/\us.length=x.prec.length/\∀v∈vs,OH v) (YQ x y (jY x.prec x.cont.reverse (vs.drop i.toNat) x.z.2.1 x.z.2.2 us.reverse)):=by
  refine jX _ (((nL _ _).add 1 _ Hl).add 2 _ Hk) 99 0 0 UF UE [(0,uT)] (λ((x:BZ),(y:jA),(us:List Bool),(vs:List am),(n:Int),(i:Int),_)=>UH y vs n i x us)
   (λ(_,_,_,(vs:List am),_,(i:Int),_)=>vs.length-i.toNat) ?_
  rintro⟨(x:BZ),(y:jA),(us:List Bool),(vs:List am),(n:Int),(i:Int),_⟩ r QM ⟨⟨h0,h1,rfl,h3,h4,h5,h6⟩,hr⟩;have Bs:vs.length<=9223372036854775807:=QM.2.2.2.1;obtain⟨k,rfl⟩:∃k:Nat,i=k:=⟨i.toNat,by omega⟩;rw[Int.toNat_natCast] at hr;show∃q,(UH y vs vs.length k x us).hit q/\_;unfold UH;by_cases hk:k<vs.length
  ·rw[getD_drop am.zero hk,jY] at hr;rw[Int.toNat_natCast];obtain⟨v,hv⟩:∃v,vs.getD k am.zero=v:=⟨_,rfl⟩;have mf:OH v:=h6 v (by rw[<-hv,List.getD_eq_getElem?_getD,List.getElem?_eq_getElem hk];exact List.getElem_mem _);rw[hv] at hr ⊢;have hn:(0:Int)<=k/\(k:Int)<vs.length:=⟨by omega,by omega⟩;have pre:∀{q},(Hp (UG y vs vs.length k v) pJ x.op (kv x.prec (v.l ac) (v.s ac) us.reverse []).1.1 (kv x.prec (v.l ac) (v.s ac) us.reverse []).1.2 [] (kv x.prec (v.l ac) (v.s ac) us.reverse []).2).hit q->(T.br (decide ((k:Int)<vs.length)) (.nd (0<=(k:Int)/\(k:Int)<vs.length) (.nd (x.z.2.1.length<x.z.1) (.nd ((k:Int)=x.z.2.1.length) (YV y vs vs.length k v x.op us)))) (.lf (.out (x,y,us,())))).hit q:=λhq=>
    aK (decide_eq_true hn.2) ⟨hn,by omega,h3,kg,⟨by omega,by omega,rfl,h5,rfl,mf.1⟩,hq⟩
   have hlen:=yk x.prec (v.l ac) (v.s ac) us.reverse [];obtain⟨q,hq⟩:∃q,kv x.prec (v.l ac) (v.s ac) us.reverse []=q:=⟨_,rfl⟩;obtain⟨p,hp⟩:∃p,rG x.cont.reverse (v.l au) (v.s au) []=p:=⟨_,rfl⟩;rw[hq] at hr hlen pre;rw[hp] at hr;rw[List.length_reverse] at hlen;by_cases e1:q.2.no=0
   ·rw[if_pos e1] at hr;have Pk:∀{t},(Hp (YU y vs vs.length k) pJ (x.op.withP q.1.2.reverse []) q.1.1.reverse.reverse q.1.2.reverse.reverse p.1 p.2).hit t->(UG y vs vs.length k v (x.op.withP q.1.2.reverse []) q.1.1.reverse).hit t:=λht=>
     ⟨kg,⟨by omega,by omega,rfl,by rw[List.length_reverse,hlen];exact h5,rfl,mf.2⟩,by
      have:rG (x.op.withP q.1.2.reverse []).cont.reverse (v.l au) ((v.s au).drop (Int.toNat 0)) (x.op.withP q.1.2.reverse []).cs.reverse=p:=hp;rw[this];exact ht⟩
    have ex:((x.op.withP q.1.2.reverse []).withP q.1.2.reverse.reverse.reverse p.1.reverse).cl=x.withZ (x.z.2.1++[⟨x.z.2.2.getD 0 ⟨#[]⟩,q.1.2,p.1⟩]) (x.z.2.2.drop 1):=by
     have e3:q.1.2.reverse.reverse.reverse.reverse=q.1.2:=by simp only[List.reverse_reverse]
     have e4:p.1.reverse.reverse=p.1:=List.reverse_reverse _;show x.withZ (x.z.2.1++[⟨x.z.2.2.getD 0 ⟨#[]⟩,q.1.2.reverse.reverse.reverse.reverse,p.1.reverse.reverse⟩]) (x.z.2.2.drop 1)=_;rw[e3,e4]
    by_cases e2:p.2.no=0
    ·rw[if_pos e2] at hr;refine⟨.back (x.withZ (x.z.2.1++[⟨x.z.2.2.getD 0 ⟨#[]⟩,q.1.2,p.1⟩]) (x.z.2.2.drop 1),y,q.1.1.reverse.reverse.reverse,vs,(vs.length:Int),(k:Int)+1,()),pre (aK (by rw[e1];rfl) (Pk (aK (by rw[e2];rfl) ⟨⟨by omega,by omega⟩,by rw[ex];rfl⟩))),?_,?_⟩
     ·show vs.length-(k+1)<vs.length-k;omega
     ·refine⟨⟨by omega,by omega,rfl,?_,h4,?_,h6⟩,?_⟩
      ·show(k:Int)+1=((x.z.2.1++[_]).length:Nat);rw[List.length_append,List.length_singleton];omega
      ·show q.1.1.reverse.reverse.reverse.length=x.prec.length;rw[List.length_reverse,List.length_reverse,List.length_reverse,hlen];exact h5
      ·show(YQ _ _ (jY _ _ (vs.drop (k+1)) _ _ q.1.1.reverse.reverse.reverse.reverse)).hit r;simp only[List.reverse_reverse];exact hr
    ·rw[if_neg e2] at hr;obtain rfl:=hr.2 (beq_false_of_ne e2);refine⟨pJ p.2 (x.withZ (x.z.2.1++[⟨x.z.2.2.getD 0 ⟨#[]⟩,q.1.2,p.1⟩]) (x.z.2.2.drop 1)),pre (aK (by rw[e1];rfl) (Pk (aQ (beq_false_of_ne e2) ?_))),rfl⟩;rw[ex];rfl
   ·rw[if_neg e1] at hr;obtain rfl:=hr.2 (beq_false_of_ne e1);refine⟨pJ q.2 (x.withZ (x.z.2.1++[⟨x.z.2.2.getD 0 ⟨#[]⟩,q.1.2,[]⟩]) (x.z.2.2.drop 1)),pre (aQ (beq_false_of_ne e1) ?_),rfl⟩;have ex:(x.op.withP q.1.2.reverse ([]:List Int).reverse).cl=x.withZ (x.z.2.1++[⟨x.z.2.2.getD 0 ⟨#[]⟩,q.1.2,[]⟩]) (x.z.2.2.drop 1):=by
     show x.withZ (x.z.2.1++[⟨x.z.2.2.getD 0 ⟨#[]⟩,q.1.2.reverse.reverse,[]⟩]) (x.z.2.2.drop 1)=_;rw[List.reverse_reverse]
    rw[ex];rfl
  ·rw[List.drop_eq_nil_of_le (by omega),jY] at hr;have h:=hr.1 rfl;rw[List.reverse_reverse] at h;obtain rfl:=h;exact⟨_,aQ (decide_eq_false (by omega)) rfl,rfl⟩
abbrev Z2:List CS:=[.d .str,.d tI,.d tI,.d tI,.d (.list .str),.own (.st 3) 81,.zc (.st 4) (.st 10) 91,.d tI,.d tI,.d .bool,.d (.list .limb),.d (.list .limb),.d tI,.d .str,.mr .s .str 9,.any]
abbrev TX:SS:=.box 113 Z2
abbrev BY:=eX Z2
def BZ.y (x:BZ):BY:=(x.1,x.2.1,x.2.2.1,x.2.2.2.1,x.2.2.2.2.1,x.2.2.2.2.2.1,x.2.2.2.2.2.2.1,x.2.2.2.2.2.2.2.1,x.2.2.2.2.2.2.2.2.1,x.2.2.2.2.2.2.2.2.2.1,x.2.2.2.2.2.2.2.2.2.2.1,x.2.2.2.2.2.2.2.2.2.2.2.1,x.2.2.2.2.2.2.2.2.2.2.2.2.1,x.2.2.2.2.2.2.2.2.2.2.2.2.2.1,x.2.2.2.2.2.2.2.2.2.2.2.2.2.2.1,(),())
abbrev Bh (r:XV) (x:BZ):XV×BY×Unit:=(r,x.y,())
abbrev BX.prec (x:BX):List ByteArray:=x.2.2.2.2.1
def BX.zb (x:BX):BZ:=(x.1,x.2.1,x.2.2.1,x.2.2.2.1,x.2.2.2.2.1,x.2.2.2.2.2.1,(x.styn.length,[],x.styn.reverse),x.2.2.2.2.2.2.2.1,x.2.2.2.2.2.2.2.2.1,x.2.2.2.2.2.2.2.2.2.1,x.2.2.2.2.2.2.2.2.2.2.1,x.2.2.2.2.2.2.2.2.2.2.2.1,x.2.2.2.2.2.2.2.2.2.2.2.2.1,x.2.2.2.2.2.2.2.2.2.2.2.2.2.1,x.2.2.2.2.2.2.2.2.2.2.2.2.2.2.1,x.vals.reverse,())
def BX.go (x:BX):(List ax×List ByteArray×List Bool)×dA:=jY x.prec x.cont.reverse (x.vals.reverse.drop (Int.toNat 0)) [] x.styn.reverse (List.replicate (Int.toNat x.prec.length) false).reverse
def lkT (x:BX):T (XV×BY×Unit):=.nd ((0:Int)<=x.prec.length/\(x.prec.length:Int)=x.prec.length/\(x.prec.length:Int)*(1+1)<=281474976710656)
 (.nd ((0:Int)<=0/\(0:Int)<=x.vals.reverse.length/\(x.vals.length:Int)=x.vals.reverse.length/\(0:Int)=x.zb.z.2.1.length/\x.zb.z.1=x.vals.reverse.length/\(List.replicate (Int.toNat x.prec.length) false).length=x.zb.prec.length/\∀v∈x.vals.reverse,OH v)
 (.br (x.go.2.no==0) (.br (x.go.1.2.2.reverse.reverse.contains false) (.lf (Bh (sH 6 0) (x.zb.withZ x.go.1.1 x.go.1.2.1))) (.lf (Bh (sH 0 0) (x.zb.withZ x.go.1.1 x.go.1.2.1)))) (.lf (Bh (aE x.go.2) (x.zb.withZ x.go.1.1 x.go.1.2.1)))))
def dj (x:BX):dA×BZ:=(if x.go.2.no=0 then(if x.go.1.2.2.contains false then⟨6,0⟩ else⟨0,0⟩) else x.go.2,x.zb.withZ x.go.1.1 x.go.1.2.1)
def nr (x:BX):Prop:=x.prec.length<=140737488355328/\x.styn.length=x.vals.length/\∀v∈x.vals,OH v
theorem Dv:eB Tryz.prog 68 [0] [(0,qV)] [(0,TX)] λ((x:BX),_)=>.nd (nr x) (.lf (Bh (aE (dj x).1) (dj x).2)):=by
 refine wI (R:=Ho) ((nL _ _).add 0 _ Hm) 99 [(0,qV)] [(0,TX)] (λ((x:BX),_)=>lkT x) ?_ Tryz.func68;rintro⟨(x:BX),_⟩ r _ ⟨⟨h1,h2,h3⟩,hr⟩;obtain rfl:Bh (aE (dj x).1) (dj x).2=r:=hr;refine⟨⟨by omega,rfl,by omega⟩,⟨by omega,by omega,by rw[List.length_reverse],rfl,by rw[List.length_reverse];exact h2,by rw[List.length_replicate];exact Int.toNat_natCast _,λv hv=>h3 v (List.mem_reverse.1 hv)⟩,?_⟩;unfold dj;by_cases e:x.go.2.no=0
 ·rw[if_pos e];refine aK (by rw[e];rfl) ?_;rw[List.reverse_reverse];cases x.go.1.2.2.contains false
  ·exact aQ rfl rfl
  ·exact aK rfl rfl
 ·rw[if_neg e];exact aQ (beq_false_of_ne e) rfl
theorem JQ (prec:List ByteArray) (line:Int):∀(l:List ByteArray) (u:List Bool) (a:List Int),dZ prec line l u a=if(kv prec line l u a).2.no=0 then .ok (kv prec line l u a).1 else .error (kv prec line l u a).2
 | [],_,_=>rfl
 | s::l,u,a=>by
  unfold dZ kv;split
  ·rfl
  split
  ·rfl
  ·exact JQ prec line l _ _
theorem JW (cont:List ai) (line:Int):∀(l:List ByteArray) (a:List Int),dt cont line l a=if(rG cont line l a).2.no=0 then .ok (rG cont line l a).1 else .error (rG cont line l a).2
 | [],_=>rfl
 | s::l,a=>by
  unfold dt rG;split
  ·rfl
  ·exact JW cont line l _
theorem JU (prec:List ByteArray) (cont:List ai):∀(vs:List am) (r:List ByteArray) (u:List Bool) (d:List ax),vs.length=r.length-> fB prec cont vs (r.map λn=>⟨n,[],[]⟩) u d=if(jY prec cont vs d r u).2.no=0 then(if(jY prec cont vs d r u).1.2.2.contains false then .error ⟨6,0⟩ else .ok (jY prec cont vs d r u).1.1) else .error (jY prec cont vs d r u).2
 | [],[],_,_,_=>rfl
 | v::vs,s::r,u,d,h=>by
  rw[List.map_cons];unfold fB jY;rw[JQ,JW];by_cases e1:(kv prec (v.l ac) (v.s ac) u []).2.no=0
  ·simp only[if_pos e1];by_cases e2:(rG cont (v.l au) (v.s au) []).2.no=0
   ·simp only[if_pos e2];exact JU prec cont vs r _ _ (by simpa using h)
   ·simp only[if_neg e2]
  ·simp only[if_neg e1]
 | [],_::_,_,_,h=>by cases h
 | _::_,[],_,_,h=>by cases h
theorem Ht (x:BX) (h:nr x):kw x.d=if(dj x).1.no=0 then .ok (dj x).2.z.2.1 else .error (dj x).1:=by
 have e:kw x.d=_:=JU x.prec x.cont.reverse x.vals.reverse x.styn.reverse (List.replicate x.prec.length false) [] (by rw[List.length_reverse,List.length_reverse];exact h.2.1.symm);have hg:x.go=jY x.prec x.cont.reverse x.vals.reverse [] x.styn.reverse (List.replicate x.prec.length false):=by
  unfold BX.go;rw[List.reverse_replicate,Int.toNat_natCast];rfl
 rw[e,<-hg];unfold dj;by_cases e1:x.go.2.no=0
 ·simp only[if_pos e1];cases x.go.1.2.2.contains false<;>rfl
 ·simp only[if_neg e1]
end Go.Proofs.YtichkplomldgiaaGreatDoor
