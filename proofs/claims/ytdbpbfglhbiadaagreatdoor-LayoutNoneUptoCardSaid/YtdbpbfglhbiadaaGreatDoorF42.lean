/- La9 La11 -/
import Derived.Test.YtdbpbfglhbiadaaGreatDoorF00
import Derived.Test.YtdbpbfglhbiadaaGreatDoorF34
import Derived.Test.YtdbpbfglhbiadaaGreatDoorF39
set_option maxHeartbeats 8000000
set_option maxRecDepth 100000
namespace Go.Proofs.YtdbpbfglhbiadaaGreatDoor
open Go Go.RowKit
noncomputable abbrev leF:=Tryz.f27
noncomputable abbrev agZ:Rg Tryz.prog leF.ntmps:=vE C0 leF
abbrev leL:List (Nat×SS):=[(2,sLv),(3,sLv),(5,sI)]
abbrev LeE:=LE leL [] []
def Yx (a b:ew):Bool:=a.1==b.1&&(a.2.1==b.2.1&&(a.2.2.1==b.2.2.1&&(a.2.2.2.1==b.2.2.2.1&&(a.2.2.2.2.1==b.2.2.2.2.1&&true))))
theorem JB (a:ew):Yx a a=true:=by unfold Yx;simp
def leT (a b:ik) (i:Int):T LeE:=.br (decide (i<a.ts.length)) (.nd (0<=i/\i<a.ts.length) (.nd (0<=i/\i<b.ts.length) (.br (true ^^ Yx (a.ts.getD i.toNat ew.z) (b.ts.getD i.toNat ew.z)) (.lf (.ret (.one (.val (.bool false))) ())) (.nd (bX (i+1)) (.lf (.back (a,b,i+1,()))))))) (.lf (.out ()))
theorem abV:eD agZ 0 0 leL [] [] λ((a:ik),(b:ik),(i:Int),_)=>.nd (0<=i/\i<=a.ts.length/\a.ts.length<=1099511627776/\b=a) (.lf (.out ())):=by
 refine eI _ (nL _ _) 99 0 0 leL [] [] (λ((a:ik),(b:ik),(i:Int),_)=>leT a b i) (λ((a:ik),_,(i:Int),_)=>a.ts.length-i.toNat) ?_;rintro⟨(a:ik),(b:ik),(i:Int),_⟩ r _ ⟨⟨h0,h1,h2,h3⟩,hr⟩;obtain rfl:b=a:=h3;obtain⟨k,rfl⟩:∃k:Nat,i=k:=⟨i.toNat,by omega⟩;obtain rfl:(LE.out ():LeE)=r:=hr;show∃q,(leT b b k).hit q/\_;unfold leT;rw[JB];by_cases hk:k<b.ts.length
 ·have gr:0<=(k:Int)/\(k:Int)<b.ts.length:=⟨by omega,by omega⟩;exact⟨.back (b,b,(k:Int)+1,()),aH (decide_eq_true (by omega)) ⟨gr,gr,aP rfl ⟨⟨by omega,by omega⟩,rfl⟩⟩,(by show b.ts.length-(k+1)<b.ts.length-k;omega),⟨by omega,by omega,h2,rfl⟩,rfl⟩
 ·exact⟨.out (),aP (decide_eq_false (by omega)) rfl,rfl⟩
def abW (a b:zR):T XV:=ET (.lf (aB false)) [a.1==b.1,a.2.1==b.2.1,a.2.2.1==b.2.2.1,a.2.2.2.1==b.2.2.2.1,a.2.2.2.2.1==b.2.2.2.2.1,(a.ts.length:Int)==b.ts.length] (.nd ((0:Int)<=0/\(0:Int)<=a.ts.length/\a.ts.length<=1099511627776/\(b:ik)=a) (.lf (aB true)))
theorem Oq:au Tryz.prog 27 false (aD [(0,.st 19),(1,.st 19)] λ((a:zR),(b:zR),_)=>.nd (a.ts.length<=1099511627776/\b=a) (.lf (aB true))):=
 bg (C:=C0) ((nL _ _).add 0 _ abV) false 99 [(0,.st 19),(1,.st 19)] (λ((a:zR),(b:zR),_)=>abW a b)
  (λ⟨(a:zR),(b:zR),_⟩ r _ ⟨⟨h0,h1⟩,h⟩=>by
   obtain rfl:aB true=r:=h;obtain rfl:b=a:=h1;exact⟨Ch (by exact⟨⟨by omega,by omega,h0,rfl⟩,rfl⟩) _ (by simp),.inr rfl⟩) Tryz.func27
abbrev ZI:SS:=sD (.list (.int .u8))
noncomputable abbrev e4F:=Tryz.f71
noncomputable def Ceq:gb Tryz.prog:=ci oQ [] []
noncomputable abbrev ajc:Rg Tryz.prog e4F.ntmps:=vE Ceq e4F
abbrev e4L:List (Nat×SS):=[(0,ZI),(1,ZI),(5,sI)]
def e4T (a b:List Int) (i:Int):T (LE e4L [] []):=.br (decide (i<a.length)) (.nd (0<=i/\i<a.length) (.nd (0<=i/\i<b.length) (.br (!(a.getD i.toNat 0==b.getD i.toNat 0)) (.lf (.ret (.one (.val (.bool false))) ())) (.nd (bX (i+1)) (.lf (.back (a,b,i+1,()))))))) (.lf (.out ()))
theorem YL:eD ajc 0 0 e4L [] [] λ((a:List Int),(b:List Int),(i:Int),_)=>.nd (0<=i/\i<=a.length/\a.length<=1099511627776/\b=a) (.lf (.out ())):=by
 refine eI _ (nL _ _) 99 0 0 e4L [] [] (λ((a:List Int),(b:List Int),(i:Int),_)=>e4T a b i) (λ((a:List Int),_,(i:Int),_)=>a.length-i.toNat) ?_;rintro⟨(a:List Int),(b:List Int),(i:Int),_⟩ r _ ⟨⟨h0,h1,h2,rfl⟩,hr⟩;obtain⟨k,rfl⟩:∃k:Nat,i=k:=⟨i.toNat,by omega⟩;obtain rfl:(LE.out ():LE e4L [] [])=r:=hr;show∃q,(e4T b b k).hit q/\_;unfold e4T;rw[beq_self_eq_true];by_cases hk:k<b.length
 ·have gr:0<=(k:Int)/\(k:Int)<b.length:=⟨by omega,by omega⟩;exact⟨.back (b,b,(k:Int)+1,()),aH (decide_eq_true (by omega)) ⟨gr,gr,aP rfl ⟨⟨by omega,by omega⟩,rfl⟩⟩,(by show b.length-(k+1)<b.length-k;omega),⟨by omega,by omega,h2,rfl⟩,rfl⟩
 ·exact⟨.out (),aP (decide_eq_false (by omega)) rfl,rfl⟩
theorem SP:au Tryz.prog 71 false (aD [(0,ZI),(1,ZI)] λ((a:List Int),(b:List Int),_)=>.nd (a.length<=1099511627776/\b=a) (.lf (aB true))):=
 bg (C:=Ceq) ((nL _ _).add 0 _ YL) false 99 [(0,ZI),(1,ZI)] (λ((a:List Int),(b:List Int),_)=>.br (!((a.length:Int)==b.length)) (.lf (aB false)) (.nd ((0:Int)<=0/\(0:Int)<=a.length/\a.length<=1099511627776/\b=a) (.lf (aB true))))
  (λ⟨(a:List Int),(b:List Int),_⟩ r _ ⟨⟨h0,h1⟩,h⟩=>by
   obtain rfl:aB true=r:=h;obtain rfl:b=a:=h1;exact⟨aP (by simp) ⟨⟨by omega,by omega,h0,rfl⟩,rfl⟩,.inr rfl⟩) Tryz.func71
noncomputable def Cim:gb Tryz.prog:=ci oQ [⟨_,_,_,SP⟩] []
theorem SN:au Tryz.prog 31 false (aD [(0,.st 22),(1,.st 22)] λ((a:P9),(b:P9),_)=>.nd (a.2.2.1.length<=1099511627776/\b=a) (.lf (aB true))):=
 bg (C:=Cim) (nL _ _) false 99 [(0,.st 22),(1,.st 22)] (λ((a:P9),(b:P9),_)=>.br (a.1==b.1) (.br (a.2.1==b.2.1) (.nd (a.2.2.1.length<=1099511627776/\b.2.2.1=a.2.2.1) (.lf (aB true))) (.lf (aB false))) (.lf (aB false)))
  (λ⟨(a:P9),(b:P9),_⟩ r _ ⟨⟨h0,h1⟩,h⟩=>by
   obtain rfl:aB true=r:=h;obtain rfl:b=a:=h1;exact⟨aH (by simp) (aH (by simp) ⟨⟨h0,rfl⟩,rfl⟩),.inr rfl⟩) Tryz.func31
def TN (e:aa):Prop:=du e/\cf e/\fp e=false
def Ej:P9:=(0,0,[],())
def drR:XV:=.tup [(true,jV (.st 22) Ej),(false,[.sym (.int .i64 8)])]
def drZ:XV:=.tup [(true,[.sym (.int .i64 0),.sym (.int .i64 0),.val (.slice none 0 0)]),(false,[.sym (.int .i64 8)])]
theorem Ip:au Tryz.prog 67 true (aD [(0,.st 5),(1,sI)] λ((e:aa),(_:Int),_)=>.nd (TN e) (.lf (vT 8))):=
 Ak.imp λ⟨(e:aa),(p:Int),_⟩ r hr=>by
  obtain⟨⟨h0,h1,h2⟩,rfl⟩:=hr;exact⟨_,⟨⟨h0,h1⟩,aH (by rw[h2];rfl) rfl⟩,λ_ _ _ hv=>hv⟩
noncomputable def Cdw:gb Tryz.prog:=ci oQ [⟨_,_,_,Ip⟩] []
theorem adx {w:World} {S:Nat->Prop} {v:Value} (h:XR [] w S drZ v):XR [] w S drR v:=by
 obtain⟨vs,e,h⟩:=h;cases h with
 | cons h1 h2=>
  obtain⟨us,e1,h1⟩:=h1;refine⟨_,e,.cons ⟨us,e1,?_⟩ h2⟩;cases h1 with
  | cons a1 h1=>cases h1 with
   | cons a2 h1=>cases h1 with
    | cons a3 h1=>
     cases h1
     exact .cons a1 (.cons a2 (.cons ⟨none,0,0,a3.1,RS.nil _ _,λe=>by cases e⟩ .nil))
theorem xg:au Tryz.prog 30 true (aD [(0,.st 5),(1,sI),(2,FI)] λ((e:aa),(_:Int),(_:List Int),_)=>.nd (TN e) (.lf drR)):=
 (bg (C:=Cdw) (nL _ _) true 99 [(0,.st 5),(1,sI),(2,FI)] (G:=λ((e:aa),(_:Int),(_:List Int),_)=>.nd (TN e) (.lf drZ)) (λ((e:aa),(_:Int),(_:List Int),_)=>.nd (TN e) (.br true (.lf drZ) .bad)) (λ_ _ _ ⟨h,hr⟩=>⟨⟨h,aH rfl hr⟩,.inl rfl⟩) Tryz.func30).imp λ⟨(e:aa),(_:Int),(_:List Int),_⟩ r hr=>by
  obtain⟨h0,rfl⟩:=hr;exact⟨drZ,⟨h0,rfl⟩,λ_ _ _ h=>adx h⟩
noncomputable def Cpr:gb Tryz.prog:=ci oQ [⟨_,_,_,xg⟩] []
theorem D9:au Tryz.prog 29 true (aD [(0,.st 5),(1,sI)] λ((e:aa),(_:Int),_)=>.nd (TN e) (.lf drR)):=
 bg (C:=Cpr) (nL _ _) true 99 [(0,.st 5),(1,sI)] (λ((e:aa),(_:Int),_)=>.nd (TN e) (.lf drR)) (λ_ _ _ h=>⟨h,.inl rfl⟩) Tryz.func29
noncomputable def Cln:gb Tryz.prog:=ci oQ [⟨_,_,_,ve⟩,⟨_,_,_,ub⟩,⟨_,_,_,wy⟩,⟨_,_,_,xg⟩,⟨_,_,_,D9⟩,⟨_,_,_,Oq⟩,⟨_,_,_,SN⟩] []
def abO (e:aa) (p:Int):T XV:=.br true (.br (o6 e p==8) (.br true (.br true (.nd ((zR.ts (kd e p)).length<=1099511627776/\MM=kd e p) (.br true (.nd (Ej.2.2.1.length<=1099511627776/\Ej=Ej) (.br true (.nd (Ej.2.2.1.length<=1099511627776/\Ej=Ej) (.lf (aB true))) (.lf (aB false)))) (.lf (aB false)))) (.lf (aB false))) (.lf (aB false))) (.lf (aB false))) (.lf (aB false))
def Mu (e:aa) (p:Int) (fs:List Int):T XV:=.nd (du e/\cf e) (.br (j2 e) (.lf (aB true)) (.nd (du e/\cf e) (.nd (TN e) (.nd ((0:Int)<=0/\(0<=if 20<(fs.length:Int) then 20 else(fs.length:Int))/\(if 20<(fs.length:Int) then 20 else(fs.length:Int))<=fs.length) (.nd (TN e) (abO e p))))))
theorem lawLN_ok:au Tryz.prog 9 false (aD [(0,.st 5),(1,sI),(2,FI)] λ((e:aa),(_:Int),(_:List Int),_)=>.nd (du e/\cf e) (.lf (aB true))):=
 bg (C:=Cln) (nL _ _) false 99 [(0,.st 5),(1,sI),(2,FI)] (λ((e:aa),(p:Int),(fs:List Int),_)=>Mu e p fs)
  (λ⟨(e:aa),(p:Int),(fs:List Int),_⟩ r _ ⟨h0,h⟩=>by
   obtain rfl:aB true=r:=h;refine⟨?_,.inr rfl⟩;show(Mu e p fs).hit (aB true);refine⟨h0,?_⟩;have Xn:=valid_eq e;cases hv:j2 e with
   | true=>exact aH rfl rfl
   | false=>
    rw[hv] at Xn;have hn:TN e:=⟨h0.1,h0.2,Xn.symm⟩;have h1:o6 e p=8:=by unfold o6;rw[<-Xn];rfl
    have h2:kd e p=MM:=by unfold kd;rw[h1];rfl
    refine aP rfl ⟨h0,hn,⟨Int.le_refl _,?_,?_⟩,hn,?_⟩
    ·split<;>omega
    ·split<;>omega
    ·unfold abO;rw[h1,h2];exact aH rfl (aH rfl (aH rfl (aH rfl ⟨⟨aaS _,rfl⟩,aH rfl ⟨⟨aaS _,rfl⟩,aH rfl ⟨⟨aaS _,rfl⟩,rfl⟩⟩⟩)))) Tryz.func9
theorem RS.xr {w:World} {S:Nat->Prop} {A:Option Addr} {n c:Nat} (t:Ty) {xs:List (El t)} (h:RS w S A n c xs):XR [] w S (.one (.list t xs false)) (.slice A n c):=⟨A,n,c,rfl,h,λe=>by cases e⟩
theorem lawLN_any {W:World} {B:Nat} (hT:Kd B W) (hB:B<=W.heap.size) {v:Value} {e:aa} {p:Int} {fs:List Int} {A:Option Addr} {n c:Nat} (h:SV W (λb=>b<W.heap.size) v e) (he:du e/\cf e) (hr:RS W (λb=>b<W.heap.size) A n c fs):Calls Tryz.prog 9 #[v,.int .i64 p,.slice A n c] W (iT W (.bool true)):=
 lawLN_ok.retVL (xs:=[.agg (jV (.st 5) e),aI p,.one (.list tI fs false)]) (vs:=[v,.int .i64 p,.slice A n c]) ⟨B,hB,hT⟩ (λ_ h=>h) (.cons (h.xr 5) (.cons ⟨rfl,rfl⟩ (.cons (RS.xr tI hr) .nil))) (⟨he,rfl⟩:(T.nd (du e/\cf e) (.lf (aB true))).hit (aB true))
end Go.Proofs.YtdbpbfglhbiadaaGreatDoor
