/- Tp6 Tp7 Lnk1 Tp8 Tp9 Tp10 Tp11 Tp12 Tp13 Tp14 -/
import Derived.Test.YtdbpbfglhbiadaaGreatDoorL00
import Derived.Test.YtdbpbfglhbiadaaGreatDoorL32
import Derived.Test.YtdbpbfglhbiadaaGreatDoorL31
import Derived.Test.YtdbpbfglhbiadaaGreatDoorL16
import Derived.Test.YtdbpbfglhbiadaaGreatDoorL11
import Derived.Test.YtdbpbfglhbiadaaGreatDoorL09
set_option maxHeartbeats 8000000
set_option maxRecDepth 100000
namespace Go.Proofs.YtdbpbfglhbiadaaGreatDoor
open Go Go.RowKit
abbrev csB:List CS:=[.d .str,.d tI,.d tI,.d tI,.d (.list .str),.own (.st 3) 87,.own (.st 10) 42,.d tI,.d tI,.d .bool,.d (.list .limb),.d (.list .limb),.d tI,.d .str,.mr .s .str 9,.own (.st 14) 180]
abbrev Bh:SS:=.box 110 csB
abbrev pBd:List Nat:=[0]
abbrev BX:=eT csB
abbrev Ht (r:XV) (x:BX):XV×BX×Unit:=(r,x,())
noncomputable def SU (t:TypeId):Option Ty:=List.lookup t [(9,.str),(3,tI),(4,.bool),(22,.list .str),(87,.st 3),(42,.st 10),(180,.st 14),(110,.st 15)]
noncomputable def CV6:ik Tryz.prog:=dE SU [] []
namespace BX
abbrev cont (x:BX):List ae:=x.2.2.2.2.2.1
abbrev styn (x:BX):List ByteArray:=x.2.2.2.2.2.2.1
abbrev names (x:BX):Nat×(ByteArray→Option (List ByteArray)):=x.2.2.2.2.2.2.2.2.2.2.2.2.2.2.1
abbrev vals (x:BX):List az:=x.2.2.2.2.2.2.2.2.2.2.2.2.2.2.2.1
def uScan (x:BX) (v:az):BX:=(x.1,v.n cV,v.n bi,v.n aW,x.2.2.2.2)
def uScs (x:BX) (v:az):BX:=(x.1,x.2.1,x.2.2.1,x.2.2.2.1,x.2.2.2.2.1,x.2.2.2.2.2.1,x.2.2.2.2.2.2.1,v.n bQ,v.n bR,x.2.2.2.2.2.2.2.2.2)
def uPrec (x:BX) (v:az):BX:=(x.1,x.2.1,x.2.2.1,x.2.2.2.1,v.s bP,x.2.2.2.2.2)
def uCont (x:BX) (c:ae):BX:=(x.1,x.2.1,x.2.2.1,x.2.2.2.1,x.2.2.2.2.1,c::x.cont,x.2.2.2.2.2.2)
def uSty (x:BX) (nm:ByteArray) (v:az):BX:=(x.1,x.2.1,x.2.2.1,x.2.2.2.1,x.2.2.2.2.1,x.2.2.2.2.2.1,nm::x.styn,x.2.2.2.2.2.2.2.1,x.2.2.2.2.2.2.2.2.1,x.2.2.2.2.2.2.2.2.2.1,x.2.2.2.2.2.2.2.2.2.2.1,x.2.2.2.2.2.2.2.2.2.2.2.1,x.2.2.2.2.2.2.2.2.2.2.2.2.1,x.2.2.2.2.2.2.2.2.2.2.2.2.2.1,x.2.2.2.2.2.2.2.2.2.2.2.2.2.2.1,v::x.vals,())
def uAud (x:BX) (v:az):BX:=(x.1,x.2.1,x.2.2.1,x.2.2.2.1,x.2.2.2.2.1,x.2.2.2.2.2.1,x.2.2.2.2.2.2.1,x.2.2.2.2.2.2.2.1,x.2.2.2.2.2.2.2.2.1,v.risk.neg,v.risk.num,v.risk.den,x.2.2.2.2.2.2.2.2.2.2.2.2.1,v.seed,x.2.2.2.2.2.2.2.2.2.2.2.2.2.2)
def uCell (x:BX) (v:az):BX:=(x.1,x.2.1,x.2.2.1,x.2.2.2.1,x.2.2.2.2.1,x.2.2.2.2.2.1,x.2.2.2.2.2.2.1,x.2.2.2.2.2.2.2.1,x.2.2.2.2.2.2.2.2.1,x.2.2.2.2.2.2.2.2.2.1,x.2.2.2.2.2.2.2.2.2.2.1,x.2.2.2.2.2.2.2.2.2.2.2.1,v.n dm,x.2.2.2.2.2.2.2.2.2.2.2.2.2)
def d (x:BX):bZ:=⟨⟨x.1,x.2.1,x.2.2.1,x.2.2.2.1,x.2.2.2.2.1,x.cont.reverse,x.styn.reverse.map fun n=>⟨n,[],[]⟩,x.2.2.2.2.2.2.2.1,x.2.2.2.2.2.2.2.2.1,⟨x.2.2.2.2.2.2.2.2.2.1,x.2.2.2.2.2.2.2.2.2.2.1,x.2.2.2.2.2.2.2.2.2.2.2.1⟩,x.2.2.2.2.2.2.2.2.2.2.2.2.1,x.2.2.2.2.2.2.2.2.2.2.2.2.2.1⟩,fun k=>(x.names.2 k).map List.reverse,x.vals.reverse⟩
structure ok (x:BX) (n:Nat):Prop where
 c:x.cont.length≤n
 s:x.styn.length≤n
 v:x.vals.length≤n
 m:x.names.1≤n
 r:∀k r,x.names.2 k=some r→r.length≤n
end BX
def kk (l:List ByteArray) (t:T (XV×BX×Unit)):T (XV×BX×Unit):=l.foldr (fun k t=>.nd (Kt.ok .s k) t) t
def Ba (x:BX):T (XV×BX×Unit):=.lf (Ht (.tup []) x)
def stB (x:BX) (k nm:ByteArray) (v:az):T (XV×BX×Unit):=
 .br (k.toList==aH.toList) (kk [cV,bi,aW] (Ba (x.uScan v)))
 (.br (k.toList==ak.toList) (kk [bQ,bR] (Ba (x.uScs v)))
 (.br (k.toList==af.toList) (kk [bP] (Ba (x.uPrec v)))
 (.br (k.toList==ah.toList) (kk [bY,aM,bb,bM,ay,cT,aP,cU] (.nd ((x.cont.length+1)*97≤140737488355328) (Ba (x.uCont (cR nm v)))))
 (.br (k.toList==aC.toList) (.nd ((x.styn.length+1)*65≤140737488355328) (.nd ((x.vals.length+1)*97≤140737488355328) (Ba (x.uSty nm v))))
 (.br (k.toList==aJ.toList) (Ba (x.uAud v))
 (.br (k.toList==aN.toList) (kk [dm] (Ba (x.uCell v))) (Ba x)))))))
def kA (k nm:ByteArray) (v:az) (x:BX):BX:=
 if k=aH then x.uScan v else if k=ak then x.uScs v else if k=af then x.uPrec v else if k=ah then x.uCont (cR nm v) else if k=aC then x.uSty nm v else if k=aJ then x.uAud v else if k=aN then x.uCell v else x
theorem Nu (k nm:ByteArray) (v:az) (x:BX):(kA k nm v x).d=be k nm v x.d:=by
 have e1:(x.uCont (cR nm v)).d={ x.d with e:={ x.d.e with cont:=x.d.e.cont++[cR nm v] } }:=congrArg (fun c=>({ x.d with e:={ x.d.e with cont:=c } }:bZ)) (ab8 ..);have e2:(x.uSty nm v).d={ x.d with e:={ x.d.e with styl:=x.d.e.styl++[⟨nm,[],[]⟩] },vals:=x.d.vals++[v] }:=by
  have h1:(nm::x.styn).reverse.map (fun n=>(⟨n,[],[]⟩:aj))=x.d.e.styl++[⟨nm,[],[]⟩]:=by rw[ab8,acR];rfl
  have h2:(v::x.vals).reverse=x.d.vals++[v]:=ab8 ..;rw[←h1,←h2];rfl
 unfold kA be;split
 ·rfl
 split
 ·rfl
 split
 ·rfl
 split
 ·exact e1
 split
 ·exact e2
 split
 ·rfl
 split
 ·rfl
 ·rfl
theorem Kj {k nm:ByteArray} {v:az} {x:BX} {n m:Nat} (h:x.ok n) (hm:n+1≤m):(kA k nm v x).ok m:=by
 obtain⟨h1,h2,h3,h4,h5⟩:=h;have h0:x.ok m:=⟨by omega,by omega,by omega,by omega,fun k r e=>by have:=h5 k r e;omega⟩;unfold kA;split
 ·exact⟨h0.1,h0.2,h0.3,h0.4,h0.5⟩
 split
 ·exact⟨h0.1,h0.2,h0.3,h0.4,h0.5⟩
 split
 ·exact⟨h0.1,h0.2,h0.3,h0.4,h0.5⟩
 split
 ·exact⟨by show x.cont.length+1≤m;omega,h0.2,h0.3,h0.4,h0.5⟩
 split
 ·exact⟨h0.1,by show x.styn.length+1≤m;omega,by show x.vals.length+1≤m;omega,h0.4,h0.5⟩
 split
 ·exact⟨h0.1,h0.2,h0.3,h0.4,h0.5⟩
 split
 ·exact⟨h0.1,h0.2,h0.3,h0.4,h0.5⟩
 ·exact h0
theorem Hk {α β:Type} {F:α→β} {b:Bool} {X Y:T β} {P:Prop} [Decidable P] {c d:α} (hP:P↔b=true) (hX:X.hit (F c)) (hY:Y.hit (F d)):(T.br b X Y).hit (F (if P then c else d)):=by
 by_cases h:P
 ·rw[if_pos h];exact aZ (hP.1 h) hX
 ·rw[if_neg h];exact bh (by cases b with|false=>rfl|true=>exact absurd (hP.2 rfl) h) hY
theorem qe (x y:ByteArray):x=y↔(x.toList==y.toList)=true:=by rw[eG,decide_eq_true_iff]
theorem Nv:gi Tryz.prog 105 pBd [(0,Bh),(1,.st 1),(2,.st 14)] [(0,Bh)] fun((x:BX),(b:aw),(v:az),_)=>.nd (x.ok 999999999998) (Ba (kA b.kind b.name v x)):=
 kM (C:=CV6) (nL _ _) 99 [(0,Bh),(1,.st 1),(2,.st 14)] [(0,Bh)] (fun((x:BX),(b:aw),(v:az),_)=>stB x b.kind b.name v) (fun⟨(x:BX),(b:aw),(v:az),_⟩ r _ ⟨⟨h1,h2,h3,h4,_⟩,h⟩=>by
  obtain rfl:Ht (.tup []) (kA b.kind b.name v x)=r:=h;unfold kA;refine Hk (F:=Ht (.tup [])) (qe _ _) ⟨qV,qV,qV,rfl⟩ (Hk (F:=Ht (.tup [])) (qe _ _) ⟨qV,qV,rfl⟩ (Hk (F:=Ht (.tup [])) (qe _ _) ⟨qV,rfl⟩
   (Hk (F:=Ht (.tup [])) (qe _ _) ⟨qV,qV,qV,qV,qV,qV,qV,qV,by omega,rfl⟩ (Hk (F:=Ht (.tup [])) (qe _ _) ⟨by omega,by omega,rfl⟩ (Hk (F:=Ht (.tup [])) (qe _ _) rfl (Hk (F:=Ht (.tup [])) (qe _ _) ⟨qV,rfl⟩ rfl)))))))
  Tryz.func105
noncomputable def CV7:ik Tryz.prog:=dE SU [⟨_,_,_,Qd⟩,⟨_,_,_,Q6⟩] [⟨_,_,_,_,_,Od⟩,⟨_,_,_,_,_,Nv⟩]
abbrev ady:SS:=.box 91 [.d .str,.d .str,.d (.list (.st 0)),.d tI]
abbrev R1:=eT [.d .str,.d .str,.d (.list (.st 0)),.d tI]
noncomputable abbrev al8:=Tryz.f58
abbrev blL:List (Nat×SS):=[(0,Bh),(3,ady),(4,Mx),(6,sV),(42,sD (.list (.st 0))),(43,sI),(44,sI)]
abbrev blO:List (Nat×SS):=[(0,Bh),(3,ady),(4,Mx),(6,sV)]
abbrev BlE:=LE blL blO [(0,Bh)]
def fz:ar:=⟨⟨#[]⟩,[],0⟩
def blT (x:BX) (b:R1) (y:pH) (v:VX) (l:List ar) (a i:Int):T BlE:=
 .br (decide (i<a)) (.nd (0≤i∧i<l.length) (.nd (v.n 999999999999∧so (l.getD i.toNat fz)) (.br (!((fx b.1 (l.getD i.toNat fz) v).1==0)) (.lf (.ret (Cn (fx b.1 (l.getD i.toNat fz) v).1 (l.getD i.toNat fz).line) (x,())))
  (.nd (cf (i+1)) (.lf (.back (x,b,y,(fx b.1 (l.getD i.toNat fz) v).2,l,a,i+1,()))))))) (.lf (.out (x,b,y,v,())))
def gY (kind:ByteArray):List ar→VX→eE×VX
 | [],v=>(⟨0,0⟩,v)
 | f::l,v=>if(fx kind f v).1≠0 then(⟨(fx kind f v).1,f.line⟩,(fx kind f v).2) else gY kind l (fx kind f v).2
theorem Do (kind:ByteArray):∀(l:List ar) (v:VX),eJ kind l v.v=((gY kind l v).1,(gY kind l v).2.v)
 | [],v=>rfl
 | f::l,v=>by
  unfold eJ gY;rw[Tp];split
  ·rfl
  ·exact Do kind l _
def blR (x:BX) (b:R1) (y:pH) (q:eE×VX):T BlE:=.br (!(q.1.no==0)) (.lf (.ret (Cn q.1.no q.1.line) (x,()))) (.lf (.out (x,b,y,q.2,())))
theorem agj:eS (LU CV7 al8 pBd) 0 0 blL blO [(0,Bh)] fun((x:BX),(b:R1),(y:pH),(v:VX),(l:List ar),(a:Int),(i:Int),_)=>
 .nd (0≤i∧i≤l.length∧a=l.length∧v.n i.toNat∧l.length≤274877906944∧∀f∈l,so f) (blR x b y (gY b.1 (l.drop i.toNat) v)):=by
  refine eY _ (nL _ _) 99 0 0 blL blO [(0,Bh)] (fun((x:BX),(b:R1),(y:pH),(v:VX),(l:List ar),(a:Int),(i:Int),_)=>blT x b y v l a i) (fun(_,_,_,_,(l:List ar),_,(i:Int),_)=>l.length-i.toNat) ?_;rintro⟨(x:BX),(b:R1),(y:pH),(v:VX),(l:List ar),(a:Int),(i:Int),_⟩ r _ ⟨⟨h0,h1,rfl,hv,hl,hf⟩,h⟩;obtain⟨j,rfl⟩:∃j:Nat,i=j:=⟨i.toNat,by omega⟩;rw[aak] at h hv;by_cases hi:j<l.length
  ·rw[getD_drop fz hi] at h;replace h:(blR x b y (if(fx b.1 (l.getD j fz) v).1≠0 then(⟨(fx b.1 (l.getD j fz) v).1,(l.getD j fz).line⟩,(fx b.1 (l.getD j fz) v).2) else gY b.1 (l.drop (j+1)) (fx b.1 (l.getD j fz) v).2)).hit r:=h;have hx:so (l.getD j fz):=by
    rw[aai,aae hi];exact hf _ (abF _)
   have hn:(0:Int)≤j∧(j:Int)<l.length:=⟨by omega,by omega⟩;have Ls:v.n 999999999999:=⟨by have:=hv.1;omega,by have:=hv.2.1;omega,by have:=hv.2.2;omega⟩;have hb:∀q,(T.br (!((fx b.1 (l.getD j fz) v).1==0)) (.lf (.ret (Cn (fx b.1 (l.getD j fz) v).1 (l.getD j fz).line) (x,()))) (.nd (cf ((j:Int)+1)) (.lf (.back (x,b,y,(fx b.1 (l.getD j fz) v).2,l,(l.length:Int),(j:Int)+1,())))):T BlE).hit q→(blT x b y v l l.length j).hit q:=fun q hq=>
    aZ (decide_eq_true hn.2) ⟨hn,by rw[aak];exact⟨⟨Ls,hx⟩,hq⟩⟩
   by_cases h3:(fx b.1 (l.getD j fz) v).1=0
   ·rw[if_neg (by simpa using h3)] at h;refine⟨_,hb _ (bh (by rw[h3];rfl) ⟨⟨by omega,by omega⟩,rfl⟩),by show l.length-((j:Int)+1).toNat<l.length-j;omega,⟨by omega,by omega,rfl,?_,hl,hf⟩,h⟩;exact Tq hv
   ·rw[if_pos h3] at h;rw[←(hB h).elim (fun q=>q.2) (fun q=>absurd q.1 (by rw[beq_false_of_ne h3];decide))];exact⟨_,hb _ (aZ (by rw[beq_false_of_ne h3];rfl) rfl),rfl⟩
  ·rw[aaL (by omega)] at h;exact⟨_,bh (decide_eq_false (by omega)) rfl,h.2 rfl⟩
def VX.zero:VX:=((0,fun _=>none),(0,fun _=>none),(0,fun _=>none),false,[],[],⟨#[]⟩,())
def BX.nam (x:BX) (k m:ByteArray):BX:=(x.1,x.2.1,x.2.2.1,x.2.2.2.1,x.2.2.2.2.1,x.2.2.2.2.2.1,x.2.2.2.2.2.2.1,x.2.2.2.2.2.2.2.1,x.2.2.2.2.2.2.2.2.1,x.2.2.2.2.2.2.2.2.2.1,x.2.2.2.2.2.2.2.2.2.2.1,x.2.2.2.2.2.2.2.2.2.2.2.1,x.2.2.2.2.2.2.2.2.2.2.2.2.1,x.2.2.2.2.2.2.2.2.2.2.2.2.2.1,(x.names.1+1,mW .s x.names.2 k (m::(x.names.2 k).getD [])),x.2.2.2.2.2.2.2.2.2.2.2.2.2.2.2)
def amb (b:aw) (x:BX) (v:VX):T (XV×BX×Unit):=.br (!((eP b.kind b.line v.v).no==0)) (.lf (Ht (aE (eP b.kind b.line v.v)) x)) (.nd (x.ok 999999999998) (.lf (Ht (Cn 0 0) (kA b.kind b.name v.v x))))
def ame (b:aw) (x:BX) (q:eE×VX):T (XV×BX×Unit):=.nd ((0:Int)≤0∧(0:Int)≤b.fields.length∧(b.fields.length:Int)=b.fields.length∧VX.zero.n 0∧b.fields.length≤274877906944∧∀f∈b.fields,so f) (.br (!(q.1.no==0)) (.lf (Ht (aE q.1) x)) (amb b x q.2))
def amg (b:aw) (x:BX):T (XV×BX×Unit):=.nd (dR b.kind∧dR b.name) (.br (!(fM b.kind b.name (x.d.of b.kind)==0)) (.lf (Ht (Cn (fM b.kind b.name (x.d.of b.kind)) b.line) x))
 (.nd (Kt.ok .s b.kind) (.nd ((((x.names.2 b.kind).getD []).length+1)*17≤140737488355328) (.nd (Kt.ok .s b.kind∧b.kind=b.kind∧x.names.1<1000000000000) (ame b (x.nam b.kind b.name) (gY b.kind b.fields VX.zero))))))
def fX (b:aw) (x:BX):eE×BX:=
 if fM b.kind b.name (x.d.of b.kind)≠0 then(⟨fM b.kind b.name (x.d.of b.kind),b.line⟩,x)
 else if(gY b.kind b.fields VX.zero).1.no≠0 then((gY b.kind b.fields VX.zero).1,x.nam b.kind b.name)
 else if(eP b.kind b.line (gY b.kind b.fields VX.zero).2.v).no≠0 then(eP b.kind b.line (gY b.kind b.fields VX.zero).2.v,x.nam b.kind b.name)
 else(⟨0,0⟩,kA b.kind b.name (gY b.kind b.fields VX.zero).2.v (x.nam b.kind b.name))
theorem BX.d_nam (x:BX) (k m:ByteArray):(x.nam k m).d=x.d.named k m:=by
 have h:(fun t=>(mW .s x.names.2 k (m::(x.names.2 k).getD []) t).map List.reverse)=setF x.d.names k (x.d.of k++[m]):=by
  refine(congrArg (fun g:ByteArray→Option (List ByteArray)=>fun t=>(g t).map List.reverse) (KS x.names.2 k (m::(x.names.2 k).getD []))).trans ?_;funext t
  unfold setF;by_cases e:t=k
  ·subst e;rw[if_pos rfl,if_pos rfl];show some (m::(x.names.2 t).getD []).reverse=_;rw[ab8];congr 2
   show _=((x.names.2 t).map List.reverse).getD [];cases x.names.2 t<;>rfl
  ·rw[if_neg e,if_neg e];rfl
 exact congrArg (fun f=>({ x.d with names:=f }:bZ)) h
theorem BX.ok_nam {x:BX} {n:Nat} (k m:ByteArray) (h:x.ok n):(x.nam k m).ok (n+1):=by
 obtain⟨h1,h2,h3,h4,h5⟩:=h;refine⟨Nat.le_succ_of_le h1,Nat.le_succ_of_le h2,Nat.le_succ_of_le h3,Nat.succ_le_succ h4,fun t r e=>?_⟩;have e:setF x.names.2 k (m::(x.names.2 k).getD []) t=some r:=(congrFun (KS x.names.2 k (m::(x.names.2 k).getD [])) t).symm.trans e;unfold setF at e;by_cases q:t=k
 ·subst q;rw[if_pos rfl] at e;obtain rfl:=aal e;cases hz:x.names.2 t with
  | none=>simp
  | some z=>have:=h5 t z hz;simpa using this
 ·rw[if_neg q] at e;exact Nat.le_succ_of_le (h5 t r e)
theorem Ri (b:aw) (x:BX):gr b x.d=((fX b x).1,(fX b x).2.d):=by
 have hz:eJ b.kind b.fields az.zero=_:=Do b.kind b.fields VX.zero;unfold gr fX;rw[hz];split
 ·rfl
 split
 ·rw[BX.d_nam]
 split
 ·rw[BX.d_nam]
 ·rw[Nu,BX.d_nam]
theorem Mh {b:aw} {x:BX} {n:Nat} (h:x.ok n):(fX b x).2.ok (n+2):=by
 have h1:=BX.ok_nam b.kind b.name h;have up:∀{y:BX} {m:Nat},y.ok m→m≤n+2→y.ok (n+2):=fun h hm=>⟨aaM h.1 hm,aaM h.2 hm,aaM h.3 hm,aaM h.4 hm,fun k r e=>aaM (h.5 k r e) hm⟩;unfold fX;split
 ·exact up h (by omega)
 split
 ·exact up h1 (by omega)
 split
 ·exact up h1 (by omega)
 ·exact Kj h1 (aaJ _)
theorem VI:gi Tryz.prog 58 pBd [(0,Bh),(1,.st 1)] [(0,Bh)] fun((x:BX),(b:aw),_)=>.nd (il b∧x.ok 999999999997) (.lf (Ht (aE (fX b x).1) (fX b x).2)):=
 kM (C:=CV7) ((nL _ _).add 0 _ agj) 99 [(0,Bh),(1,.st 1)] [(0,Bh)] (fun((x:BX),(b:aw),_)=>amg b x) (fun⟨(x:BX),(b:aw),_⟩ r _ ⟨⟨⟨s1,s2,s3,s4⟩,hx⟩,h⟩=>by
  obtain rfl:Ht (aE (fX b x).1) (fX b x).2=r:=h;refine⟨⟨s1,s2⟩,?_⟩;unfold fX;by_cases h1:fM b.kind b.name (x.d.of b.kind)=0
  ·rw[if_neg (by simpa using h1)];refine bh (by rw[h1];rfl) ⟨s1.kt,?_,⟨s1.kt,rfl,by have:=hx.m;omega⟩,⟨by omega,by omega,rfl,⟨aaJ _,aaJ _,aaJ _⟩,s3,fun f hf=>⟨(s4 f hf).1.1,(s4 f hf).1.2.2,(s4 f hf).1.2.1⟩⟩,?_⟩
   ·cases hz:x.names.2 b.kind with
    | none=>decide
    | some z=>have:=hx.r _ z hz;show(z.length+1)*17≤_;omega
   by_cases h2:(gY b.kind b.fields VX.zero).1.no=0
   ·rw[if_neg (by simpa using h2)];refine bh (by rw[h2];rfl) ?_;by_cases h3:(eP b.kind b.line (gY b.kind b.fields VX.zero).2.v).no=0
    ·rw[if_neg (by simpa using h3)];exact bh (by rw[h3];rfl) ⟨BX.ok_nam _ _ hx,rfl⟩
    ·rw[if_pos h3];exact aZ (by rw[beq_false_of_ne h3];rfl) rfl
   ·rw[if_pos h2];exact aZ (by rw[beq_false_of_ne h2];rfl) rfl
  ·rw[if_pos h1];exact aZ (by rw[beq_false_of_ne h1];rfl) rfl) Tryz.func58
theorem K6 {w:World} {S:Nat→Prop} {v:Value} {x:ae} (h:SV w S v x) (p:Nat) (nm:ByteArray) (hp:w.cell? ⟨p,0,none⟩=some (.string nm)) : Calls Tryz.prog 108 #[v,.pointer (some ⟨p,0,none⟩)] w (jZ w (.bool (decide (x.name=nm)))):=by
 obtain⟨cs,rfl,A,n,c,rfl,_⟩:=h;have cK:Below w.heap.size w (w.alloc (.cells #[.string x.name,.slice A n c,.int .i64 x.method,.int .i64 x.seats,.int .i64 x.ranks,.int .i64 x.digits,.int .i64 x.ties,.int .i64 x.over,.int .i64 x.skip] 87)):=(Below.refl _ _).alloc (aaJ _) _;have oF:dI (w.alloc (.cells #[.string x.name,.slice A n c,.int .i64 x.method,.int .i64 x.seats,.int .i64 x.ranks,.int .i64 x.digits,.int .i64 x.ties,.int .i64 x.over,.int .i64 x.skip] 87)) w.heap.size 87 #[.string x.name,.slice A n c,.int .i64 x.method,.int .i64 x.seats,.int .i64 x.ranks,.int .i64 x.digits,.int .i64 x.ties,.int .i64 x.over,.int .i64 x.skip]:=dI.new _ _ _;obtain⟨w1,gl⟩:∃q,w.alloc (.cells #[.string x.name,.slice A n c,.int .i64 x.method,.int .i64 x.seats,.int .i64 x.ranks,.int .i64 x.digits,.int .i64 x.ties,.int .i64 x.over,.int .i64 x.skip] 87)=q:=⟨_,rfl⟩;rw[gl] at cK oF;have c0:w1.cell? ⟨w.heap.size,0,none⟩=some (.string x.name):=oF.cell 0;have cp:w1.cell? ⟨p,0,none⟩=some (.string nm):=(cK.cell (World.block_lt_of_cell? w _ hp)).trans hp;have oS:=zH gl;have fK:=zH cK;clear gl cK oF hp;go_enter Tryz.func108,Tryz.ntmps108;by_cases hn:x.name=nm
 ·have heq:(x.name.toList==nm.toList)=true:=by rw[hn];simp
  rw[decide_eq_true hn];clear hn;go_upto_region 1 with(fail);rw[oS.out];go_wp2_with fail;go_ret
  exact⟨rfl,fK.out⟩
 ·have heq:(x.name.toList==nm.toList)=false:=(Lib.bytes_beq_false_iff _ _).2 hn;rw[decide_eq_false hn];clear hn;go_upto_region 1 with(fail);rw[oS.out];go_wp2_with fail;go_ret
  exact⟨rfl,fK.out⟩
theorem UC {w:World} {S:Nat→Prop} {A:Option Addr} {n c:Nat} {xs:List ae} (h:RS w S A n c xs) (hS:∀b,S b→b<w.heap.size) (p:Nat) (nm:ByteArray) (hp:w.cell? ⟨p,0,none⟩=some (.string nm)) : Calls Tryz.prog 107 #[.slice A n c,.func (.func 108) #[] #[.pointer (some ⟨p,0,none⟩)]] w (jZ w (.int .i64 (bA nm xs 0))):=by
 obtain⟨z,hz⟩:∃z,bA nm xs 0=z:=⟨_,rfl⟩;rw[hz];have fL:=hz.symm;have Jm:=h.max;have H1:=zH h;have HZ:=zH fL;have FF:=zH h.len;have HP:=zH hp;clear h hz fL hp;go_enter Tryz.func107,Tryz.ntmps107;go_wp2_with fail;go_loopw [8] (fun iv wr=>∃k:Nat,iv=.int .i64 k∧k≤n∧z=bA nm (xs.drop k) k∧Below w.heap.size w wr) (fun iv _=>n-(intOf iv).toNat)
 case atStart=>exact⟨0,rfl,ab0 _,by simpa using HZ.out,Below.refl _ _⟩
 case round=>
  clear HZ;obtain⟨k,rfl,hk,Gz,hb⟩:=hrel;have RO:=zH Gz;have HB:=zH hb;have HR:=zH (H1.out.below hb hS);clear Gz hb;by_cases hlt:k<n
  ·have jX:(k:Int)<(n:Int):=by omega
   obtain⟨b,o,x,cs,rfl,CE,hx,hr,W4⟩:=HR.out.load_at (fun b h=>abc (hS b h) HB.out.size) hlt;have PY:(k:Int)≤(c:Int):=by have:=HR.out.cap;omega
   have fF:z=if x.name=nm then(k:Int) else bA nm (xs.drop (k+1)) (k+1):=by rw[RO.out,kN hx];rfl
   have ku:=zH fF;obtain⟨A3,n3,c3,rfl,x1⟩:=hr;have iP:=W4 wr (Below.refl _ _);have r0:wr.cell? ⟨b,o+k*9,none⟩=some (.string x.name):=iP.1 _ rfl;have r1:wr.cell? ⟨b,o+k*9+1,none⟩=some (.slice A3 n3 c3):=iP.2 1 _ rfl;have r2:wr.cell? ⟨b,o+k*9+2,none⟩=some (.int .i64 x.method):=iP.2 2 _ rfl;have r3:wr.cell? ⟨b,o+k*9+3,none⟩=some (.int .i64 x.seats):=iP.2 3 _ rfl;have r4:wr.cell? ⟨b,o+k*9+4,none⟩=some (.int .i64 x.ranks):=iP.2 4 _ rfl;have r5:wr.cell? ⟨b,o+k*9+5,none⟩=some (.int .i64 x.digits):=iP.2 5 _ rfl;have r6:wr.cell? ⟨b,o+k*9+6,none⟩=some (.int .i64 x.ties):=iP.2 6 _ rfl;have r7:wr.cell? ⟨b,o+k*9+7,none⟩=some (.int .i64 x.over):=iP.2 7 _ rfl;have r8:wr.cell? ⟨b,o+k*9+8,none⟩=some (.int .i64 x.skip):=iP.2 8 _ rfl;have hpr:wr.cell? ⟨p,0,none⟩=some (.string nm):=(HB.out.cell (World.block_lt_of_cell? w _ HP.out)).trans HP.out;have HC:=zH (K6 (w:=wr) (S:=S) (x:=x) ⟨_,rfl,A3,n3,c3,rfl,x1⟩ p nm hpr);clear iP W4 hx fF x1 hpr;go_wp2_with fail;refine HC.out.mono ?_;rintro e w3 ⟨rfl,kR⟩;have mM:=zH (ao HB.out kR);clear kR;by_cases hn:x.name=nm
   ·rw[decide_eq_true hn];have bm:z=(k:Int):=by rw[ku.out,if_pos hn]
    have dU:=zH bm;clear bm hn;go_wp2_with fail;go_ret
    exact⟨by rw[dU.out];rfl,mM.out⟩
   ·rw[decide_eq_false hn];have bm:z=bA nm (xs.drop (k+1)) (k+1):=by rw[ku.out,if_neg hn]
    have dU:=zH bm;clear bm hn;go_wp2_with fail;go_roundw
    case rel=>exact⟨k+1,by go_num,by omega,dU.out,mM.out⟩
    case measure=>simp[intOf];omega
  ·have gX:k=n:=by omega
   have bm:z= -1:=by
    rw[RO.out,aaL (by rw[FF.out];omega)];rfl
   have dU:=zH bm;clear bm gX;go_wp2_with fail;go_ret
   exact⟨by rw[dU.out];rfl,HB.out⟩
abbrev aeK:FuncId:=108
theorem Pw:av Tryz.prog 107 false (aU [(0,sD (.list (.st 3))),(1,.cl aeK .str)] fun((l:List ae),(s:ByteArray),_)=>.lf (aI (bA s l 0))):=
 gH fun w S x vs r hS he hl hr=>by
  obtain⟨(l:List ae),(s:ByteArray),_⟩:=x;obtain⟨v,h1,A,q,c,h2,h3,_⟩:=he 0 (.one (.list (.st 3) l false)) aaw;obtain⟨v',jj,b,cs,hb,CF,LF,h4'⟩:=he 1 (.one (.cl aeK .str s)) (aaN _ aaw);obtain rfl:=hr
  match vs,hl,h1,jj with
  | [u,u'],_,h1,jj=>
   injection h1 with h1
   injection jj with jj
   subst h1 jj h2 CF;obtain rfl:cs=[.string s]:=LF;exact Calls.mono (UC h3 hS b s (h4' 0 _ rfl)) fun _ _ h=>Hs rfl h
theorem Qp:av Tryz.prog 109 false (aU [(0,sD (.list .bool)),(1,sB)] fun((l:List Bool),(b:Bool),_)=>.lf (aB (l.contains b))):=
 gH fun w S x vs r hS he hl hr=>by
  obtain⟨(l:List Bool),(s:Bool),_⟩:=x;obtain⟨v,h1,A,q,c,h2,h3,_⟩:=he 0 (.one (.list .bool l false)) aaw;obtain⟨v',jj,CF,_⟩:=he 1 (aB s) (aaN _ aaw);obtain rfl:=hr
  match vs,hl,h1,jj with
  | [u,u'],_,h1,jj=>
   injection h1 with h1
   injection jj with jj
   subst h1 jj h2 CF;exact Calls.mono (UZ h3 s) fun _ _ h=>Hs rfl ⟨h.1,h.2▸Below.refl _ _⟩
noncomputable def CV8:ik Tryz.prog:=dE SU [⟨_,_,_,Ji⟩,⟨_,_,_,Pw⟩,⟨_,_,_,Qp⟩] []
noncomputable abbrev aeo:=Tryz.f60
abbrev csZ:List CS:=[.d .str,.d tI,.d tI,.d tI,.d (.list .str),.own (.st 3) 87,.zc (.st 4) (.st 10) 42,.d tI,.d tI,.d .bool,.d (.list .limb),.d (.list .limb),.d tI,.d .str,.mr .s .str 9,.d (.list (.st 14))]
abbrev csO:List CS:=[.d .str,.d tI,.d tI,.d tI,.d (.list .str),.own (.st 3) 87,.zip (.st 4) (.st 10) 42 [.d .str,.own tI 3,.own tI 3],.d tI,.d tI,.d .bool,.d (.list .limb),.d (.list .limb),.d tI,.d .str,.mr .s .str 9,.d (.list (.st 14))]
abbrev Ft:SS:=.box 110 csZ
abbrev sBo:SS:=.box 110 csO
abbrev csD:List CS:=[.d (.mp .s tI),.d (.mp .s (.list .str)),.d (.mp .s tI),.d .bool,.d (.list .limb),.d (.list .limb),.d .str]
abbrev sVd:SS:=.box 180 csD
abbrev sUs:SS:=.c (.own .bool 4)
noncomputable abbrev Ub:Rg Tryz.prog aeo.ntmps:=BP (fRg CV8 aeo [0] [(2,[23])]) [(5,Xh 0 6),(11,oG 0 6),(13,oG 0 6),(22,oG 0 6),(25,oG 0 6)] [(2,Qs 0 6 (.st 4) (.st 10))]
abbrev BZ:=eT csZ
abbrev BO:=eT csO
abbrev SG:=eT csD
abbrev ZIn:=Nat×List aj×(ByteArray×List Int×List Int×Unit)×List ByteArray
namespace BO
abbrev prec (x:BO):List ByteArray:=x.2.2.2.2.1
abbrev cont (x:BO):List ae:=x.2.2.2.2.2.1
abbrev z (x:BO):ZIn:=x.2.2.2.2.2.2.1
abbrev ps (x:BO):List Int:=x.z.2.2.1.2.1
abbrev cs (x:BO):List Int:=x.z.2.2.1.2.2.1
def withP (x:BO) (ps cs:List Int):BO:=(x.1,x.2.1,x.2.2.1,x.2.2.2.1,x.2.2.2.2.1,x.2.2.2.2.2.1,(x.z.1,x.z.2.1,(x.z.2.2.1.1,ps,cs,()),x.z.2.2.2),x.2.2.2.2.2.2.2)
def cl (x:BO):BZ:=(x.1,x.2.1,x.2.2.1,x.2.2.2.1,x.2.2.2.2.1,x.2.2.2.2.2.1,(x.z.1,x.z.2.1++[⟨x.z.2.2.1.1,x.ps.reverse,x.cs.reverse⟩],x.z.2.2.2),x.2.2.2.2.2.2.2)
end BO
abbrev SG.ln (v:SG) (k:ByteArray):Int:=(v.2.2.1 k).getD (0:Int)
abbrev k1L:List (Nat×SS):=[(0,sBo),(2,Mx),(3,sUs),(4,sI),(5,sVd),(6,.sb 2 3),(23,sD (.list (.st 14))),(24,sI),(25,sI),(39,sL),(40,sI),(41,sI)]
abbrev k2L:List (Nat×SS):=[(0,sBo),(2,Mx),(3,sUs),(4,sI),(5,sVd),(6,.sb 2 3),(23,sD (.list (.st 14))),(24,sI),(25,sI),(84,sL),(85,sI),(86,sI)]
abbrev Po:List (Nat×SS):=[(0,sBo),(2,Mx),(3,sUs),(4,sI),(5,sVd),(6,.sb 2 3),(23,sD (.list (.st 14))),(24,sI),(25,sI)]
section
variable {L:Type} (back:BO→List Bool→L) (out:BO→List Bool→L) (ret:eE→BZ→L) (v:SG)
def lnE (k:ByteArray) (x:BO) (no:Int):T L:=.nd (Kt.ok .s k) (.lf (ret ⟨no,v.ln k⟩ x.cl))
def k1T (x:BO) (us:List Bool) (l:List ByteArray) (a j:Int):T L:=.br (decide (j<a)) (.nd (0≤j∧j<l.length) (.br (decide (Lib.idxOfS x.prec (l.getD j.toNat ⟨#[]⟩)<0)) (lnE ret v af x 2)
 (.nd (0≤Lib.idxOfS x.prec (l.getD j.toNat ⟨#[]⟩)∧Lib.idxOfS x.prec (l.getD j.toNat ⟨#[]⟩)<us.length) (.br (us.reverse.getD (Lib.idxOfS x.prec (l.getD j.toNat ⟨#[]⟩)).toNat false) (lnE ret v af x 3)
 (.nd (0≤Lib.idxOfS x.prec (l.getD j.toNat ⟨#[]⟩)∧Lib.idxOfS x.prec (l.getD j.toNat ⟨#[]⟩)<us.length) (.nd ((x.ps.length+1)*9≤140737488355328) (.nd (cf (j+1)) (.lf (back (x.withP (Lib.idxOfS x.prec (l.getD j.toNat ⟨#[]⟩)::x.ps) x.cs) (us.reverse.set (Lib.idxOfS x.prec (l.getD j.toNat ⟨#[]⟩)).toNat true).reverse))))))))) (.lf (out x us))
def k2T (x:BO) (us:List Bool) (l:List ByteArray) (a j:Int):T L:=.br (decide (j<a)) (.nd (0≤j∧j<l.length) (.br (decide (bA (l.getD j.toNat ⟨#[]⟩) x.cont.reverse 0<0)) (lnE ret v ax x 2)
 (.nd ((x.cs.length+1)*9≤140737488355328) (.nd (cf (j+1)) (.lf (back (x.withP x.ps (bA (l.getD j.toNat ⟨#[]⟩) x.cont.reverse 0::x.cs)) us)))))) (.lf (out x us))
def lnF (x:BO) (u:List Bool) (ps cs:List Int) (e:eE):T L:=.br (e.no==0) (.lf (out (x.withP ps.reverse cs.reverse) u.reverse)) (.lf (ret e (x.withP ps.reverse cs.reverse).cl))
end
def rR (prec:List ByteArray) (line:Int):List ByteArray→List Bool→List Int→(List Bool×List Int)×eE
 | [],u,a=>((u,a),⟨0,0⟩)
 | s::l,u,a=>if Lib.idxOfS prec s<0 then((u,a),⟨2,line⟩) else if u.getD (Lib.idxOfS prec s).toNat false=true then((u,a),⟨3,line⟩) else rR prec line l (u.set (Lib.idxOfS prec s).toNat true) (a++[Lib.idxOfS prec s])
def BH (cont:List ae) (line:Int):List ByteArray→List Int→List Int×eE
 | [],a=>(a,⟨0,0⟩)
 | s::l,a=>if bA s cont 0<0 then(a,⟨2,line⟩) else BH cont line l (a++[bA s cont 0])
abbrev eF (e:eE):XV:=.agg [.val (.int .i64 e.no),.sym (.int .i64 e.line)]
section
variable (y:pH) (c:Int) (v:SG) (vs:List az) (n i:Int) (l:List ByteArray) (a j:Int)
def ZD (x:BO) (us:List Bool):LE k1L Po [(0,Ft)]:=.back (x,y,us,c,v,(),vs,n,i,l,a,j+1,())
def Je (x:BO) (us:List Bool):LE k1L Po [(0,Ft)]:=.out (x,y,us,c,v,(),vs,n,i,())
def zZ (e:eE) (x:BZ):LE k1L Po [(0,Ft)]:=.ret (eF e) (x,())
def ZB (x:BO) (us:List Bool):LE k2L Po [(0,Ft)]:=.back (x,y,us,c,v,(),vs,n,i,l,a,j+1,())
def Pn (x:BO) (us:List Bool):LE k2L Po [(0,Ft)]:=.out (x,y,us,c,v,(),vs,n,i,())
def Pm (e:eE) (x:BZ):LE k2L Po [(0,Ft)]:=.ret (eF e) (x,())
end
def lnP (x:BO) (us:List Bool) (r:List Int) (l:List ByteArray) (a j:Int):Prop:=0≤j∧j≤l.length∧a=l.length∧us.length=x.prec.length∧(r.length:Int)=j∧l.length≤1099511627776
theorem UB (l:List ByteArray) (s:ByteArray):Lib.idxOfS l s<0∨(0≤Lib.idxOfS l s∧Lib.idxOfS l s<l.length):=by
 have:=jc s l 0;have h2:∀(l:List ByteArray) (i:Nat),Lib.idxFromS l s i<0∨Lib.idxFromS l s i<i+l.length:=by
  intro l;induction l with
  | nil=>intro i;exact .inl (by show(-1:Int)<0;omega)
  | cons x l ih=>
   intro i;unfold Lib.idxFromS;rw[aaO];split
   ·exact .inr (by omega)
   ·rcases ih (i+1) with h|h
    ·exact .inl h
    ·exact .inr (by omega)
 have h3:=h2 l 0;unfold Lib.idxOfS;omega
theorem TZ:eS Ub 1 2 k1L Po [(0,Ft)] fun((x:BO),(y:pH),(us:List Bool),(c:Int),(v:SG),_,(vs:List az),(n:Int),(i:Int),(l:List ByteArray),(a:Int),(j:Int),_)=>
 .nd (lnP x us x.ps l a j) (lnF (Je y c v vs n i) zZ x (rR x.prec (v.ln af) (l.drop j.toNat) us.reverse x.ps.reverse).1.1 (rR x.prec (v.ln af) (l.drop j.toNat) us.reverse x.ps.reverse).1.2 x.cs.reverse (rR x.prec (v.ln af) (l.drop j.toNat) us.reverse x.ps.reverse).2):=by
  refine eY _ (nL _ _) 99 1 2 k1L Po [(0,Ft)] (fun((x:BO),(y:pH),(us:List Bool),(c:Int),(v:SG),_,(vs:List az),(n:Int),(i:Int),(l:List ByteArray),(a:Int),(j:Int),_)=>k1T (ZD y c v vs n i l a j) (Je y c v vs n i) zZ v x us l a j)
   (fun(_,_,_,_,_,_,_,_,_,(l:List ByteArray),_,(j:Int),_)=>l.length-j.toNat) ?_
  rintro⟨(x:BO),(y:pH),(us:List Bool),(c:Int),(v:SG),⟨⟩,(vs:List az),(n:Int),(i:Int),(l:List ByteArray),(a:Int),(j:Int),_⟩ r _ ⟨⟨h0,h1,rfl,h5,h6,h7⟩,hr⟩;have hr:(lnF (Je y c v vs n i) zZ x _ _ _ _).hit r:=hr;obtain⟨k,rfl⟩:∃k:Nat,j=k:=⟨j.toNat,by omega⟩;rw[aak] at hr;have PD:x.withP x.ps.reverse.reverse x.cs.reverse.reverse=x:=by rw[aap,aap];rfl
  show∃q,(k1T _ _ _ v x us l l.length k).hit q∧_;unfold k1T;by_cases hk:k<l.length
  ·rw[getD_drop (⟨#[]⟩:ByteArray) hk,rR] at hr;rw[aak];have hE:∀no:Int,no≠0→(lnF (Je y c v vs n i) zZ x us.reverse x.ps.reverse x.cs.reverse ⟨no,v.ln af⟩).hit r→(lnE (L:=LE k1L Po [(0,Ft)]) zZ v af x no).hit r∧zZ ⟨no,v.ln af⟩ x.cl=r:=fun no hn h=>by
    have h:=h.2 (beq_false_of_ne hn);rw[PD] at h;exact⟨⟨qV,h⟩,h⟩
   have hn:(0:Int)≤k∧(k:Int)<l.length:=⟨by omega,by omega⟩;split at hr
   ·rename_i hlt;obtain⟨q1,rfl⟩:=hE 2 (by decide) hr;exact⟨_,aZ (decide_eq_true hn.2) ⟨hn,aZ (decide_eq_true hlt) q1⟩,rfl⟩
   ·rename_i hge;have hx:=(UB x.prec (l.getD k ⟨#[]⟩)).resolve_left hge;split at hr
    ·rename_i hu;obtain⟨q1,rfl⟩:=hE 3 (by decide) hr;exact⟨_,aZ (decide_eq_true hn.2) ⟨hn,bh (decide_eq_false hge) ⟨⟨hx.1,by omega⟩,aZ hu q1⟩⟩,rfl⟩
    ·rename_i hu;refine⟨_,aZ (decide_eq_true hn.2) ⟨hn,bh (decide_eq_false hge) ⟨⟨hx.1,by omega⟩,bh (by simpa using hu) ⟨⟨hx.1,by omega⟩,by omega,⟨by omega,by omega⟩,rfl⟩⟩⟩,?_,?_⟩
     ·show l.length-(k+1)<l.length-k;omega
     ·refine⟨⟨by omega,by omega,rfl,?_,?_,h7⟩,?_⟩
      ·rw[aaH,abY,aaH];exact h5
      ·show((x.ps.length+1:Nat):Int)=(k:Int)+1;omega
      ·show(lnF _ _ _ _ _ _ _).hit r;rw[aap];have e:(Lib.idxOfS x.prec (l.getD k ⟨#[]⟩)::x.ps).reverse=x.ps.reverse++[Lib.idxOfS x.prec (l.getD k ⟨#[]⟩)]:=by simp
       rw[←e] at hr;exact hr
  ·rw[aaL (by omega),rR] at hr;have h:=hr.1 rfl;rw[PD,aap] at h;obtain rfl:=h;exact⟨_,bh (decide_eq_false (by omega)) rfl,rfl⟩
theorem TY:eS Ub 2 5 k2L Po [(0,Ft)] fun((x:BO),(y:pH),(us:List Bool),(c:Int),(v:SG),_,(vs:List az),(n:Int),(i:Int),(l:List ByteArray),(a:Int),(j:Int),_)=>
 .nd (lnP x us x.cs l a j) (lnF (Pn y c v vs n i) Pm x us.reverse x.ps.reverse (BH x.cont.reverse (v.ln ax) (l.drop j.toNat) x.cs.reverse).1 (BH x.cont.reverse (v.ln ax) (l.drop j.toNat) x.cs.reverse).2):=by
  refine eY _ (nL _ _) 99 2 5 k2L Po [(0,Ft)] (fun((x:BO),(y:pH),(us:List Bool),(c:Int),(v:SG),_,(vs:List az),(n:Int),(i:Int),(l:List ByteArray),(a:Int),(j:Int),_)=>k2T (ZB y c v vs n i l a j) (Pn y c v vs n i) Pm v x us l a j)
   (fun(_,_,_,_,_,_,_,_,_,(l:List ByteArray),_,(j:Int),_)=>l.length-j.toNat) ?_
  rintro⟨(x:BO),(y:pH),(us:List Bool),(c:Int),(v:SG),⟨⟩,(vs:List az),(n:Int),(i:Int),(l:List ByteArray),(a:Int),(j:Int),_⟩ r _ ⟨⟨h0,h1,rfl,h5,h6,h7⟩,hr⟩;have hr:(lnF (Pn y c v vs n i) Pm x _ _ _ _).hit r:=hr;obtain⟨k,rfl⟩:∃k:Nat,j=k:=⟨j.toNat,by omega⟩;rw[aak] at hr;have PD:x.withP x.ps.reverse.reverse x.cs.reverse.reverse=x:=by rw[aap,aap];rfl
  show∃q,(k2T _ _ _ v x us l l.length k).hit q∧_;unfold k2T;by_cases hk:k<l.length
  ·rw[getD_drop (⟨#[]⟩:ByteArray) hk,BH] at hr;rw[aak];have hn:(0:Int)≤k∧(k:Int)<l.length:=⟨by omega,by omega⟩;split at hr
   ·rename_i hlt;have h:=hr.2 rfl;rw[PD] at h;obtain rfl:=h;exact⟨_,aZ (decide_eq_true hn.2) ⟨hn,aZ (decide_eq_true hlt) ⟨qV,rfl⟩⟩,rfl⟩
   ·rename_i hge;refine⟨_,aZ (decide_eq_true hn.2) ⟨hn,bh (decide_eq_false hge) ⟨by omega,⟨by omega,by omega⟩,rfl⟩⟩,?_,?_⟩
    ·show l.length-(k+1)<l.length-k;omega
    ·refine⟨⟨by omega,by omega,rfl,h5,?_,h7⟩,?_⟩
     ·show((x.cs.length+1:Nat):Int)=(k:Int)+1;omega
     ·have e:(bA (l.getD k ⟨#[]⟩) x.cont.reverse 0::x.cs).reverse=x.cs.reverse++[bA (l.getD k ⟨#[]⟩) x.cont.reverse 0]:=by simp
      rw[←e] at hr;exact hr
  ·rw[aaL (by omega),BH] at hr;have h:=hr.1 rfl;rw[PD,aap] at h;obtain rfl:=h;exact⟨_,bh (decide_eq_false (by omega)) rfl,rfl⟩
abbrev k0L:List (Nat×SS):=[(0,Ft),(2,Mx),(3,sUs),(23,sD (.list (.st 14))),(24,sI),(25,sI)]
abbrev k0O:List (Nat×SS):=[(0,Ft),(2,Mx),(3,sUs)]
abbrev K0:=LE k0L k0O [(0,Ft)]
abbrev ZcB:=Nat×List aj×List ByteArray
namespace BZ
abbrev prec (x:BZ):List ByteArray:=x.2.2.2.2.1
abbrev cont (x:BZ):List ae:=x.2.2.2.2.2.1
abbrev z (x:BZ):ZcB:=x.2.2.2.2.2.2.1
def withZ (x:BZ) (d:List aj) (r:List ByteArray):BZ:=(x.1,x.2.1,x.2.2.1,x.2.2.2.1,x.2.2.2.2.1,x.2.2.2.2.2.1,(x.z.1,d,r),x.2.2.2.2.2.2.2)
def op (x:BZ):BO:=(x.1,x.2.1,x.2.2.1,x.2.2.2.1,x.2.2.2.2.1,x.2.2.2.2.2.1,(x.z.1,x.z.2.1,(x.z.2.2.getD 0 ⟨#[]⟩,[],[],()),x.z.2.2.drop 1),x.2.2.2.2.2.2.2)
end BZ
section
variable (y:pH) (vs:List az) (n i:Int)
def Uc {L:Type} (out:BO→List Bool→T L) (ret:eE→BZ→L) (x:BO) (u:List Bool) (ps cs:List Int) (e:eE):T L:=.br (e.no==0) (out (x.withP ps.reverse cs.reverse) u.reverse) (.lf (ret e (x.withP ps.reverse cs.reverse).cl))
def z6 (e:eE) (x:BZ):K0:=.ret (eF e) (x,())
def k0E (x:BO) (us:List Bool):T K0:=.nd (cf (i+1)) (.lf (.back (x.cl,y,us,vs,n,i+1,())))
def k0D (v:az) (x:BO) (us:List Bool):T K0:=.nd (Kt.ok .s ax) (.nd (lnP x us x.cs (v.s ax) (v.s ax).length 0) (Uc (k0E y vs n i) z6 x us.reverse x.ps.reverse (BH x.cont.reverse (v.l ax) ((v.s ax).drop (Int.toNat 0)) x.cs.reverse).1 (BH x.cont.reverse (v.l ax) ((v.s ax).drop (Int.toNat 0)) x.cs.reverse).2))
def k0C (v:az) (x:BO) (us:List Bool):T K0:=.nd (Kt.ok .s af) (.nd (lnP x us x.ps (v.s af) (v.s af).length 0) (Uc (k0D y vs n i v) z6 x (rR x.prec (v.l af) ((v.s af).drop (Int.toNat 0)) us.reverse x.ps.reverse).1.1 (rR x.prec (v.l af) ((v.s af).drop (Int.toNat 0)) us.reverse x.ps.reverse).1.2 x.cs.reverse (rR x.prec (v.l af) ((v.s af).drop (Int.toNat 0)) us.reverse x.ps.reverse).2))
def k0B (x:BZ) (us:List Bool):T K0:=.br (decide (i<n)) (.nd (0≤i∧i<vs.length) (.nd (x.z.2.1.length<x.z.1) (.nd (i=x.z.2.1.length) (k0C y vs n i (vs.getD i.toNat az.zero) x.op us)))) (.lf (.out (x,y,us,())))
end
def qD (prec:List ByteArray) (cont:List ae):List az→List aj→List ByteArray→List Bool→(List aj×List ByteArray×List Bool)×eE
 | [],d,r,u=>((d,r,u),⟨0,0⟩)
 | v::vs,d,r,u=>
  if(rR prec (v.l af) (v.s af) u []).2.no=0 then
   if(BH cont (v.l ax) (v.s ax) []).2.no=0 then qD prec cont vs (d++[⟨r.getD 0 ⟨#[]⟩,(rR prec (v.l af) (v.s af) u []).1.2,(BH cont (v.l ax) (v.s ax) []).1⟩]) (r.drop 1) (rR prec (v.l af) (v.s af) u []).1.1
   else((d++[⟨r.getD 0 ⟨#[]⟩,(rR prec (v.l af) (v.s af) u []).1.2,(BH cont (v.l ax) (v.s ax) []).1⟩],r.drop 1,(rR prec (v.l af) (v.s af) u []).1.1),(BH cont (v.l ax) (v.s ax) []).2)
  else((d++[⟨r.getD 0 ⟨#[]⟩,(rR prec (v.l af) (v.s af) u []).1.2,[]⟩],r.drop 1,(rR prec (v.l af) (v.s af) u []).1.1),(rR prec (v.l af) (v.s af) u []).2)
theorem I0 (prec:List ByteArray) (line:Int):∀(l:List ByteArray) (u:List Bool) (a:List Int),(rR prec line l u a).1.1.length=u.length
 | [],_,_=>rfl
 | s::l,u,a=>by
  unfold rR;split
  ·rfl
  split
  ·rfl
  ·rw[I0 prec line l,abY]
def vOk (v:az):Prop:=(v.s af).length≤1099511627776∧(v.s ax).length≤1099511627776
def lnR (x:BZ) (y:pH) (q:(List aj×List ByteArray×List Bool)×eE):T K0:=.br (q.2.no==0) (.lf (.out (x.withZ q.1.1 q.1.2.1,y,q.1.2.2.reverse,()))) (.lf (.ret (eF q.2) (x.withZ q.1.1 q.1.2.1,())))
theorem T9:eS Ub 0 0 k0L k0O [(0,Ft)] fun((x:BZ),(y:pH),(us:List Bool),(vs:List az),(n:Int),(i:Int),_)=>
 .nd (0≤i∧i≤vs.length∧n=vs.length∧i=x.z.2.1.length∧x.z.1=vs.length∧us.length=x.prec.length∧∀v∈vs,vOk v) (lnR x y (qD x.prec x.cont.reverse (vs.drop i.toNat) x.z.2.1 x.z.2.2 us.reverse)):=by
  refine eY _ (((nL _ _).add 1 _ TZ).add 2 _ TY) 99 0 0 k0L k0O [(0,Ft)] (fun((x:BZ),(y:pH),(us:List Bool),(vs:List az),(n:Int),(i:Int),_)=>k0B y vs n i x us)
   (fun(_,_,_,(vs:List az),_,(i:Int),_)=>vs.length-i.toNat) ?_
  rintro⟨(x:BZ),(y:pH),(us:List Bool),(vs:List az),(n:Int),(i:Int),_⟩ r tj ⟨⟨h0,h1,rfl,h3,h4,h5,h6⟩,hr⟩;have Cy:vs.length≤9223372036854775807:=tj.2.2.2.1;obtain⟨k,rfl⟩:∃k:Nat,i=k:=⟨i.toNat,by omega⟩;rw[aak] at hr;show∃q,(k0B y vs vs.length k x us).hit q∧_;unfold k0B;by_cases hk:k<vs.length
  ·rw[getD_drop az.zero hk,qD] at hr;rw[aak];obtain⟨v,hv⟩:∃v,vs.getD k az.zero=v:=⟨_,rfl⟩;have vk:vOk v:=h6 v (by rw[←hv,aai,aae hk];exact abF _);rw[hv] at hr ⊢;have hn:(0:Int)≤k∧(k:Int)<vs.length:=⟨by omega,by omega⟩;have pre:∀{q},(Uc (k0D y vs vs.length k v) z6 x.op (rR x.prec (v.l af) (v.s af) us.reverse []).1.1 (rR x.prec (v.l af) (v.s af) us.reverse []).1.2 [] (rR x.prec (v.l af) (v.s af) us.reverse []).2).hit q→(T.br (decide ((k:Int)<vs.length)) (.nd (0≤(k:Int)∧(k:Int)<vs.length) (.nd (x.z.2.1.length<x.z.1) (.nd ((k:Int)=x.z.2.1.length) (k0C y vs vs.length k v x.op us)))) (.lf (.out (x,y,us,())))).hit q:=fun hq=>
    aZ (decide_eq_true hn.2) ⟨hn,by omega,h3,qV,⟨by omega,by omega,rfl,h5,rfl,vk.1⟩,hq⟩
   have bG:=I0 x.prec (v.l af) (v.s af) us.reverse [];obtain⟨q,hq⟩:∃q,rR x.prec (v.l af) (v.s af) us.reverse []=q:=⟨_,rfl⟩;obtain⟨p,hp⟩:∃p,BH x.cont.reverse (v.l ax) (v.s ax) []=p:=⟨_,rfl⟩;rw[hq] at hr bG pre;rw[hp] at hr;rw[aaH] at bG;by_cases e1:q.2.no=0
   ·rw[if_pos e1] at hr;have ad0:∀{t},(Uc (k0E y vs vs.length k) z6 (x.op.withP q.1.2.reverse []) q.1.1.reverse.reverse q.1.2.reverse.reverse p.1 p.2).hit t→(k0D y vs vs.length k v (x.op.withP q.1.2.reverse []) q.1.1.reverse).hit t:=fun ht=>
     ⟨qV,⟨by omega,by omega,rfl,by rw[aaH,bG];exact h5,rfl,vk.2⟩,by
      have:BH (x.op.withP q.1.2.reverse []).cont.reverse (v.l ax) ((v.s ax).drop (Int.toNat 0)) (x.op.withP q.1.2.reverse []).cs.reverse=p:=hp;rw[this];exact ht⟩
    have ex:((x.op.withP q.1.2.reverse []).withP q.1.2.reverse.reverse.reverse p.1.reverse).cl=x.withZ (x.z.2.1++[⟨x.z.2.2.getD 0 ⟨#[]⟩,q.1.2,p.1⟩]) (x.z.2.2.drop 1):=by
     have e3:q.1.2.reverse.reverse.reverse.reverse=q.1.2:=by simp only[aap]
     have e4:p.1.reverse.reverse=p.1:=aap _;show x.withZ (x.z.2.1++[⟨x.z.2.2.getD 0 ⟨#[]⟩,q.1.2.reverse.reverse.reverse.reverse,p.1.reverse.reverse⟩]) (x.z.2.2.drop 1)=_;rw[e3,e4]
    by_cases e2:p.2.no=0
    ·rw[if_pos e2] at hr;refine⟨.back (x.withZ (x.z.2.1++[⟨x.z.2.2.getD 0 ⟨#[]⟩,q.1.2,p.1⟩]) (x.z.2.2.drop 1),y,q.1.1.reverse.reverse.reverse,vs,(vs.length:Int),(k:Int)+1,()),pre (aZ (by rw[e1];rfl) (ad0 (aZ (by rw[e2];rfl) ⟨⟨by omega,by omega⟩,by rw[ex];rfl⟩))),?_,?_⟩
     ·show vs.length-(k+1)<vs.length-k;omega
     ·refine⟨⟨by omega,by omega,rfl,?_,h4,?_,h6⟩,?_⟩
      ·show(k:Int)+1=((x.z.2.1++[_]).length:Nat);rw[aaD,abE];omega
      ·show q.1.1.reverse.reverse.reverse.length=x.prec.length;rw[aaH,aaH,aaH,bG];exact h5
      ·show(lnR _ _ (qD _ _ (vs.drop (k+1)) _ _ q.1.1.reverse.reverse.reverse.reverse)).hit r;simp only[aap];exact hr
    ·rw[if_neg e2] at hr;obtain rfl:=hr.2 (beq_false_of_ne e2);refine⟨z6 p.2 (x.withZ (x.z.2.1++[⟨x.z.2.2.getD 0 ⟨#[]⟩,q.1.2,p.1⟩]) (x.z.2.2.drop 1)),pre (aZ (by rw[e1];rfl) (ad0 (bh (beq_false_of_ne e2) ?_))),rfl⟩;rw[ex];rfl
   ·rw[if_neg e1] at hr;obtain rfl:=hr.2 (beq_false_of_ne e1);refine⟨z6 q.2 (x.withZ (x.z.2.1++[⟨x.z.2.2.getD 0 ⟨#[]⟩,q.1.2,[]⟩]) (x.z.2.2.drop 1)),pre (bh (beq_false_of_ne e1) ?_),rfl⟩;have ex:(x.op.withP q.1.2.reverse ([]:List Int).reverse).cl=x.withZ (x.z.2.1++[⟨x.z.2.2.getD 0 ⟨#[]⟩,q.1.2,[]⟩]) (x.z.2.2.drop 1):=by
     show x.withZ (x.z.2.1++[⟨x.z.2.2.getD 0 ⟨#[]⟩,q.1.2.reverse.reverse,[]⟩]) (x.z.2.2.drop 1)=_;rw[aap]
    rw[ex];rfl
  ·rw[aaL (by omega),qD] at hr;have h:=hr.1 rfl;rw[aap] at h;obtain rfl:=h;exact⟨_,bh (decide_eq_false (by omega)) rfl,rfl⟩
abbrev csY:List CS:=[.d .str,.d tI,.d tI,.d tI,.d (.list .str),.own (.st 3) 87,.zc (.st 4) (.st 10) 42,.d tI,.d tI,.d .bool,.d (.list .limb),.d (.list .limb),.d tI,.d .str,.mr .s .str 9,.any]
abbrev sBy:SS:=.box 110 csY
abbrev BY:=eT csY
def BZ.y (x:BZ):BY:=(x.1,x.2.1,x.2.2.1,x.2.2.2.1,x.2.2.2.2.1,x.2.2.2.2.2.1,x.2.2.2.2.2.2.1,x.2.2.2.2.2.2.2.1,x.2.2.2.2.2.2.2.2.1,x.2.2.2.2.2.2.2.2.2.1,x.2.2.2.2.2.2.2.2.2.2.1,x.2.2.2.2.2.2.2.2.2.2.2.1,x.2.2.2.2.2.2.2.2.2.2.2.2.1,x.2.2.2.2.2.2.2.2.2.2.2.2.2.1,x.2.2.2.2.2.2.2.2.2.2.2.2.2.2.1,(),())
abbrev Mr (r:XV) (x:BZ):XV×BY×Unit:=(r,x.y,())
abbrev BX.prec (x:BX):List ByteArray:=x.2.2.2.2.1
def BX.zb (x:BX):BZ:=(x.1,x.2.1,x.2.2.1,x.2.2.2.1,x.2.2.2.2.1,x.2.2.2.2.2.1,(x.styn.length,[],x.styn.reverse),x.2.2.2.2.2.2.2.1,x.2.2.2.2.2.2.2.2.1,x.2.2.2.2.2.2.2.2.2.1,x.2.2.2.2.2.2.2.2.2.2.1,x.2.2.2.2.2.2.2.2.2.2.2.1,x.2.2.2.2.2.2.2.2.2.2.2.2.1,x.2.2.2.2.2.2.2.2.2.2.2.2.2.1,x.2.2.2.2.2.2.2.2.2.2.2.2.2.2.1,x.vals.reverse,())
def BX.go (x:BX):(List aj×List ByteArray×List Bool)×eE:=qD x.prec x.cont.reverse (x.vals.reverse.drop (Int.toNat 0)) [] x.styn.reverse (List.replicate (Int.toNat x.prec.length) false).reverse
def lkT (x:BX):T (XV×BY×Unit):=.nd ((0:Int)≤x.prec.length∧(x.prec.length:Int)=x.prec.length∧(x.prec.length:Int)*(1+1)≤281474976710656)
 (.nd ((0:Int)≤0∧(0:Int)≤x.vals.reverse.length∧(x.vals.length:Int)=x.vals.reverse.length∧(0:Int)=x.zb.z.2.1.length∧x.zb.z.1=x.vals.reverse.length∧(List.replicate (Int.toNat x.prec.length) false).length=x.zb.prec.length∧∀v∈x.vals.reverse,vOk v)
 (.br (x.go.2.no==0) (.br (x.go.1.2.2.reverse.reverse.contains false) (.lf (Mr (Cn 6 0) (x.zb.withZ x.go.1.1 x.go.1.2.1))) (.lf (Mr (Cn 0 0) (x.zb.withZ x.go.1.1 x.go.1.2.1)))) (.lf (Mr (aE x.go.2) (x.zb.withZ x.go.1.1 x.go.1.2.1)))))
def gy (x:BX):eE×BZ:=(if x.go.2.no=0 then(if x.go.1.2.2.contains false then⟨6,0⟩ else⟨0,0⟩) else x.go.2,x.zb.withZ x.go.1.1 x.go.1.2.1)
def xl (x:BX):Prop:=x.prec.length≤140737488355328∧x.styn.length=x.vals.length∧∀v∈x.vals,vOk v
theorem O4:gi Tryz.prog 60 [0] [(0,Bh)] [(0,sBy)] fun((x:BX),_)=>.nd (xl x) (.lf (Mr (aE (gy x).1) (gy x).2)):=by
 refine QL (R:=Ub) ((nL _ _).add 0 _ T9) 99 [(0,Bh)] [(0,sBy)] (fun((x:BX),_)=>lkT x) ?_ Tryz.func60;rintro⟨(x:BX),_⟩ r _ ⟨⟨h1,h2,h3⟩,hr⟩;obtain rfl:Mr (aE (gy x).1) (gy x).2=r:=hr;refine⟨⟨by omega,rfl,by omega⟩,⟨by omega,by omega,by rw[aaH],rfl,by rw[aaH];exact h2,by rw[ac6];exact aak _,fun v hv=>h3 v (List.mem_reverse.1 hv)⟩,?_⟩;unfold gy;by_cases e:x.go.2.no=0
 ·rw[if_pos e];refine aZ (by rw[e];rfl) ?_;rw[aap];cases x.go.1.2.2.contains false
  ·exact bh rfl rfl
  ·exact aZ rfl rfl
 ·rw[if_neg e];exact bh (beq_false_of_ne e) rfl
theorem WH (prec:List ByteArray) (line:Int):∀(l:List ByteArray) (u:List Bool) (a:List Int),dG prec line l u a=if(rR prec line l u a).2.no=0 then .ok (rR prec line l u a).1 else .error (rR prec line l u a).2
 | [],_,_=>rfl
 | s::l,u,a=>by
  unfold dG rR;split
  ·rfl
  split
  ·rfl
  ·exact WH prec line l _ _
theorem WQ (cont:List ae) (line:Int):∀(l:List ByteArray) (a:List Int),eg cont line l a=if(BH cont line l a).2.no=0 then .ok (BH cont line l a).1 else .error (BH cont line l a).2
 | [],_=>rfl
 | s::l,a=>by
  unfold eg BH;split
  ·rfl
  ·exact WQ cont line l _
theorem WL (prec:List ByteArray) (cont:List ae):∀(vs:List az) (r:List ByteArray) (u:List Bool) (d:List aj),vs.length=r.length→ eK prec cont vs (r.map fun n=>⟨n,[],[]⟩) u d=if(qD prec cont vs d r u).2.no=0 then(if(qD prec cont vs d r u).1.2.2.contains false then .error ⟨6,0⟩ else .ok (qD prec cont vs d r u).1.1) else .error (qD prec cont vs d r u).2
 | [],[],_,_,_=>rfl
 | v::vs,s::r,u,d,h=>by
  rw[acg];unfold eK qD;rw[WH,WQ];by_cases e1:(rR prec (v.l af) (v.s af) u []).2.no=0
  ·simp only[if_pos e1];by_cases e2:(BH cont (v.l ax) (v.s ax) []).2.no=0
   ·simp only[if_pos e2];exact WL prec cont vs r _ _ (by simpa using h)
   ·simp only[if_neg e2]
  ·simp only[if_neg e1]
 | [],_::_,_,_,h=>by cases h
 | _::_,[],_,_,h=>by cases h
theorem Uk (x:BX) (h:xl x):pQ x.d=if(gy x).1.no=0 then .ok (gy x).2.z.2.1 else .error (gy x).1:=by
 have e:pQ x.d=_:=WL x.prec x.cont.reverse x.vals.reverse x.styn.reverse (List.replicate x.prec.length false) [] (by rw[aaH,aaH];exact h.2.1.symm);have hg:x.go=qD x.prec x.cont.reverse x.vals.reverse [] x.styn.reverse (List.replicate x.prec.length false):=by
  unfold BX.go;rw[List.reverse_replicate,aak];rfl
 rw[e,←hg];unfold gy;by_cases e1:x.go.2.no=0
 ·simp only[if_pos e1];cases x.go.1.2.2.contains false<;>rfl
 ·simp only[if_neg e1]
noncomputable def BD:BX→eE×BZ:=shut gy
theorem Ua (x:BX):BD x=gy x:=congrFun (mT gy) x
theorem O6:gi Tryz.prog 60 [0] [(0,Bh)] [(0,sBy)] fun((x:BX),_)=>.nd (xl x) (.lf (Mr (aE (BD x).1) (BD x).2)):=by
 unfold BD;rw[mT];exact O4
def fW:List aw→BX→eE×BX
 | [],b=>(⟨0,0⟩,b)
 | x::l,b=>if(fX x b).1.no≠0 then fX x b else fW l (fX x b).2
theorem AJ:∀(l:List aw) (x:BX),di l x.d=((fW l x).1,(fW l x).2.d)
 | [],_=>rfl
 | b::l,x=>by
  unfold di fW;rw[Ri];split
  ·rfl
  ·exact AJ l _
noncomputable def bsS:List aw→BX→eE×BX:=shut fW
theorem Hj (l:List aw) (x:BX):bsS l x=fW l x:=congrFun (congrFun (mT fW) l) x
noncomputable def CV9:ik Tryz.prog:=dE SU [⟨_,_,_,zt⟩,⟨_,_,_,Gu⟩] [⟨_,_,_,_,_,VI⟩,⟨_,_,_,_,_,O6⟩]
noncomputable abbrev cmF:=Tryz.f23
abbrev csE:List CS:=[.d .str,.d tI,.d tI,.d tI,.d (.list .str),.d (.list (.st 3)),.d (.list (.st 4)),.d tI,.d tI,.d .bool,.d (.list .limb),.d (.list .limb),.d tI,.d .str]
abbrev sEl:SS:=.box 30 csE
noncomputable abbrev abm:Rg Tryz.prog cmF.ntmps:=BP (vI CV9 cmF) [(20,afS 0 6)] [(3,afQ 4 14 9)]
abbrev m0L:List (Nat×SS):=[(4,Bh),(2,sEl),(3,Mx),(24,sD (.list (.st 1))),(25,sI),(26,sI)]
abbrev TU:List (Nat×SS):=[(4,Bh),(2,sEl),(3,Mx)]
abbrev m1L:List (Nat×SS):=[(4,Bh),(2,sEl),(3,Mx),(39,sL),(40,sI),(41,sI)]
abbrev R0:=eT csE
def xb:AV:=.val (.slice none 0 0)
def zC:List AV:=[.val (.string ⟨#[]⟩),.val (.int .i64 0),.val (.int .i64 0),.val (.int .i64 0),xb,xb,xb,.val (.int .i64 0),.val (.int .i64 0),.val (.bool false),xb,xb,.val (.int .i64 0),.val (.string ⟨#[]⟩)]
def erX (f:eE):XV:=.tup [(true,zC),(true,[.sym (.int .i64 f.no),.sym (.int .i64 f.line)])]
def erM:XV:=.tup [(true,zC),(true,[.val (.int .i64 6),.val (.int .i64 0)])]
def Xq:aw:=⟨⟨#[]⟩,⟨#[]⟩,[],0⟩
def WG (e:R0) (y:pH) (x:BX):LE m0L TU []:=.out (x,e,y,())
def m0T (x:BX) (e:R0) (y:pH) (l:List aw) (a i:Int):T (LE m0L TU []):=.br (decide (i<a)) (.nd (0≤i∧i<l.length) (.nd (il (l.getD i.toNat Xq)∧x.ok 999999999997) (.br (!((fX (l.getD i.toNat Xq) x).1.no==0)) (.lf (.ret (erX (fX (l.getD i.toNat Xq) x).1) ())) (.nd (cf (i+1)) (.lf (.back ((fX (l.getD i.toNat Xq) x).2,e,y,l,a,i+1,()))))))) (.lf (WG e y x))
def m0R (e:R0) (y:pH) (q:eE×BX):T (LE m0L TU []):=.br (!(q.1.no==0)) (.lf (.ret (erX q.1) ())) (.lf (WG e y q.2))
theorem Q5:eS abm 0 0 m0L TU [] fun((x:BX),(e:R0),(y:pH),(l:List aw),(a:Int),(i:Int),_)=>.nd (0≤i∧i≤l.length∧a=l.length∧l.length≤68719476736∧(∀b∈l,il b)∧x.ok (2*i.toNat)) (m0R e y (bsS (l.drop i.toNat) x)):=by
 refine eY _ (nL _ _) 99 0 0 m0L TU [] (fun((x:BX),(e:R0),(y:pH),(l:List aw),(a:Int),(i:Int),_)=>m0T x e y l a i) (fun(_,_,_,(l:List aw),_,(i:Int),_)=>l.length-i.toNat) ?_;rintro⟨(x:BX),(e:R0),(y:pH),(l:List aw),(a:Int),(i:Int),_⟩ r _ ⟨⟨h0,h1,rfl,h3,h4,h5⟩,hr⟩;obtain⟨k,rfl⟩:∃k:Nat,i=k:=⟨i.toNat,by omega⟩;rw[aak] at hr h5;rw[Hj] at hr;show∃q,(m0T x e y l l.length k).hit q∧_;unfold m0T;by_cases hk:k<l.length
 ·rw[getD_drop Xq hk,fW] at hr;rw[aak];have hn:(0:Int)≤k∧(k:Int)<l.length:=⟨by omega,by omega⟩;have hb:il (l.getD k Xq):=h4 _ (by rw[aai,aae hk];exact abF _);have hx:x.ok 999999999997:=⟨by have:=h5.c;omega,by have:=h5.s;omega,by have:=h5.v;omega,by have:=h5.m;omega,fun k r e=>by have:=h5.r k r e;omega⟩;by_cases e1:(fX (l.getD k Xq) x).1.no=0
  ·rw[if_neg (by simpa using e1)] at hr;refine⟨_,aZ (decide_eq_true hn.2) ⟨hn,⟨hb,hx⟩,bh (by rw[e1];rfl) ⟨⟨by omega,by omega⟩,rfl⟩⟩,by show l.length-(k+1)<l.length-k;omega,⟨by omega,by omega,rfl,h3,h4,?_⟩,?_⟩
   ·have:=Mh (b:=l.getD k Xq) h5;show BX.ok _ (2*((k:Int)+1).toNat);rw[show 2*((k:Int)+1).toNat=2*k+2 by omega];exact this
   ·show(m0R e y (bsS (l.drop (k+1)) _)).hit r;rw[Hj];exact hr
  ·rw[if_pos e1] at hr;obtain rfl:=hr.1 (by rw[beq_false_of_ne e1];rfl);exact⟨_,aZ (decide_eq_true hn.2) ⟨hn,⟨hb,hx⟩,aZ (by rw[beq_false_of_ne e1];rfl) rfl⟩,rfl⟩
 ·rw[aaL (by omega),fW] at hr;obtain rfl:=hr.2 rfl;exact⟨_,bh (decide_eq_false (by omega)) rfl,rfl⟩
def WF (e:R0) (y:pH) (x:BX):LE m1L TU []:=.out (x,e,y,())
def m1T (x:BX) (e:R0) (y:pH) (l:List ByteArray) (a i:Int):T (LE m1L TU []):=.br (decide (i<a)) (.nd (0≤i∧i<l.length) (.nd (Kt.ok .s (l.getD i.toNat ⟨#[]⟩)) (.br ((((x.names.2 (l.getD i.toNat ⟨#[]⟩)).getD []).reverse.length:Int)==0) (.lf (.ret erM ())) (.nd (cf (i+1)) (.lf (.back (x,e,y,l,a,i+1,()))))))) (.lf (WF e y x))
def Gm (x:BX) (k:ByteArray):Bool:=decide (x.d.of k=[])
theorem OC (x:BX) (k:ByteArray):((((x.names.2 k).getD []).reverse.length:Int)==0)=Gm x k:=by
 have e:x.d.of k=((x.names.2 k).getD []).reverse:=by
  show((x.names.2 k).map List.reverse).getD []=_;cases x.names.2 k<;>rfl
 unfold Gm;rw[e];cases ((x.names.2 k).getD []).reverse with
 | nil=>rfl
 | cons a l=>simp;omega
theorem Q0:eS abm 1 2 m1L TU [] fun((x:BX),(e:R0),(y:pH),(l:List ByteArray),(a:Int),(i:Int),_)=>.nd (0≤i∧i≤l.length∧a=l.length∧∀s∈l,Kt.ok .s s) (.br ((l.drop i.toNat).any (Gm x)) (.lf (.ret erM ())) (.lf (WF e y x))):=by
 refine eY _ (nL _ _) 99 1 2 m1L TU [] (fun((x:BX),(e:R0),(y:pH),(l:List ByteArray),(a:Int),(i:Int),_)=>m1T x e y l a i) (fun(_,_,_,(l:List ByteArray),_,(i:Int),_)=>l.length-i.toNat) ?_;rintro⟨(x:BX),(e:R0),(y:pH),(l:List ByteArray),(a:Int),(i:Int),_⟩ r tj ⟨⟨h0,h1,rfl,h4⟩,hr⟩;have hl:l.length≤9223372036854775807:=tj.2.2.2.1;obtain⟨k,rfl⟩:∃k:Nat,i=k:=⟨i.toNat,by omega⟩;rw[aak] at hr;show∃q,(m1T x e y l l.length k).hit q∧_;unfold m1T;by_cases hk:k<l.length
 ·rw[getD_drop (⟨#[]⟩:ByteArray) hk,acL] at hr;rw[aak,OC];have hn:(0:Int)≤k∧(k:Int)<l.length:=⟨by omega,by omega⟩;have hb:Kt.ok .s (l.getD k ⟨#[]⟩):=h4 _ (by rw[aai,aae hk];exact abF _);cases e1:Gm x (l.getD k ⟨#[]⟩)
  ·rw[e1,acH] at hr;exact⟨_,aZ (decide_eq_true hn.2) ⟨hn,hb,bh rfl ⟨⟨by omega,by omega⟩,rfl⟩⟩,by show l.length-(k+1)<l.length-k;omega,⟨by omega,by omega,rfl,h4⟩,hr⟩
  ·rw[e1,Bool.true_or] at hr;obtain rfl:=hr.1 rfl;exact⟨_,aZ (decide_eq_true hn.2) ⟨hn,hb,aZ rfl rfl⟩,rfl⟩
 ·rw[aaL (by omega)] at hr;obtain rfl:=hr.2 rfl;exact⟨_,bh (decide_eq_false (by omega)) rfl,rfl⟩
def zS:List AV:=[.sym (.string ⟨#[]⟩),.sym (.int .i64 0),.sym (.int .i64 0),.sym (.int .i64 0),xb,xb,xb,.sym (.int .i64 0),.sym (.int .i64 0),.sym (.bool false),xb,xb,.sym (.int .i64 0),.sym (.string ⟨#[]⟩)]
def SE (f:eE):XV:=.tup [(true,zS),(true,[.sym (.int .i64 f.no),.sym (.int .i64 f.line)])]
def okX (x:BZ):XV:=.tup [(true,[.sym (.string x.1),.sym (.int .i64 x.2.1),.sym (.int .i64 x.2.2.1),.sym (.int .i64 x.2.2.2.1),.list .str x.2.2.2.2.1 false,.list (.st 3) x.cont.reverse !x.cont.isEmpty,.list (.st 4) x.z.2.1.reverse.reverse !x.z.2.1.reverse.isEmpty,.sym (.int .i64 x.2.2.2.2.2.2.2.1),.sym (.int .i64 x.2.2.2.2.2.2.2.2.1),.sym (.bool x.2.2.2.2.2.2.2.2.2.1),.list .limb x.2.2.2.2.2.2.2.2.2.2.1 false,.list .limb x.2.2.2.2.2.2.2.2.2.2.2.1 false,.sym (.int .i64 x.2.2.2.2.2.2.2.2.2.2.2.2.1),.sym (.string x.2.2.2.2.2.2.2.2.2.2.2.2.2.1)]),(true,[.sym (.int .i64 0),.sym (.int .i64 0)])]
def BX.z0 (t:ByteArray):BX:=(t,(0:Int),(0:Int),(0:Int),[],[],[],(0:Int),(0:Int),false,[],[],(0:Int),⟨#[]⟩,(0,fun _=>none),[],())
noncomputable def cmL (x:BX):T XV:=.nd (xl x) (.br (!((BD x).1.no==0)) (.lf (SE (BD x).1)) (.nd ((BD x).2.z.1=(BD x).2.z.2.1.length) (.lf (okX (BD x).2))))
noncomputable def cmK (x:BX):T XV:=.nd ((0:Int)≤0∧(0:Int)≤eQ.length∧(eQ.length:Int)=eQ.length∧∀s∈eQ,Kt.ok .s s) (.br ((eQ.drop (Int.toNat 0)).any (Gm x)) (.lf (SE ⟨6,0⟩)) (cmL x))
noncomputable def cmB (q:eE×BX):T XV:=.br (!(q.1.no==0)) (.lf (SE q.1)) (cmK q.2)
noncomputable def cmT (s:cI):T XV:=.nd (dR s.title) (.br (!dN s.title 0 60) (.lf (SE ⟨8,0⟩)) (.nd (∀_:ByteArray,(none:Option (List ByteArray))=none) (.nd ((0:Int)≤0∧(0:Int)≤s.blocks.length∧(s.blocks.length:Int)=s.blocks.length∧s.blocks.length≤68719476736∧(∀b∈s.blocks,il b)∧(BX.z0 s.title).ok (2*Int.toNat 0)) (cmB (bsS (s.blocks.drop (Int.toNat 0)) (BX.z0 s.title))))))
theorem Ma:av Tryz.prog 23 true (aU [(0,.st 2)] fun((s:cI),_)=>cmT s):=
 vF (R:=abm) (((nL _ _).add 0 _ Q5).add 1 _ Q0) true 99 [(0,.st 2)] (fun((s:cI),_)=>cmT s) (fun x r _ h=>⟨h,.inl rfl⟩) Tryz.func23
def Ay (x:aa×eE):XV:=.tup [(true,kS (.st 5) x.1),(true,[.sym (.int .i64 x.2.no),.sym (.int .i64 x.2.line)])]
def VX.lOk (x:VX):Prop:=∀t l,x.L.2 t=some l→l.length≤274877906944
theorem VX.lOk_eq {x y:VX} (h:x.lOk) (e:y.2.1=x.2.1):y.lOk:=fun t l hl=>h t l (by have:y.L=x.L:=e;rw[this] at hl;exact hl)
theorem Tr {k:ByteArray} {f:ar} {x:VX} (h:x.lOk) (hf:f.vals.length≤274877906944):(fx k f x).2.lOk:=by
 have hl:(x.setL f.key f.line).lOk:=VX.lOk_eq h rfl;unfold fx;split
 ·exact h
 split
 ·exact h
 split
 ·intro t l hl;have hl:setF x.L.2 f.key f.vals t=some l:=(congrFun (KS x.L.2 f.key f.vals) t).symm.trans hl;unfold setF at hl;split at hl
  ·obtain rfl:=aal hl;exact hf
  ·exact h t l hl
 split
 ·exact hl
 ·exact VX.lOk_eq hl (Ou _ _ _).2.1
theorem Dp {kind:ByteArray}:∀{l:List ar} {v:VX},v.lOk→(∀f∈l,f.vals.length≤274877906944)→(gY kind l v).2.lOk
 | [],_,h,_=>h
 | f::l,v,h,hf=>by
  have h1:=Tr (k:=kind) h (hf f aaw);unfold gY;split
  ·exact h1
  ·exact Dp h1 fun g hg=>hf g (aaN _ hg)
theorem VX.s_len {x:VX} (h:x.lOk) (k:ByteArray):(x.v.s k).length≤274877906944:=by
 show((x.L.2 k).getD []).length≤_;cases e:x.L.2 k with
 | none=>exact ab0 _
 | some l=>exact h k l e
def BX.li (x:BX):Prop:=x.prec.length≤274877906944∧x.styn.length=x.vals.length∧∀v∈x.vals,vOk v
theorem Kk {k nm:ByteArray} {v:VX} {x:BX} (h:x.li) (hv:v.lOk):(kA k nm v.v x).li:=by
 obtain⟨h1,h2,h3⟩:=h;unfold kA;split
 ·exact⟨h1,h2,h3⟩
 split
 ·exact⟨h1,h2,h3⟩
 split
 ·exact⟨v.s_len hv bP,h2,h3⟩
 split
 ·exact⟨h1,h2,h3⟩
 split
 ·refine⟨h1,congrArg (·+1) h2,fun u hu=>?_⟩;rcases aaP.1 (show u∈v.v::x.vals from hu) with rfl|hu
  ·exact⟨aaM (v.s_len hv _) (by decide),aaM (v.s_len hv _) (by decide)⟩
  ·exact h3 u hu
 split
 ·exact⟨h1,h2,h3⟩
 split
 ·exact⟨h1,h2,h3⟩
 ·exact⟨h1,h2,h3⟩
theorem Mi {b:aw} {x:BX} (h:x.li) (hb:il b):(fX b x).2.li:=by
 have hn:(x.nam b.kind b.name).li:=h;unfold fX;split
 ·exact h
 split
 ·exact hn
 split
 ·exact hn
 ·exact Kk hn (Dp (fun t l e=>by cases e) fun f hf=>(hb.2.2.2 f hf).2)
theorem yk:∀{l:List aw} {x:BX},x.li→(∀b∈l,il b)→(fW l x).2.li
 | [],_,h,_=>h
 | b::l,x,h,hb=>by
  have h1:=Mi h (hb b aaw);unfold fW;split
  ·exact h1
  ·exact yk h1 fun c hc=>hb c (aaN _ hc)
theorem DT {prec:List ByteArray} {cont:List ae}:∀{vs:List az} {d:List aj} {r:List ByteArray} {u:List Bool},(qD prec cont vs d r u).2.no=0→(qD prec cont vs d r u).1.1.length=d.length+vs.length
 | [],_,_,_,_=>rfl
 | v::vs,d,r,u,h=>by
  unfold qD at h ⊢;by_cases e1:(rR prec (v.l af) (v.s af) u []).2.no=0
  ·rw[if_pos e1] at h ⊢;by_cases e2:(BH cont (v.l ax) (v.s ax) []).2.no=0
   ·rw[if_pos e2] at h ⊢;rw[DT h,aaD,aaO,aaO,abZ];omega
   ·rw[if_neg e2] at h;exact absurd h e2
  ·rw[if_neg e1] at h;exact absurd h e1
theorem Cc {w:World} {S:Nat→Prop} {v:Value} (f:eE) (h:XR [] w S (SE f) v):XR [] w S (Ay (aa.zero,f)) v:=by
 have hn:∀{t:Ty} {u:Value},VR [] w S xb u→VR [] w S (.list t [] false) u:=fun h=>⟨none,0,0,h.1,RS.nil _ _,fun e=>by cases e⟩;obtain⟨vs,e,h⟩:=h;refine⟨vs,e,?_⟩;cases h with
 | cons h1 h2=>
  refine .cons ?_ h2;obtain⟨us,e,h⟩:=h1;refine⟨us,e,?_⟩
  match us,h with
  | _,.cons a1 (.cons a2 (.cons a3 (.cons a4 (.cons a5 (.cons a6 (.cons a7 (.cons a8 (.cons a9 (.cons a10 (.cons a11 (.cons a12 (.cons a13 (.cons a14 .nil)))))))))))))=>
   exact .cons a1 (.cons a2 (.cons a3 (.cons a4 (.cons (hn a5) (.cons (hn a6) (.cons (hn a7) (.cons a8 (.cons a9 (.cons a10 (.cons (hn a11) (.cons (hn a12) (.cons a13 (.cons a14 .nil)))))))))))))
theorem YV (x:BX):Mw (okX (gy x).2)=Ay ({ x.d.e with styl:=(gy x).2.z.2.1 },⟨0,0⟩):=
 congrArg (fun l=>Ay ({ x.d.e with styl:=l },⟨0,0⟩)) (aap (gy x).2.z.2.1)
theorem Mb:av Tryz.prog 23 true (aU [(0,.st 2)] fun((s:cI),_)=>.nd (Fi s) (.lf (Ay (cX s)))):=by
 refine Ma.imp ?_;rintro⟨(s:cI),_⟩ r ⟨⟨h1,h2,h3⟩,hr⟩;obtain rfl:Ay (cX s)=r:=hr;have hz:(BX.z0 s.title).li:=⟨ab0 _,rfl,fun v hv=>by cases hv⟩;have tj:di s.blocks (bZ.start s.title)=((fW s.blocks (BX.z0 s.title)).1,(fW s.blocks (BX.z0 s.title)).2.d):=AJ s.blocks (BX.z0 s.title);have UQ:=yk hz h3;have pre:∀{q},(cmB (fW s.blocks (BX.z0 s.title))).hit q→dN s.title 0 60=true→(cmT s).hit q:=fun hq hp=>⟨h1,bh (by rw[hp];rfl) ⟨fun _=>rfl,⟨by omega,by omega,rfl,h2,h3,⟨ab0 _,ab0 _,ab0 _,ab0 _,fun k r e=>by cases e⟩⟩,by rw[Hj];exact hq⟩⟩;unfold cX;rw[tj];cases hp:dN s.title 0 60 with
 | false=>rw[if_pos rfl];exact⟨SE ⟨8,0⟩,⟨h1,aZ (by rw[hp];rfl) rfl⟩,fun w S v h=>Cc _ h⟩
 | true=>
  rw[if_neg (by decide)];obtain⟨⟨f,x⟩,hq⟩:∃q,fW s.blocks (BX.z0 s.title)=q:=⟨_,rfl⟩;rw[hq] at UQ pre ⊢;have UQ:x.li:=UQ;by_cases e1:f.no=0
  ·rw[if_neg (by simpa using e1)];have adZ:∀{q},(cmK x).hit q→(cmT s).hit q:=fun h=>pre (bh (by show(!(f.no==0))=false;rw[e1];rfl) h) hp;have kk:∀s∈eQ,Kt.ok .s s:=fun s hs=>qV ((by decide:∀s∈eQ,s.size≤1000) s hs);cases e2:eQ.any (Gm x) with
   | true=>
    rw[if_pos (by exact e2)];exact⟨SE ⟨6,0⟩,adZ ⟨⟨by decide,by decide,rfl,kk⟩,aZ e2 rfl⟩,fun w S v h=>Cc _ h⟩
   | false=>
    rw[if_neg (by intro h;have h:eQ.any (Gm x)=true:=h;rw[e2] at h;cases h)];have lp:xl x:=⟨aaM UQ.1 (by decide),UQ.2.1,UQ.2.2⟩;have hlk:pQ x.d=_:=Uk x lp;have wP:∀{q},(T.br (!((gy x).1.no==0)) (.lf (SE (gy x).1)) (.nd ((gy x).2.z.1=(gy x).2.z.2.1.length) (.lf (okX (gy x).2)))).hit q→(cmT s).hit q:=fun h=>adZ ⟨⟨by decide,by decide,rfl,kk⟩,bh e2 ⟨lp,by rw[Ua];exact h⟩⟩;show∃q,_∧∀(w:World) (S:Nat→Prop) (v:Value),_→XR [] w S (Ay (match pQ x.d with|.error e=>(aa.zero,e)|.ok l=>({ x.d.e with styl:=l },⟨0,0⟩))) v;rw[hlk];by_cases e3:(gy x).1.no=0
    ·rw[if_pos e3];have hg:x.go.2.no=0:=by
      unfold gy at e3;by_cases e:x.go.2.no=0
      ·exact e
      ·rw[if_neg e] at e3;exact e3
     refine⟨okX (gy x).2,wP (bh (by rw[e3];rfl) ⟨?_,rfl⟩),fun w S v h=>by rw[←YV];exact AP h⟩;have:=DT hg;show x.styn.length=x.go.1.1.length;rw[show x.go.1.1.length=_ from this];show _=0+(x.vals.reverse).length;rw[aaH,ab7];exact UQ.2.1
    ·rw[if_neg e3];exact⟨SE (gy x).1,wP (aZ (by rw[beq_false_of_ne e3];rfl) rfl),fun w S v h=>Cc _ h⟩
  ·rw[if_pos e1];exact⟨SE f,pre (aZ (by show(!(f.no==0))=true;rw[beq_false_of_ne e1];rfl) rfl) hp,fun w S v h=>Cc _ h⟩
end Go.Proofs.YtdbpbfglhbiadaaGreatDoor
