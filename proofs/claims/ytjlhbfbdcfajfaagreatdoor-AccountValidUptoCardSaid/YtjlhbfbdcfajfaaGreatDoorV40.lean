/- Tp12 Tp13 Tp14 Ts5 Dac Tc1 Tc2 Tc4 Tc5 Tc6 Tc3 Open -/
import Derived.Test.YtjlhbfbdcfajfaaGreatDoorV00
import Derived.Test.YtjlhbfbdcfajfaaGreatDoorV39
import Derived.Test.YtjlhbfbdcfajfaaGreatDoorV38
import Derived.Test.YtjlhbfbdcfajfaaGreatDoorV23
import Derived.Test.YtjlhbfbdcfajfaaGreatDoorV32
import Derived.Test.YtjlhbfbdcfajfaaGreatDoorV12
import Derived.Test.YtjlhbfbdcfajfaaGreatDoorV01
import Derived.ProofKit
import Derived.Deep.Slices
import Derived.Deep.Fields
import Derived.ChangeSame
set_option maxHeartbeats 8000000
set_option maxRecDepth 100000
namespace Go.Proofs.YtjlhbfbdcfajfaaGreatDoor
open Go Go.RowKit Go.ChangeShapes Go.WideShapes Go.Deep
noncomputable def z6:BX→eB×BZ:=shut gg
theorem Rz (x:BX):z6 x=gg x:=congrFun (mz gg) x
theorem Ng:fV Tryz.prog 67 [0] [(0,zA)] [(0,sBy)] fun((x:BX),_)=>.nd (vK x) (.lf (KO (aE (z6 x).1) (z6 x).2)):=by
 unfold z6;rw[mz];exact Nc
def fL:List av→BX→eB×BX
 | [],b=>(⟨0,0⟩,b)
 | x::l,b=>if(fM x b).1.no≠0 then fM x b else fL l (fM x b).2
theorem ze:∀(l:List av) (x:BX),dO l x.d=((fL l x).1,(fL l x).2.d)
 | [],_=>rfl
 | b::l,x=>by
  unfold dO fL;rw[Pg];split
  ·rfl
  ·exact ze l _
noncomputable def bsS:List av→BX→eB×BX:=shut fL
theorem FO (l:List av) (x:BX):bsS l x=fL l x:=congrFun (congrFun (mz fL) l) x
noncomputable def CV9:iZ Tryz.prog:=d9 Qs [⟨_,_,_,xY⟩,⟨_,_,_,E5⟩] [⟨_,_,_,_,_,TF⟩,⟨_,_,_,_,_,Ng⟩]
noncomputable abbrev cmF:=Tryz.f41
abbrev csE:List CS:=[.d .str,.d tI,.d tI,.d tI,.d (.list .str),.d (.list (.st 3)),.d (.list (.st 4)),.d tI,.d tI,.d .bool,.d (.list .limb),.d (.list .limb),.d tI,.d .str]
abbrev sEl:SS:=.box 30 csE
noncomputable abbrev Ye:Rg Tryz.prog cmF.ntmps:=Am (xZ CV9 cmF) [(20,acd 0 6)] [(3,aca 4 14 9)]
abbrev m0L:List (Nat×SS):=[(4,zA),(2,sEl),(3,KS),(24,sD (.list (.st 1))),(25,sI),(26,sI)]
abbrev Rt:List (Nat×SS):=[(4,zA),(2,sEl),(3,KS)]
abbrev m1L:List (Nat×SS):=[(4,zA),(2,sEl),(3,KS),(39,sL),(40,sI),(41,sI)]
abbrev PR:=fc csE
def vt:AV:=.val (.slice none 0 0)
def zC:List AV:=[.val (.string ⟨#[]⟩),.val (.int .i64 0),.val (.int .i64 0),.val (.int .i64 0),vt,vt,vt,.val (.int .i64 0),.val (.int .i64 0),.val (.bool false),vt,vt,.val (.int .i64 0),.val (.string ⟨#[]⟩)]
def erX (f:eB):XV:=.tup [(true,zC),(true,[.sym (.int .i64 f.no),.sym (.int .i64 f.line)])]
def erM:XV:=.tup [(true,zC),(true,[.val (.int .i64 6),.val (.int .i64 0)])]
def Vd:av:=⟨⟨#[]⟩,⟨#[]⟩,[],0⟩
def Uv (e:PR) (y:o4) (x:BX):LE m0L Rt []:=.out (x,e,y,())
def m0T (x:BX) (e:PR) (y:o4) (l:List av) (a i:Int):T (LE m0L Rt []):=.br (decide (i<a)) (.nd (0≤i∧i<l.length) (.nd (gZ (l.getD i.toNat Vd)∧x.ok 999999999997) (.br (!((fM (l.getD i.toNat Vd) x).1.no==0)) (.lf (.ret (erX (fM (l.getD i.toNat Vd) x).1) ())) (.nd (du (i+1)) (.lf (.back ((fM (l.getD i.toNat Vd) x).2,e,y,l,a,i+1,()))))))) (.lf (Uv e y x))
def m0R (e:PR) (y:o4) (q:eB×BX):T (LE m0L Rt []):=.br (!(q.1.no==0)) (.lf (.ret (erX q.1) ())) (.lf (Uv e y q.2))
theorem O4:fO Ye 0 0 m0L Rt [] fun((x:BX),(e:PR),(y:o4),(l:List av),(a:Int),(i:Int),_)=>.nd (0≤i∧i≤l.length∧a=l.length∧l.length≤68719476736∧(∀b∈l,gZ b)∧x.ok (2*i.toNat)) (m0R e y (bsS (l.drop i.toNat) x)):=by
 refine fS _ (nL _ _) 99 0 0 m0L Rt [] (fun((x:BX),(e:PR),(y:o4),(l:List av),(a:Int),(i:Int),_)=>m0T x e y l a i) (fun(_,_,_,(l:List av),_,(i:Int),_)=>l.length-i.toNat) ?_;rintro⟨(x:BX),(e:PR),(y:o4),(l:List av),(a:Int),(i:Int),_⟩ r _ ⟨⟨h0,h1,rfl,h3,h4,h5⟩,hr⟩;obtain⟨k,rfl⟩:∃k:Nat,i=k:=⟨i.toNat,by omega⟩;rw[aaf] at hr h5;rw[FO] at hr;show∃q,(m0T x e y l l.length k).hit q∧_;unfold m0T;by_cases hk:k<l.length
 ·rw[getD_drop Vd hk,fL] at hr;rw[aaf];have hn:(0:Int)≤k∧(k:Int)<l.length:=⟨by omega,by omega⟩;have hb:gZ (l.getD k Vd):=h4 _ (by rw[aar,aac hk];exact ab7 _);have hx:x.ok 999999999997:=⟨by have:=h5.c;omega,by have:=h5.s;omega,by have:=h5.v;omega,by have:=h5.m;omega,fun k r e=>by have:=h5.r k r e;omega⟩;by_cases e1:(fM (l.getD k Vd) x).1.no=0
  ·rw[if_neg (by simpa using e1)] at hr;refine⟨_,bf (decide_eq_true hn.2) ⟨hn,⟨hb,hx⟩,bw (by rw[e1];rfl) ⟨⟨by omega,by omega⟩,rfl⟩⟩,by show l.length-(k+1)<l.length-k;omega,⟨by omega,by omega,rfl,h3,h4,?_⟩,?_⟩
   ·have:=KB (b:=l.getD k Vd) h5;show BX.ok _ (2*((k:Int)+1).toNat);rw[show 2*((k:Int)+1).toNat=2*k+2 by omega];exact this
   ·show(m0R e y (bsS (l.drop (k+1)) _)).hit r;rw[FO];exact hr
  ·rw[if_pos e1] at hr;obtain rfl:=hr.1 (by rw[beq_false_of_ne e1];rfl);exact⟨_,bf (decide_eq_true hn.2) ⟨hn,⟨hb,hx⟩,bf (by rw[beq_false_of_ne e1];rfl) rfl⟩,rfl⟩
 ·rw[aa5 (by omega),fL] at hr;obtain rfl:=hr.2 rfl;exact⟨_,bw (decide_eq_false (by omega)) rfl,rfl⟩
def Uu (e:PR) (y:o4) (x:BX):LE m1L Rt []:=.out (x,e,y,())
def m1T (x:BX) (e:PR) (y:o4) (l:List ByteArray) (a i:Int):T (LE m1L Rt []):=.br (decide (i<a)) (.nd (0≤i∧i<l.length) (.nd (Kt.ok .s (l.getD i.toNat ⟨#[]⟩)) (.br ((((x.names.2 (l.getD i.toNat ⟨#[]⟩)).getD []).reverse.length:Int)==0) (.lf (.ret erM ())) (.nd (du (i+1)) (.lf (.back (x,e,y,l,a,i+1,()))))))) (.lf (Uu e y x))
def EZ (x:BX) (k:ByteArray):Bool:=decide (x.d.of k=[])
theorem MJ (x:BX) (k:ByteArray):((((x.names.2 k).getD []).reverse.length:Int)==0)=EZ x k:=by
 have e:x.d.of k=((x.names.2 k).getD []).reverse:=by
  show((x.names.2 k).map List.reverse).getD []=_;cases x.names.2 k<;>rfl
 unfold EZ;rw[e];cases ((x.names.2 k).getD []).reverse with
 | nil=>rfl
 | cons a l=>simp;omega
theorem O3:fO Ye 1 2 m1L Rt [] fun((x:BX),(e:PR),(y:o4),(l:List ByteArray),(a:Int),(i:Int),_)=>.nd (0≤i∧i≤l.length∧a=l.length∧∀s∈l,Kt.ok .s s) (.br ((l.drop i.toNat).any (EZ x)) (.lf (.ret erM ())) (.lf (Uu e y x))):=by
 refine fS _ (nL _ _) 99 1 2 m1L Rt [] (fun((x:BX),(e:PR),(y:o4),(l:List ByteArray),(a:Int),(i:Int),_)=>m1T x e y l a i) (fun(_,_,_,(l:List ByteArray),_,(i:Int),_)=>l.length-i.toNat) ?_;rintro⟨(x:BX),(e:PR),(y:o4),(l:List ByteArray),(a:Int),(i:Int),_⟩ r rG ⟨⟨h0,h1,rfl,h4⟩,hr⟩;have hl:l.length≤9223372036854775807:=rG.2.2.2.1;obtain⟨k,rfl⟩:∃k:Nat,i=k:=⟨i.toNat,by omega⟩;rw[aaf] at hr;show∃q,(m1T x e y l l.length k).hit q∧_;unfold m1T;by_cases hk:k<l.length
 ·rw[getD_drop (⟨#[]⟩:ByteArray) hk,adh] at hr;rw[aaf,MJ];have hn:(0:Int)≤k∧(k:Int)<l.length:=⟨by omega,by omega⟩;have hb:Kt.ok .s (l.getD k ⟨#[]⟩):=h4 _ (by rw[aar,aac hk];exact ab7 _);cases e1:EZ x (l.getD k ⟨#[]⟩)
  ·rw[e1,adc] at hr;exact⟨_,bf (decide_eq_true hn.2) ⟨hn,hb,bw rfl ⟨⟨by omega,by omega⟩,rfl⟩⟩,by show l.length-(k+1)<l.length-k;omega,⟨by omega,by omega,rfl,h4⟩,hr⟩
  ·rw[e1,Bool.true_or] at hr;obtain rfl:=hr.1 rfl;exact⟨_,bf (decide_eq_true hn.2) ⟨hn,hb,bf rfl rfl⟩,rfl⟩
 ·rw[aa5 (by omega)] at hr;obtain rfl:=hr.2 rfl;exact⟨_,bw (decide_eq_false (by omega)) rfl,rfl⟩
def zS:List AV:=[.sym (.string ⟨#[]⟩),.sym (.int .i64 0),.sym (.int .i64 0),.sym (.int .i64 0),vt,vt,vt,.sym (.int .i64 0),.sym (.int .i64 0),.sym (.bool false),vt,vt,.sym (.int .i64 0),.sym (.string ⟨#[]⟩)]
def Qh (f:eB):XV:=.tup [(true,zS),(true,[.sym (.int .i64 f.no),.sym (.int .i64 f.line)])]
def okX (x:BZ):XV:=.tup [(true,[.sym (.string x.1),.sym (.int .i64 x.2.1),.sym (.int .i64 x.2.2.1),.sym (.int .i64 x.2.2.2.1),.list .str x.2.2.2.2.1 false,.list (.st 3) x.cont.reverse !x.cont.isEmpty,.list (.st 4) x.z.2.1.reverse.reverse !x.z.2.1.reverse.isEmpty,.sym (.int .i64 x.2.2.2.2.2.2.2.1),.sym (.int .i64 x.2.2.2.2.2.2.2.2.1),.sym (.bool x.2.2.2.2.2.2.2.2.2.1),.list .limb x.2.2.2.2.2.2.2.2.2.2.1 false,.list .limb x.2.2.2.2.2.2.2.2.2.2.2.1 false,.sym (.int .i64 x.2.2.2.2.2.2.2.2.2.2.2.2.1),.sym (.string x.2.2.2.2.2.2.2.2.2.2.2.2.2.1)]),(true,[.sym (.int .i64 0),.sym (.int .i64 0)])]
def BX.z0 (t:ByteArray):BX:=(t,(0:Int),(0:Int),(0:Int),[],[],[],(0:Int),(0:Int),false,[],[],(0:Int),⟨#[]⟩,(0,fun _=>none),[],())
noncomputable def cmL (x:BX):T XV:=.nd (vK x) (.br (!((z6 x).1.no==0)) (.lf (Qh (z6 x).1)) (.nd ((z6 x).2.z.1=(z6 x).2.z.2.1.length) (.lf (okX (z6 x).2))))
noncomputable def cmK (x:BX):T XV:=.nd ((0:Int)≤0∧(0:Int)≤fa.length∧(fa.length:Int)=fa.length∧∀s∈fa,Kt.ok .s s) (.br ((fa.drop (Int.toNat 0)).any (EZ x)) (.lf (Qh ⟨6,0⟩)) (cmL x))
noncomputable def cmB (q:eB×BX):T XV:=.br (!(q.1.no==0)) (.lf (Qh q.1)) (cmK q.2)
noncomputable def cmT (s:cJ):T XV:=.nd (dI s.title) (.br (!dE s.title 0 60) (.lf (Qh ⟨8,0⟩)) (.nd (∀_:ByteArray,(none:Option (List ByteArray))=none) (.nd ((0:Int)≤0∧(0:Int)≤s.blocks.length∧(s.blocks.length:Int)=s.blocks.length∧s.blocks.length≤68719476736∧(∀b∈s.blocks,gZ b)∧(BX.z0 s.title).ok (2*Int.toNat 0)) (cmB (bsS (s.blocks.drop (Int.toNat 0)) (BX.z0 s.title))))))
theorem Kv:ax Tryz.prog 41 true (aX [(0,.st 2)] fun((s:cJ),_)=>cmT s):=
 ut (R:=Ye) (((nL _ _).add 0 _ O4).add 1 _ O3) true 99 [(0,.st 2)] (fun((s:cJ),_)=>cmT s) (fun x r _ h=>⟨h,.inl rfl⟩) Tryz.func41
def yP (x:aa×eB):XV:=.tup [(true,lR (.st 5) x.1),(true,[.sym (.int .i64 x.2.no),.sym (.int .i64 x.2.line)])]
def VX.lOk (x:VX):Prop:=∀t l,x.L.2 t=some l→l.length≤274877906944
theorem VX.lOk_eq {x y:VX} (h:x.lOk) (e:y.2.1=x.2.1):y.lOk:=fun t l hl=>h t l (by have:y.L=x.L:=e;rw[this] at hl;exact hl)
theorem QR {k:ByteArray} {f:ao} {x:VX} (h:x.lOk) (hf:f.vals.length≤274877906944):(fl k f x).2.lOk:=by
 have hl:(x.setL f.key f.line).lOk:=VX.lOk_eq h rfl;unfold fl;split
 ·exact h
 split
 ·exact h
 split
 ·intro t l hl;have hl:setF x.L.2 f.key f.vals t=some l:=(congrFun (Js x.L.2 f.key f.vals) t).symm.trans hl;unfold setF at hl;split at hl
  ·obtain rfl:=aae hl;exact hf
  ·exact h t l hl
 split
 ·exact hl
 ·exact VX.lOk_eq hl (MB _ _ _).2.1
theorem BK {kind:ByteArray}:∀{l:List ao} {v:VX},v.lOk→(∀f∈l,f.vals.length≤274877906944)→(gN kind l v).2.lOk
 | [],_,h,_=>h
 | f::l,v,h,hf=>by
  have h1:=QR (k:=kind) h (hf f aaS);unfold gN;split
  ·exact h1
  ·exact BK h1 fun g hg=>hf g (aa9 _ hg)
theorem VX.s_len {x:VX} (h:x.lOk) (k:ByteArray):(x.v.s k).length≤274877906944:=by
 show((x.L.2 k).getD []).length≤_;cases e:x.L.2 k with
 | none=>exact abS _
 | some l=>exact h k l e
def BX.li (x:BX):Prop:=x.prec.length≤274877906944∧x.styn.length=x.vals.length∧∀v∈x.vals,ZQ v
theorem IY {k nm:ByteArray} {v:VX} {x:BX} (h:x.li) (hv:v.lOk):(ke k nm v.v x).li:=by
 obtain⟨h1,h2,h3⟩:=h;unfold ke;split
 ·exact⟨h1,h2,h3⟩
 split
 ·exact⟨h1,h2,h3⟩
 split
 ·exact⟨v.s_len hv bU,h2,h3⟩
 split
 ·exact⟨h1,h2,h3⟩
 split
 ·refine⟨h1,congrArg (·+1) h2,fun u hu=>?_⟩;rcases aba.1 (show u∈v.v::x.vals from hu) with rfl|hu
  ·exact⟨aa7 (v.s_len hv _) (by decide),aa7 (v.s_len hv _) (by decide)⟩
  ·exact h3 u hu
 split
 ·exact⟨h1,h2,h3⟩
 split
 ·exact⟨h1,h2,h3⟩
 ·exact⟨h1,h2,h3⟩
theorem KC {b:av} {x:BX} (h:x.li) (hb:gZ b):(fM b x).2.li:=by
 have hn:(x.nam b.kind b.name).li:=h;unfold fM;split
 ·exact h
 split
 ·exact hn
 split
 ·exact hn
 ·exact IY hn (BK (fun t l e=>by cases e) fun f hf=>(hb.2.2.2 f hf).2)
theorem wV:∀{l:List av} {x:BX},x.li→(∀b∈l,gZ b)→(fL l x).2.li
 | [],_,h,_=>h
 | b::l,x,h,hb=>by
  have h1:=KC h (hb b aaS);unfold fL;split
  ·exact h1
  ·exact wV h1 fun c hc=>hb c (aa9 _ hc)
theorem Cf {prec:List ByteArray} {cont:List ah}:∀{vs:List aC} {d:List aw} {r:List ByteArray} {u:List Bool},(pF prec cont vs d r u).2.no=0→(pF prec cont vs d r u).1.1.length=d.length+vs.length
 | [],_,_,_,_=>rfl
 | v::vs,d,r,u,h=>by
  unfold pF at h ⊢;by_cases e1:(qG prec (v.l ae) (v.s ae) u []).2.no=0
  ·rw[if_pos e1] at h ⊢;by_cases e2:(Ac cont (v.l ay) (v.s ay) []).2.no=0
   ·rw[if_pos e2] at h ⊢;rw[Cf h,aa8,abs,abs,ab1];omega
   ·rw[if_neg e2] at h;exact absurd h e2
  ·rw[if_neg e1] at h;exact absurd h e1
theorem AG {w:World} {S:Nat→Prop} {v:Value} (f:eB) (h:XR [] w S (Qh f) v):XR [] w S (yP (aa.zero,f)) v:=by
 have hn:∀{t:Ty} {u:Value},VR [] w S vt u→VR [] w S (.list t [] false) u:=fun h=>⟨none,0,0,h.1,RS.nil _ _,fun e=>by cases e⟩;obtain⟨vs,e,h⟩:=h;refine⟨vs,e,?_⟩;cases h with
 | cons h1 h2=>
  refine .cons ?_ h2;obtain⟨us,e,h⟩:=h1;refine⟨us,e,?_⟩
  match us,h with
  | _,.cons a1 (.cons a2 (.cons a3 (.cons a4 (.cons a5 (.cons a6 (.cons a7 (.cons a8 (.cons a9 (.cons Yz (.cons Yy (.cons Yx (.cons a13 (.cons a14 .nil)))))))))))))=>
   exact .cons a1 (.cons a2 (.cons a3 (.cons a4 (.cons (hn a5) (.cons (hn a6) (.cons (hn a7) (.cons a8 (.cons a9 (.cons Yz (.cons (hn Yy) (.cons (hn Yx) (.cons a13 (.cons a14 .nil)))))))))))))
theorem Wb (x:BX):Lm (okX (gg x).2)=yP ({ x.d.e with styl:=(gg x).2.z.2.1 },⟨0,0⟩):=
 congrArg (fun l=>yP ({ x.d.e with styl:=l },⟨0,0⟩)) (aal (gg x).2.z.2.1)
theorem Kw:ax Tryz.prog 41 true (aX [(0,.st 2)] fun((s:cJ),_)=>.nd (DO s) (.lf (yP (dw s)))):=by
 refine Kv.imp ?_;rintro⟨(s:cJ),_⟩ r ⟨⟨h1,h2,h3⟩,hr⟩;obtain rfl:yP (dw s)=r:=hr;have hz:(BX.z0 s.title).li:=⟨abS _,rfl,fun v hv=>by cases hv⟩;have rG:dO s.blocks (cG.start s.title)=((fL s.blocks (BX.z0 s.title)).1,(fL s.blocks (BX.z0 s.title)).2.d):=ze s.blocks (BX.z0 s.title);have Sr:=wV hz h3;have pre:∀{q},(cmB (fL s.blocks (BX.z0 s.title))).hit q→dE s.title 0 60=true→(cmT s).hit q:=fun hq hp=>⟨h1,bw (by rw[hp];rfl) ⟨fun _=>rfl,⟨by omega,by omega,rfl,h2,h3,⟨abS _,abS _,abS _,abS _,fun k r e=>by cases e⟩⟩,by rw[FO];exact hq⟩⟩;unfold dw;rw[rG];cases hp:dE s.title 0 60 with
 | false=>rw[if_pos rfl];exact⟨Qh ⟨8,0⟩,⟨h1,bf (by rw[hp];rfl) rfl⟩,fun w S v h=>AG _ h⟩
 | true=>
  rw[if_neg (by decide)];obtain⟨⟨f,x⟩,hq⟩:∃q,fL s.blocks (BX.z0 s.title)=q:=⟨_,rfl⟩;rw[hq] at Sr pre ⊢;have Sr:x.li:=Sr;by_cases e1:f.no=0
  ·rw[if_neg (by simpa using e1)];have aas:∀{q},(cmK x).hit q→(cmT s).hit q:=fun h=>pre (bw (by show(!(f.no==0))=false;rw[e1];rfl) h) hp;have kk:∀s∈fa,Kt.ok .s s:=fun s hs=>p9 ((by decide:∀s∈fa,s.size≤1000) s hs);cases e2:fa.any (EZ x) with
   | true=>
    rw[if_pos (by exact e2)];exact⟨Qh ⟨6,0⟩,aas ⟨⟨by decide,by decide,rfl,kk⟩,bf e2 rfl⟩,fun w S v h=>AG _ h⟩
   | false=>
    rw[if_neg (by intro h;have h:fa.any (EZ x)=true:=h;rw[e2] at h;cases h)];have lp:vK x:=⟨aa7 Sr.1 (by decide),Sr.2.1,Sr.2.2⟩;have hlk:o9 x.d=_:=RJ x lp;have ve:∀{q},(T.br (!((gg x).1.no==0)) (.lf (Qh (gg x).1)) (.nd ((gg x).2.z.1=(gg x).2.z.2.1.length) (.lf (okX (gg x).2)))).hit q→(cmT s).hit q:=fun h=>aas ⟨⟨by decide,by decide,rfl,kk⟩,bw e2 ⟨lp,by rw[Rz];exact h⟩⟩;show∃q,_∧∀(w:World) (S:Nat→Prop) (v:Value),_→XR [] w S (yP (match o9 x.d with|.error e=>(aa.zero,e)|.ok l=>({ x.d.e with styl:=l },⟨0,0⟩))) v;rw[hlk];by_cases e3:(gg x).1.no=0
    ·rw[if_pos e3];have hg:x.go.2.no=0:=by
      unfold gg at e3;by_cases e:x.go.2.no=0
      ·exact e
      ·rw[if_neg e] at e3;exact e3
     refine⟨okX (gg x).2,ve (bw (by rw[e3];rfl) ⟨?_,rfl⟩),fun w S v h=>by rw[←Wb];exact Eh h⟩;have:=Cf hg;show x.styn.length=x.go.1.1.length;rw[show x.go.1.1.length=_ from this];show _=0+(x.vals.reverse).length;rw[aaH,ace];exact Sr.2.1
    ·rw[if_neg e3];exact⟨Qh (gg x).1,ve (bf (by rw[beq_false_of_ne e3];rfl) rfl),fun w S v h=>AG _ h⟩
  ·rw[if_pos e1];exact⟨Qh f,pre (bf (by show(!(f.no==0))=true;rw[beq_false_of_ne e1];rfl) rfl) hp,fun w S v h=>AG _ h⟩
theorem EJ:ax Tryz.prog 43 false (aX [(0,.st 8)] fun((x:Raw),_)=>.nd (x.short 536870912) (.lf (aB x.valid))):=
 gr fun w S x vs r hS he hl hr=>by
  obtain⟨(x:Raw),_⟩:=x;obtain⟨v,h1,h2⟩:=he 0 (.agg (lR (.st 8) x)) aaS;obtain⟨a1,rfl⟩:=hr
  match vs,hl,h1 with
  | [u],_,h1=>
   injection h1 with h1
   subst h1;exact Calls.mono (IS (FU h2) hS a1) fun e w' h=>⟨_,fun _=>False,h.1,h.2,fun _ q=>q.elim,rfl,rfl⟩
noncomputable def Cs5:iZ Tryz.prog:=d9 Bp [⟨_,_,_,Bu⟩,⟨_,_,_,Kw⟩,⟨_,_,_,EJ⟩,⟨_,_,_,Kc⟩] []
def vpT (e:aa) (q:aa×eB):T XV:=.nd (ga e) (.nd (DO (eL e)) (KM (.lf (aB false)) [q.2.no==0] (.nd (e.risk.short 536870912) (KM (.lf (aB false)) [e.risk.valid] (.nd (q.1.risk.short 67108864∧e.risk.short 67108864) (.lf (aB (lv q.1 e))))))))
theorem En:ax Tryz.prog 28 false (aX [(0,.st 5)] fun((e:aa),_)=>.nd (ga e∧eJ e) (.lf (aB (jf e)))):=
 bT (C:=Cs5) (nL _ _) false 99 [(0,.st 5)] (fun((e:aa),_)=>vpT e (dw (eL e)))
  (fun⟨(e:aa),_⟩ r _ ⟨⟨h1,h2⟩,h⟩=>by
   obtain rfl:aB (jf e)=r:=h;refine⟨?_,.inr rfl⟩;have e0:jf e=([(dw (eL e)).2.no==0].all id&&([e.risk.valid].all id&&lv (dw (eL e)).1 e)):=by
    unfold jf;rw[acr,acU,adu,acr,acU,adu];rfl
   rw[e0];refine⟨h1,LV h1 h2,rz (ret:=.lf (aB false)) (r:=aB) rfl _ fun _=>⟨⟨aa7 h1.short.1 (by decide),aa7 h1.short.2 (by decide)⟩,?_⟩⟩;exact rz (ret:=.lf (aB false)) (t:=.nd ((dw (eL e)).1.risk.short 67108864∧e.risk.short 67108864) (.lf (aB (lv (dw (eL e)).1 e)))) (r:=aB) rfl _ fun _=>⟨⟨wO _,h1.short⟩,rfl⟩) Tryz.func28
def dQ (n:Int):Bool:=decide (0≤n)&&decide (n≤400)
def jE:Nat→List aj→Bool
 | _,[]=>true
 | i,a::l=>decide (a.prec=(i:Int))&&(dQ a.issued&&(dQ a.spoilt&&(dQ a.cast&&jE (i+1) l)))
def ed (l:List aj):Int:=(l.map (·.cast)).sum
def ml (e:aa) (KQ:List aj):Bool:=jf e&&(decide (KQ.length=e.prec.length)&&(jE 0 KQ&&dQ (ed KQ)))
theorem jj {n:Int}:dQ n=true↔0≤n∧n≤400:=by unfold dQ;simp
def ko:Nat→Int→List aj→Bool
 | _,_,[]=>true
 | i,s,a::l=>[a.issued,a.spoilt,a.cast].all dQ&&(decide (a.prec=(i:Int))&&(decide (a.cast≤s)&&ko (i+1) (s-a.cast) l))
def ti (e:aa) (KQ:List aj):Bool:=decide (KQ.length=e.prec.length)&&ko 0 400 KQ
theorem iX:∀{i:Nat} {l:List aj},jE i l=true→0≤ed l
 | _,[],_=>by simp[ed]
 | i,a::l,h=>by
  simp only[jE,aaO,jj] at h;have:=iX h.2.2.2.2;unfold ed at this ⊢;simp only[acq,List.sum_cons];omega
theorem yt:∀(i:Nat) (s:Int) (l:List aj),ko i s l=(jE i l&&decide (ed l≤s))∨s<0
 | _,s,[]=>by
  by_cases h:0≤s
  ·exact .inl (by simp[ko,jE,ed,h])
  ·exact .inr (by omega)
 | i,s,a::l=>by
  by_cases h:0≤s
  ·refine .inl ?_;rw[ac3];have WX:ed (a::l)=a.cast+ed l:=by simp[ed]
   rw[WX];rcases yt (i+1) (s-a.cast) l with ih|ih
   ·simp only[ko,jE,ih,acr,acU,adu,aaO,decide_eq_true_eq,jj];constructor
    ·rintro⟨⟨h1,h2,h3⟩,h4,h5,h6,h7⟩;exact⟨⟨h4,h1,h2,h3,h6⟩,by omega⟩
    ·rintro⟨⟨h4,h1,h2,h3,h6⟩,h7⟩;have:=iX h6;exact⟨⟨h1,h2,h3⟩,h4,by omega,h6,by omega⟩
   ·simp only[ko,jE,acr,acU,adu,aaO,decide_eq_true_eq,jj];constructor
    ·rintro⟨_,_,h5,_⟩;omega
    ·rintro⟨⟨_,_,_,h3,h6⟩,h7⟩;have:=iX h6;omega
  ·exact .inr (by omega)
theorem IT (e:aa) (KQ:List aj):ml e KQ=(jf e&&ti e KQ):=by
 unfold ml ti;rcases yt 0 400 KQ with h|h
 ·rw[h];cases hv:jE 0 KQ
  ·simp
  ·have h0:=iX hv;have:dQ (ed KQ)=decide (ed KQ≤400):=by
    unfold dQ;rw[decide_eq_true h0,acc]
   rw[this]
 ·omega
abbrev PX:SS:=sD (.list (.st 11))
theorem Mr:ax Tryz.prog 29 false (aX [(0,sI)] fun((n:Int),_)=>.lf (aB (dQ n))):=
 bT (C:=C0) (nL _ _) false 99 [(0,sI)] (fun((n:Int),_)=>.br (decide (n≥0)) (.lf (aB (decide (n≤400)))) (.lf (aB false)))
  (fun⟨(n:Int),_⟩ r _ h=>by
   obtain rfl:aB (dQ n)=r:=h;refine⟨?_,.inr rfl⟩;unfold dQ;by_cases h0:0≤n
   ·rw[decide_eq_true h0,acc];exact bf (decide_eq_true h0) rfl
   ·rw[decide_eq_false h0,acx];exact bw (decide_eq_false h0) rfl) Tryz.func29
noncomputable def Cc1:iZ Tryz.prog:=d9 Bp [⟨_,_,_,Mr⟩,⟨_,_,_,En⟩] []
noncomputable abbrev acK:=Tryz.f11
noncomputable abbrev aiG:Rg Tryz.prog acK.ntmps:=xZ Cc1 acK
abbrev avL:List (Nat×SS):=[(5,sI),(19,PX),(20,sI),(21,sI)]
abbrev AvE:=LE avL [(5,sI)] []
def It:AvE:=.ret (.one (.val (.bool false))) ()
def aj.z0:aj:=⟨0,0,0,0⟩
def avE (s:Int) (l:List aj) (n i:Int) (a:aj):T AvE:=Dp (.lf It) [a.prec==i,dQ a.issued,dQ a.spoilt,dQ a.cast] (.nd (du (s+a.cast)) (.nd (du (i+1)) (.lf (.back (s+a.cast,l,n,i+1,())))))
def avT (s:Int) (l:List aj) (n i:Int):T AvE:=.br (decide (i<n)) (.nd (0≤i∧i<l.length) (avE s l n i (l.getD i.toNat aj.z0))) (.lf (.out (s,())))
def avG (s:Int) (l:List aj) (i:Nat):T AvE:=.br (jE i (l.drop i)) (.lf (.out (s+ed (l.drop i),()))) (.lf It)
def avN (s:Int) (l:List aj) (n i:Int):Prop:=0≤i∧i≤l.length∧n=l.length∧l.length≤1099511627776∧0≤s∧s≤400*i
theorem TV:fO aiG 0 0 avL [(5,sI)] [] fun((s:Int),(l:List aj),(n:Int),(i:Int),_)=>.nd (avN s l n i) (avG s l i.toNat):=by
 refine fS _ (nL _ _) 99 0 0 avL [(5,sI)] [] (fun((s:Int),(l:List aj),(n:Int),(i:Int),_)=>avT s l n i) (fun(_,(l:List aj),_,(i:Int),_)=>l.length-i.toNat) ?_;rintro⟨(s:Int),(l:List aj),(n:Int),(i:Int),_⟩ r _ ⟨⟨h0,h1,rfl,h2,h3,h4⟩,hr⟩;obtain⟨k,rfl⟩:∃k:Nat,i=k:=⟨i.toNat,by omega⟩;have hr:(avG s l k).hit r:=hr;show∃q,(avT s l l.length k).hit q∧_;unfold avT;rw[aaf];unfold avG at hr;by_cases hk:k<l.length
 ·rw[getD_drop aj.z0 hk] at hr;obtain⟨a,ha⟩:∃a,l.getD k aj.z0=a:=⟨_,rfl⟩;rw[ha] at hr ⊢;have dS:[a.prec==(k:Int),dQ a.issued,dQ a.spoilt,dQ a.cast].all id=(decide (a.prec=(k:Int))&&(dQ a.issued&&(dQ a.spoilt&&dQ a.cast))):=by
   simp only[acr,acU,id,adu];rfl
  have ahy:jE k (a::l.drop (k+1))=((decide (a.prec=(k:Int))&&(dQ a.issued&&(dQ a.spoilt&&dQ a.cast)))&&jE (k+1) (l.drop (k+1))):=by
   simp only[jE,Bool.and_assoc]
  have WX:ed (a::l.drop (k+1))=a.cast+ed (l.drop (k+1)):=by simp[ed]
  rw[ahy,WX] at hr;cases hc:(decide (a.prec=(k:Int))&&(dQ a.issued&&(dQ a.spoilt&&dQ a.cast))) with
  | false=>
   rw[hc,acx] at hr;have hr:=hr.2 rfl;exact⟨It,bf (decide_eq_true (by omega)) ⟨⟨by omega,by omega⟩,yY (ret:=.lf It) rfl _ (dS.trans hc)⟩,hr⟩
  | true=>
   rw[hc,acc] at hr;have hp:0≤a.cast∧a.cast≤400:=by
    simp only[aaO,jj] at hc;exact hc.2.2.2
   refine⟨.back (s+a.cast,l,(l.length:Int),(k:Int)+1,()),bf (decide_eq_true (by omega)) ⟨⟨by omega,by omega⟩,?_⟩,?_,⟨by omega,by omega,rfl,h2,by omega,by omega⟩,?_⟩
   ·exact yX (α:=AvE) (t:=.nd (du (s+a.cast)) (.nd (du ((k:Int)+1)) (.lf (.back (s+a.cast,l,(l.length:Int),(k:Int)+1,()))))) ⟨⟨by omega,by omega⟩,⟨by omega,by omega⟩,rfl⟩ _ (dS.trans hc)
   ·show l.length-(k+1)<l.length-k;omega
   ·show(avG (s+a.cast) l (k+1)).hit r;unfold avG;rw[Int.add_assoc];exact hr
 ·rw[aa5 (by omega)] at hr;have hr:=hr.1 rfl;refine⟨.out (s,()),bw (decide_eq_false (by omega)) rfl,?_⟩;rw[show s+ed []=s by simp[ed]] at hr;exact hr
def avB (e:aa) (l:List aj):T XV:=.nd (ga e∧eJ e) (Dp (.lf (aB false)) [jf e,(l.length:Int)==(e.prec.length:Int)] (.nd (avN 0 l l.length 0) (.br (jE (Int.toNat 0) (l.drop (Int.toNat 0))) (.lf (aB (dQ (0+ed (l.drop (Int.toNat 0)))))) (.lf (aB false)))))
theorem DN:ax Tryz.prog 11 false (aX [(0,.st 5),(1,PX)] fun((e:aa),(l:List aj),_)=>.nd (ga e∧eJ e) (.lf (aB (ml e l)))):=
 bT (C:=Cc1) ((nL _ _).add 0 _ TV) false 99 [(0,.st 5),(1,PX)] (fun((e:aa),(l:List aj),_)=>avB e l)
  (fun⟨(e:aa),(l:List aj),_⟩ r _ ⟨h0,h⟩=>by
   obtain rfl:aB (ml e l)=r:=h;refine⟨⟨h0,?_⟩,.inr rfl⟩;have hv:ml e l=([jf e,(l.length:Int)==(e.prec.length:Int)].all id&&(jE 0 l&&dQ (ed l))):=by
    rw[ac3];simp only[ml,acr,acU,id,aaO,decide_eq_true_eq,beq_iff_eq,adJ,and_assoc,true_and]
   rw[hv];cases dS:[jf e,(l.length:Int)==(e.prec.length:Int)].all id with
   | false=>exact yY (ret:=.lf (aB false)) rfl _ dS
   | true=>
    have hl:l.length=e.prec.length:=by
     simp only[acr,acU,id,aaO,beq_iff_eq,adJ] at dS;exact dS.2.1
    have hp:=h0.1.lp;refine yX (r:=aB _) ?_ _ dS;refine⟨⟨by omega,by omega,rfl,by omega,by omega,by omega⟩,?_⟩;show(T.br (jE 0 (l.drop 0)) (.lf (aB (dQ (0+ed (l.drop 0))))) (.lf (aB false))).hit _;rw[acC,Int.zero_add,acc];cases jE 0 l with
    | true=>exact bf rfl rfl
    | false=>exact bw rfl rfl) Tryz.func11
noncomputable abbrev aah:=Tryz.f13
noncomputable abbrev aai:Rg Tryz.prog aah.ntmps:=xZ C0 aah
abbrev raC:List CS:=[.d tI,.d tI,.d tI,.d tI]
abbrev RaC:=fc raC
abbrev riL:List (Nat×SS):=[(1,sD (.list (.st 11))),(5,sI),(6,sI),(7,.box 73 raC),(32,.c (.own tI 3)),(33,sI),(34,sI)]
abbrev riO:List (Nat×SS):=[(1,sD (.list (.st 11))),(5,sI),(6,sI),(7,.box 73 raC)]
abbrev RiE:=LE riL riO []
def BG:RiE:=.ret (.one (.val (.bool false))) ()
def Gs (l:List aj) (s i:Int) (a:RaC):RiE:=.out (l,s,i,a,())
def riT (l:List aj) (s i:Int) (a:RaC) (r:List Int) (n j:Int):T RiE:=.br (decide (j<n)) (.nd (0≤j∧j<r.length) (.br (decide (r.reverse.getD j.toNat 0<0)) (.lf BG) (.br (decide (r.reverse.getD j.toNat 0>400)) (.lf BG) (.nd (du (j+1)) (.lf (.back (l,s,i,a,r,n,j+1,()))))))) (.lf (Gs l s i a))
def riN (r:List Int) (n j:Int):Prop:=0≤j∧j≤r.length∧n=r.length∧r.length≤1000
theorem BI:fO aai 1 2 riL riO [] fun((l:List aj),(s:Int),(i:Int),(a:RaC),(r:List Int),(n:Int),(j:Int),_)=>.nd (riN r n j) (.br ((r.reverse.drop j.toNat).all dQ) (.lf (Gs l s i a)) (.lf BG)):=by
 refine fS _ (nL _ _) 99 1 2 riL riO [] (fun((l:List aj),(s:Int),(i:Int),(a:RaC),(r:List Int),(n:Int),(j:Int),_)=>riT l s i a r n j) (fun(_,_,_,_,(r:List Int),_,(j:Int),_)=>r.length-j.toNat) ?_;rintro⟨(l:List aj),(s:Int),(i:Int),(a:RaC),(r:List Int),(n:Int),(j:Int),_⟩ q _ ⟨⟨h0,h1,rfl,h2⟩,hq⟩;obtain⟨k,rfl⟩:∃k:Nat,j=k:=⟨j.toNat,by omega⟩;have hq:(T.br ((r.reverse.drop k).all dQ) (.lf (Gs l s i a)) (.lf BG)).hit q:=hq;show∃p,(riT l s i a r r.length k).hit p∧_;unfold riT;rw[aaf];by_cases hk:k<r.length
 ·rw[getD_drop (0:Int) (by rw[aaH];exact hk),acr] at hq;obtain⟨v,hv⟩:∃v,r.reverse.getD k 0=v:=⟨_,rfl⟩;rw[hv] at hq ⊢;have gR:0≤(k:Int)∧(k:Int)<r.length:=⟨by omega,by omega⟩;cases hp:dQ v with
  | false=>
   rw[hp,acx] at hq;refine⟨BG,bf (decide_eq_true (by omega)) ⟨gR,?_⟩,hq.2 rfl⟩;by_cases h4:v<0
   ·exact bf (decide_eq_true h4) rfl
   ·refine bw (decide_eq_false h4) (bf (decide_eq_true ?_) rfl);have:¬(0≤v∧v≤400):=fun h=>by rw[jj.2 h] at hp;cases hp
    omega
  | true=>
   rw[hp,acc] at hq;have:=jj.1 hp;exact⟨.back (l,s,i,a,r,(r.length:Int),(k:Int)+1,()),bf (decide_eq_true (by omega)) ⟨gR,bw (decide_eq_false (by omega)) (bw (decide_eq_false (by omega)) ⟨⟨by omega,by omega⟩,rfl⟩)⟩,(by show r.length-(k+1)<r.length-k;omega),⟨by omega,by omega,rfl,h2⟩,hq⟩
 ·rw[aa5 (by rw[aaH];omega)] at hq;exact⟨Gs l s i a,bw (decide_eq_false (by omega)) rfl,hq.1 rfl⟩
abbrev roL:List (Nat×SS):=[(1,sD (.list (.st 11))),(5,sI),(6,sI)]
abbrev RoE:=LE roL [] []
def u5:RoE:=.ret (.one (.val (.bool false))) ()
def Mb:RoE:=.out ()
def aj.z1:aj:=⟨0,0,0,0⟩
def roB (l:List aj) (s i:Int) (a:aj):T RoE:=.nd (riN [a.cast,a.spoilt,a.issued] 3 0) (.br ([a.issued,a.spoilt,a.cast].all dQ) (.br (!(a.prec==i)) (.lf u5) (.br (decide (a.cast>s)) (.lf u5) (.nd (du (s-a.cast)) (.nd (du (i+1)) (.lf (.back (l,s-a.cast,i+1,()))))))) (.lf u5))
def roT (l:List aj) (s i:Int):T RoE:=.br (decide (i<l.length)) (.nd (0≤i∧i<l.length) (roB l s i (l.getD i.toNat aj.z1))) (.lf Mb)
def roG (l:List aj) (s:Int) (i:Nat):T RoE:=.br (ko i s (l.drop i)) (.lf Mb) (.lf u5)
theorem Mh:fO aai 0 0 roL [] [] fun((l:List aj),(s:Int),(i:Int),_)=>.nd (0≤i∧i≤l.length∧l.length≤1099511627776∧0≤s∧s≤400) (roG l s i.toNat):=by
 refine fS _ ((nL _ _).add 1 _ BI) 99 0 0 roL [] [] (fun((l:List aj),(s:Int),(i:Int),_)=>roT l s i) (fun((l:List aj),_,(i:Int),_)=>l.length-i.toNat) ?_;rintro⟨(l:List aj),(s:Int),(i:Int),_⟩ r _ ⟨⟨h0,h1,h2,h3,h4⟩,hr⟩;obtain⟨k,rfl⟩:∃k:Nat,i=k:=⟨i.toNat,by omega⟩;have hr:(roG l s k).hit r:=hr;show∃q,(roT l s k).hit q∧_;unfold roT;rw[aaf];unfold roG at hr;by_cases hk:k<l.length
 ·rw[getD_drop aj.z1 hk] at hr;obtain⟨a,ha⟩:∃a,l.getD k aj.z1=a:=⟨_,rfl⟩;rw[ha] at hr ⊢;have gR:0≤(k:Int)∧(k:Int)<l.length:=⟨by omega,by omega⟩;have W4:riN [a.cast,a.spoilt,a.issued] 3 0:=⟨by omega,by simp,rfl,by simp⟩;rw[ko] at hr;cases h5:[a.issued,a.spoilt,a.cast].all dQ with
  | false=>
   rw[h5,acx] at hr;exact⟨u5,bf (decide_eq_true (by omega)) ⟨gR,W4,bw h5 rfl⟩,hr.2 rfl⟩
  | true=>
   rw[h5,acc] at hr;by_cases h6:a.prec=(k:Int)
   ·rw[decide_eq_true h6,acc] at hr;by_cases h7:a.cast≤s
    ·rw[decide_eq_true h7,acc] at hr;have hc:0≤a.cast:=by
      simp only[acr,acU,adu,aaO,jj] at h5;exact h5.2.2.1
     exact⟨.back (l,s-a.cast,(k:Int)+1,()),bf (decide_eq_true (by omega)) ⟨gR,W4,bf h5 (bw (by rw[beq_iff_eq.2 h6];rfl) (bw (decide_eq_false (by omega)) ⟨⟨by omega,by omega⟩,⟨by omega,by omega⟩,rfl⟩))⟩,(by show l.length-(k+1)<l.length-k;omega),⟨by omega,by omega,h2,by omega,by omega⟩,hr⟩
    ·rw[decide_eq_false h7,acx] at hr;exact⟨u5,bf (decide_eq_true (by omega)) ⟨gR,W4,bf h5 (bw (by rw[beq_iff_eq.2 h6];rfl) (bf (decide_eq_true (by omega)) rfl))⟩,hr.2 rfl⟩
   ·rw[decide_eq_false h6,acx] at hr;exact⟨u5,bf (decide_eq_true (by omega)) ⟨gR,W4,bf h5 (bf (by rw[beq_eq_false_iff_ne.2 h6];rfl) rfl)⟩,hr.2 rfl⟩
 ·rw[aa5 (by omega)] at hr;exact⟨Mb,bw (decide_eq_false (by omega)) rfl,hr.1 rfl⟩
def rvB (e:aa) (l:List aj):T XV:=.br (!((l.length:Int)==(e.prec.length:Int))) (.lf (aB false)) (.nd ((0:Int)≤0∧(0:Int)≤l.length∧l.length≤1099511627776∧(0:Int)≤400∧(400:Int)≤400) (.br (ko (Int.toNat 0) 400 (l.drop (Int.toNat 0))) (.lf (aB true)) (.lf (aB false))))
theorem Mi:ax Tryz.prog 13 false (aX [(0,.st 5),(1,sD (.list (.st 11)))] fun((e:aa),(l:List aj),_)=>.nd (l.length≤1099511627776) (.lf (aB (ti e l)))):=
 bT (C:=C0) (((nL _ _).add 1 _ BI).add 0 _ Mh) false 99 [(0,.st 5),(1,sD (.list (.st 11)))] (fun((e:aa),(l:List aj),_)=>rvB e l)
  (fun⟨(e:aa),(l:List aj),_⟩ r _ ⟨h0,h⟩=>by
   obtain rfl:aB (ti e l)=r:=h;refine⟨?_,.inr rfl⟩;unfold ti;by_cases hl:l.length=e.prec.length
   ·rw[decide_eq_true hl,acc];refine bw (by rw[hl];simp) ⟨⟨by omega,by omega,h0,by omega,by omega⟩,?_⟩;show(T.br (ko 0 400 (l.drop 0)) (.lf (aB true)) (.lf (aB false))).hit _;rw[acC];cases ko 0 400 l with
    | true=>exact bf rfl rfl
    | false=>exact bw rfl rfl
   ·rw[decide_eq_false hl,acx];exact bf (by simp;omega) rfl) Tryz.func13
def FF:List kB→List Int→Option (List Int)
 | [],cs=>some cs
 | r::l,cs=>if r.prec<0∨(cs.length:Int)≤r.prec then none else FF l (cs.set r.prec.toNat (cs.getD r.prec.toNat 0+1))
noncomputable abbrev aam:=Tryz.f14
noncomputable def Z1 (t:TypeId):Option Ty:=List.lookup t [(3,tI),(45,.st 12)]
noncomputable def Crc:iZ Tryz.prog:=d9 Z1 [⟨_,_,_,DN⟩] []
noncomputable abbrev aao:Rg Tryz.prog aam.ntmps:=xZ Crc aam
abbrev rcL:List (Nat×SS):=[(1,PX),(8,.c (.own tI 3)),(21,sD (.list (.st 13))),(22,sI),(23,sI)]
abbrev rcO:List (Nat×SS):=[(1,PX),(8,.c (.own tI 3))]
abbrev RcE:=LE rcL rcO []
def GB:RcE:=.ret (.tup [(false,[.val (.slice none 0 0)]),(false,[.val (.int .i64 4)])]) ()
def GC (l:List aj) (cs:List Int):RcE:=.out (l,cs,())
def kB.z:kB:=⟨0,.bool false,false⟩
def rcB (l:List aj) (cs:List Int) (rs:List kB) (n i p:Int):T RcE:=.br (decide (p<0)) (.lf GB) (.br (decide (p≥l.length)) (.lf GB) (.nd (0≤p∧p<cs.length) (.nd (du (cs.reverse.getD p.toNat 0+1)) (.nd (0≤p∧p<cs.length) (.nd (du (i+1)) (.lf (.back (l,(cs.reverse.set p.toNat (cs.reverse.getD p.toNat 0+1)).reverse,rs,n,i+1,()))))))))
def rcT (l:List aj) (cs:List Int) (rs:List kB) (n i:Int):T RcE:=.br (decide (i<n)) (.nd (0≤i∧i<rs.length) (rcB l cs rs n i (rs.getD i.toNat kB.z).prec)) (.lf (GC l cs))
def rcN (l:List aj) (cs:List Int) (rs:List kB) (n i:Int):Prop:=0≤i∧i≤rs.length∧n=rs.length∧rs.length≤1099511627776∧cs.length=l.length∧∀c∈cs,0≤c∧c≤i
def rcG (l:List aj) (q:Option (List Int)):T RcE:=.br q.isSome (.lf (GC l (q.getD []).reverse)) (.lf GB)
theorem Jk:fO aao 0 0 rcL rcO [] fun((l:List aj),(cs:List Int),(rs:List kB),(n:Int),(i:Int),_)=>.nd (rcN l cs rs n i) (rcG l (FF (rs.drop i.toNat) cs.reverse)):=by
 refine fS _ (nL _ _) 99 0 0 rcL rcO [] (fun((l:List aj),(cs:List Int),(rs:List kB),(n:Int),(i:Int),_)=>rcT l cs rs n i) (fun(_,_,(rs:List kB),_,(i:Int),_)=>rs.length-i.toNat) ?_;rintro⟨(l:List aj),(cs:List Int),(rs:List kB),(n:Int),(i:Int),_⟩ r _ ⟨⟨h0,h1,rfl,h2,h3,h4⟩,hr⟩;obtain⟨k,rfl⟩:∃k:Nat,i=k:=⟨i.toNat,by omega⟩;have hr:(rcG l (FF (rs.drop k) cs.reverse)).hit r:=hr;show∃q,(rcT l cs rs rs.length k).hit q∧_;unfold rcT;rw[aaf];by_cases hk:k<rs.length
 ·rw[getD_drop kB.z hk] at hr;obtain⟨a,ha⟩:∃a,rs.getD k kB.z=a:=⟨_,rfl⟩;rw[ha] at hr ⊢;obtain⟨p,hp⟩:∃p,a.prec=p:=⟨_,rfl⟩;rw[hp];rw[FF,hp,aaH] at hr;have gR:0≤(k:Int)∧(k:Int)<rs.length:=⟨by omega,by omega⟩;by_cases hb:p<0∨(cs.length:Int)≤p
  ·rw[if_pos hb] at hr;refine⟨GB,bf (decide_eq_true (by omega)) ⟨gR,?_⟩,hr.2 rfl⟩;by_cases Hp:p<0
   ·exact bf (decide_eq_true Hp) rfl
   ·exact bw (decide_eq_false Hp) (bf (decide_eq_true (by omega)) rfl)
  ·rw[if_neg hb] at hr;have hm:cs.reverse.getD p.toNat 0∈cs:=by
    rw[aar,aac (by rw[aaH];omega)];exact adG.1 (ab7 _)
   have hc:=h4 _ hm;refine⟨.back (l,(cs.reverse.set p.toNat (cs.reverse.getD p.toNat 0+1)).reverse,rs,(rs.length:Int),(k:Int)+1,()),bf (decide_eq_true (by omega)) ⟨gR,bw (decide_eq_false (by omega)) (bw (decide_eq_false (by omega)) ⟨⟨by omega,by omega⟩,⟨by omega,by omega⟩,⟨by omega,by omega⟩,⟨by omega,by omega⟩,rfl⟩)⟩,?_,⟨by omega,by omega,rfl,h2,?_,?_⟩,?_⟩
   ·show rs.length-(k+1)<rs.length-k;omega
   ·rw[aaH,abN,aaH];exact h3
   ·intro c K1;rcases List.mem_or_eq_of_mem_set (adG.1 K1) with h|rfl
    ·have:=h4 c (adG.1 h);omega
    ·omega
   ·show(rcG l (FF (rs.drop (k+1)) (cs.reverse.set p.toNat (cs.reverse.getD p.toNat 0+1)).reverse.reverse)).hit r;rw[aal];exact hr
 ·rw[aa5 (by omega),FF] at hr;have hr:GC l cs.reverse.reverse=r:=hr.1 rfl;rw[aal] at hr;exact⟨GC l cs,bw (decide_eq_false (by omega)) rfl,hr⟩
abbrev rgL:List (Nat×SS):=[(8,.c (.own tI 3)),(11,.c (.own (.st 12) 45)),(45,PX),(46,sI),(47,sI)]
abbrev rgO:List (Nat×SS):=[(11,.c (.own (.st 12) 45))]
abbrev RgE:=LE rgL rgO []
def SZ (i:Int) (a:aj) (q:Int):gX:=⟨i,a.cast,q,if 0>a.cast-q then 0 else a.cast-q,if 0>q-a.cast then 0 else q-a.cast,a.issued !=a.spoilt+a.cast⟩
def wA:Nat→List aj→List Int→List gX
 | i,a::l,q::m=>SZ i a q::wA (i+1) l m
 | _,_,_=>[]
def rgB (cs:List Int) (gs:List gX) (l:List aj) (n i:Int) (a:aj) (q:Int):T RgE:=.nd (0≤i∧i<cs.length) (.nd (0≤i∧i<cs.length) (.nd (du (a.cast-q)) (.nd (0≤i∧i<cs.length) (.nd (du (q-a.cast)) (.nd (du (a.spoilt+a.cast)) (.nd ((gs.length+1)*49≤140737488355328) (.nd (du (i+1)) (.lf (.back (cs,SZ i a q::gs,l,n,i+1,()))))))))))
def rgT (cs:List Int) (gs:List gX) (l:List aj) (n i:Int):T RgE:=.br (decide (i<n)) (.nd (0≤i∧i<l.length) (rgB cs gs l n i (l.getD i.toNat aj.z0) (cs.reverse.getD i.toNat 0))) (.lf (.out (gs,())))
def rgN (cs:List Int) (gs:List gX) (l:List aj) (n i:Int):Prop:=0≤i∧i≤l.length∧n=l.length∧l.length≤1099511627776∧cs.length=l.length∧(gs.length:Int)=i∧(∀c∈cs,0≤c∧c≤1099511627776)∧∀a∈l,(0≤a.spoilt∧a.spoilt≤400)∧0≤a.cast∧a.cast≤400
theorem Jj:fO aao 1 2 rgL rgO [] fun((cs:List Int),(gs:List gX),(l:List aj),(n:Int),(i:Int),_)=>.nd (rgN cs gs l n i) (.lf (.out ((wA i.toNat (l.drop i.toNat) (cs.reverse.drop i.toNat)).reverse++gs,()))):=by
 refine fS _ (nL _ _) 99 1 2 rgL rgO [] (fun((cs:List Int),(gs:List gX),(l:List aj),(n:Int),(i:Int),_)=>rgT cs gs l n i) (fun(_,_,(l:List aj),_,(i:Int),_)=>l.length-i.toNat) ?_;rintro⟨(cs:List Int),(gs:List gX),(l:List aj),(n:Int),(i:Int),_⟩ r _ ⟨⟨h0,h1,rfl,h2,h3,h4,h5,h6⟩,hr⟩;obtain⟨k,rfl⟩:∃k:Nat,i=k:=⟨i.toNat,by omega⟩;have hr:(LE.out ((wA k (l.drop k) (cs.reverse.drop k)).reverse++gs,()):RgE)=r:=hr;subst hr;show∃q,(rgT cs gs l l.length k).hit q∧_;unfold rgT;rw[aaf];by_cases hk:k<l.length
 ·rw[getD_drop aj.z0 hk,getD_drop (0:Int) (show k<cs.reverse.length by rw[aaH];omega)];obtain⟨a,ha⟩:∃a,l.getD k aj.z0=a:=⟨_,rfl⟩;obtain⟨q,hq⟩:∃q,cs.reverse.getD k 0=q:=⟨_,rfl⟩;have hma:=h6 a (by rw[←ha,aar,aac hk];exact ab7 hk);have hmq:=h5 q (by rw[←hq,aar,aac (by rw[aaH];omega)];exact adG.1 (ab7 _));rw[ha,hq];have gR:0≤(k:Int)∧(k:Int)<cs.length:=⟨by omega,by omega⟩;refine⟨.back (cs,SZ k a q::gs,l,(l.length:Int),(k:Int)+1,()),bf (decide_eq_true (by omega)) ⟨⟨by omega,by omega⟩,gR,gR,⟨by omega,by omega⟩,gR,⟨by omega,by omega⟩,⟨by omega,by omega⟩,by omega,⟨by omega,by omega⟩,rfl⟩,?_,⟨by omega,by omega,rfl,h2,h3,(show((gs.length+1:Nat):Int)=(k:Int)+1 by omega),h5,h6⟩,?_⟩
  ·show l.length-(k+1)<l.length-k;omega
  ·show(LE.out ((wA (k+1) (l.drop (k+1)) (cs.reverse.drop (k+1))).reverse++SZ k a q::gs,()):RgE)=.out ((wA k (a::l.drop (k+1)) (q::cs.reverse.drop (k+1))).reverse++gs,());rw[wA,ab6,abQ];rfl
 ·rw[aa5 (show l.length≤k by omega)];exact⟨.out (gs,()),bw (decide_eq_false (by omega)) rfl,by cases cs.reverse.drop k<;>rfl⟩
def aap (n:Int):XV:=.tup [(false,[.val (.slice none 0 0)]),(false,[.sym (.int .i64 n)])]
def aan (g:List gX):XV:=.tup [(false,[.list (.st 12) g.reverse !g.isEmpty]),(false,[.sym (.int .i64 0)])]
def rcF (l:List aj) (q:Option (List Int)):T XV:=.br q.isSome (.nd (rgN (q.getD []).reverse [] l l.length 0) (.lf (aan ((wA (Int.toNat 0) (l.drop (Int.toNat 0)) ((q.getD []).reverse.reverse.drop (Int.toNat 0))).reverse++[])))) (.lf (aap 4))
def rcM (e:aa) (l:List aj) (rs:List kB):T XV:=.nd (ga e∧eJ e) (.br (!ml e l) (.lf (aap 8)) (.nd ((0:Int)≤l.length∧(l.length:Int)=l.length∧(l.length:Int)*((8:Nat)+1:Int)≤281474976710656) (.nd (rcN l (List.replicate (l.length:Int).toNat 0) rs rs.length 0) (rcF l (FF (rs.drop (Int.toNat 0)) (List.replicate (l.length:Int).toNat 0).reverse)))))
theorem Jl:ax Tryz.prog 14 true (aX [(0,.st 5),(1,PX),(2,sD (.list (.st 13)))] fun((e:aa),(l:List aj),(rs:List kB),_)=>rcM e l rs):=
 bT (C:=Crc) (((nL _ _).add 0 _ Jk).add 1 _ Jj) true 99 [(0,.st 5),(1,PX),(2,sD (.list (.st 13)))] (fun((e:aa),(l:List aj),(rs:List kB),_)=>rcM e l rs) (fun _ _ _ h=>⟨h,.inl rfl⟩) Tryz.func14
noncomputable abbrev aav:=Tryz.f16
noncomputable abbrev afI:Rg Tryz.prog aav.ntmps:=xZ C0 aav
abbrev phL:List (Nat×SS):=[(3,sI),(6,sD (.list (.st 12))),(7,sI),(8,sI)]
abbrev PhE:=LE phL [(3,sI)] []
def YZ (x:Int):Int:=if 400<(if 0>x then 0 else x) then 400 else(if 0>x then 0 else x)
def Q0 (n x:Int):Int:=if 400<n+YZ x then 400 else n+YZ x
def gX.z:gX:=⟨0,0,0,0,0,false⟩
def phT (s:Int) (g:List gX) (n i:Int):T PhE:=.br (decide (i<n)) (.nd (0≤i∧i<g.length) (.nd (du (s+YZ (g.getD i.toNat gX.z).missing)) (.nd (du (i+1)) (.lf (.back (Q0 s (g.getD i.toNat gX.z).missing,g,n,i+1,())))))) (.lf (.out (s,())))
theorem Mu (x:Int):0≤YZ x∧YZ x≤400:=by unfold YZ;split<;>split<;>omega
theorem V1 (n x:Int) (h:0≤n):0≤Q0 n x∧Q0 n x≤400:=by have:=Mu x;unfold Q0;split<;>omega
theorem Mt:fO afI 0 0 phL [(3,sI)] [] fun((s:Int),(g:List gX),(n:Int),(i:Int),_)=>.nd (0≤i∧i≤g.length∧n=g.length∧g.length≤1099511627776∧0≤s∧s≤400) (.lf (.out ((g.drop i.toNat).foldl (fun n g=>Q0 n g.missing) s,()))):=by
 refine fS _ (nL _ _) 99 0 0 phL [(3,sI)] [] (fun((s:Int),(g:List gX),(n:Int),(i:Int),_)=>phT s g n i) (fun(_,(g:List gX),_,(i:Int),_)=>g.length-i.toNat) ?_;rintro⟨(s:Int),(g:List gX),(n:Int),(i:Int),_⟩ r _ ⟨⟨h0,h1,rfl,h2,h3,h4⟩,hr⟩;obtain⟨k,rfl⟩:∃k:Nat,i=k:=⟨i.toNat,by omega⟩;have hr:(LE.out ((g.drop k).foldl (fun n g=>Q0 n g.missing) s,()):PhE)=r:=hr;subst hr;show∃q,(phT s g g.length k).hit q∧_;unfold phT;rw[aaf];by_cases hk:k<g.length
 ·rw[getD_drop gX.z hk];have h5:=Mu (g.getD k gX.z).missing;have h6:=V1 s (g.getD k gX.z).missing h3;exact⟨.back (Q0 s (g.getD k gX.z).missing,g,(g.length:Int),(k:Int)+1,()),bf (decide_eq_true (by omega)) ⟨⟨by omega,by omega⟩,⟨by omega,by omega⟩,⟨by omega,by omega⟩,rfl⟩,(by show g.length-(k+1)<g.length-k;omega),⟨by omega,by omega,rfl,h2,h6⟩,rfl⟩
 ·rw[aa5 (by omega)];exact⟨.out (s,()),bw (decide_eq_false (by omega)) rfl,rfl⟩
def phR (g:List gX):Int:=g.foldl (fun n g=>Q0 n g.missing) 0
theorem Ju:ax Tryz.prog 16 false (aX [(0,sD (.list (.st 12)))] fun((g:List gX),_)=>.nd (g.length≤1099511627776) (.lf (aI (phR g)))):=
 bT (C:=C0) ((nL _ _).add 0 _ Mt) false 99 [(0,sD (.list (.st 12)))] (fun((g:List gX),_)=>.nd ((0:Int)≤0∧(0:Int)≤g.length∧(g.length:Int)=g.length∧g.length≤1099511627776∧(0:Int)≤0∧(0:Int)≤400) (.lf (aI ((g.drop (Int.toNat 0)).foldl (fun n g=>Q0 n g.missing) 0))))
  (fun⟨(g:List gX),_⟩ r _ ⟨h0,h⟩=>by
   obtain rfl:aI (phR g)=r:=h;exact⟨⟨⟨by omega,by omega,rfl,h0,by omega,by omega⟩,rfl⟩,.inr rfl⟩) Tryz.func16
theorem EH:ax Tryz.prog 27 false (aX [] fun _=>.lf (.agg (lR (.st 5) ez))):=
 gr fun w S x vs r hS he hl hr=>by
  obtain rfl:=hr
  match vs,hl with
  | [],_=>exact Calls.mono Ja fun e w' ⟨v,h1,⟨cs,h2,h3⟩,hb⟩=>⟨v,cQ w w',h1,hb,fun b q=>.inr q,cs,h2,j2 (t:=.st 5) h3⟩
noncomputable def Z0 (t:TypeId):Option Ty:=List.lookup t [(3,tI),(45,.st 12),(73,.st 11),(42,.st 13)]
noncomputable def Caw:iZ Tryz.prog:=d9 Z0 [⟨_,_,_,EH⟩,⟨_,_,_,Jl⟩,⟨_,_,_,Ju⟩] []
theorem xu:ga ez where
 dots:=⟨by decide,by decide⟩
 blank:=⟨by decide,by decide⟩
 marked:=⟨by decide,by decide⟩
 scan:=⟨by decide,by decide⟩
 batch:=⟨by decide,by decide⟩
 cell:=⟨by decide,by decide⟩
 conts:=by intro x hx;obtain rfl:=acB.1 hx;unfold ow D9;simp
 styls:=by intro x hx;obtain rfl:=acB.1 hx;simp
 lc:=by simp[ez]
 ls:=by simp[ez]
 lp:=by simp[ez]
 short:=by simp[ez,Raw.short]
theorem BA:eJ ez where
 title:=bo (by simp[ez,ByteArray.size])
 seed:=bo (by simp[ez,ByteArray.size])
 prec:=by intro s hs;simp only[ez,aba,abG,or_false] at hs;rcases hs with rfl|rfl<;>exact bo (by simp[ByteArray.size])
 cont:=by
  intro x hx;obtain rfl:=acB.1 hx;refine⟨bo (by simp[ByteArray.size]),fun s hs=>?_⟩;simp only[aba,abG,or_false] at hs;rcases hs with rfl|rfl|rfl<;>exact bo (by simp[ByteArray.size])
 styl:=by intro x hx;obtain rfl:=acB.1 hx;exact bo (by simp[ByteArray.size])
 len:=by simp[ez]
def Ln:List aj:=[⟨0,10,1,8⟩,⟨1,0,0,0⟩]
def ZP:List kB:=List.replicate 7 ⟨0,.slice none 0 0,false⟩
def aF:T XV:=.lf (aB false)
def ZO:T XV:=.nd ((0:Int)≤7∧(7:Int)=7∧(7:Int)*((40:Nat)+1:Int)≤281474976710656) (.nd (ga ez∧eJ ez) (.br false (.br false aF aF)
 (.nd ((0:Int)≤2∧(2:Int)=2∧(2:Int)*((8:Nat)+1:Int)≤281474976710656) (.nd (rcN Ln [0,0] ZP 7 0) (.br true (.nd (rgN [0,7] [] Ln 2 0) (.br true (.br true (.nd ((0:Int)≤0∧(0:Int)<2) (.br true (.nd ((2:Nat)≤1099511627776) (.lf (aB true))) aF)) aF) aF)) (.br false aF aF))))))
theorem KH:ax Tryz.prog 10 false (aX [] fun _=>.lf (aB true)):=
 bT (C:=Caw) (nL _ _) false 99 [] (fun _=>ZO) (fun _ r _ h=>by
  obtain rfl:aB true=r:=h;refine⟨⟨by decide,⟨xu,BA⟩,bw rfl ⟨by decide,⟨by decide,by decide,rfl,by decide,rfl,by decide⟩,bf rfl ⟨⟨by decide,by decide,rfl,by decide,rfl,rfl,by decide,?_⟩,bf rfl (bf rfl ⟨by decide,bf rfl ⟨by decide,rfl⟩⟩)⟩⟩⟩,.inr rfl⟩;intro a ha;simp only[Ln,aba,abG,or_false] at ha;rcases ha with rfl|rfl<;>decide) Tryz.func10
noncomputable def Cc3:iZ Tryz.prog:=d9 rO [⟨_,_,_,KH⟩,⟨_,_,_,DN⟩,⟨_,_,_,Mi⟩,⟨_,_,_,IR⟩] []
def GW (n:Nat):Int:=if 14<(n:Int) then 14 else n
def alT (e:aa) (l:List aj) (n:Int):T XV:=.nd ((0:Int)≤0∧0≤n∧n≤l.length) (.br true (.nd (ga e∧eJ e) (.nd (ga e∧eJ e) (.br (nC e) (.nd (((l.take n.toNat).drop (Int.toNat 0)).length≤1099511627776) (.lf (aB (ml e ((l.take n.toNat).drop (Int.toNat 0))==ti e ((l.take n.toNat).drop (Int.toNat 0)))))) (.lf (aB (ml e ((l.take n.toNat).drop (Int.toNat 0))==false)))))) (.lf (aB false)))
theorem lawAVT_ok:ax Tryz.prog 3 false (aX [(0,.st 5),(1,PX)] fun((e:aa),(_:List aj),_)=>.nd (ga e∧eJ e) (.lf (aB true))):=
 bT (C:=Cc3) (nL _ _) false 99 [(0,.st 5),(1,PX)] (fun((e:aa),(l:List aj),_)=>alT e l (GW l.length))
  (fun⟨(e:aa),(l:List aj),_⟩ r _ ⟨h0,h⟩=>by
   obtain rfl:aB true=r:=h;refine⟨?_,.inr rfl⟩;obtain⟨n,hn⟩:∃n,GW l.length=n:=⟨_,rfl⟩;have h1:0≤n∧n≤l.length∧n≤14:=by rw[←hn];unfold GW;split<;>omega
   show(alT e l (GW l.length)).hit _;rw[hn];unfold alT;generalize hk:(l.take n.toNat).drop (Int.toNat 0)=k;have J0:k.length≤1099511627776:=by
    rw[←hk,acL,ab4];omega
   refine⟨⟨by omega,h1.1,h1.2.1⟩,bf rfl ⟨h0,h0,?_⟩⟩;rw[IT,←valid_eq];cases nC e with
   | true=>
    refine bf rfl ⟨J0,?_⟩;rw[acc];show aB (ti e k==ti e k)=aB true;rw[beq_self_eq_true]
   | false=>exact bw rfl rfl) Tryz.func3
theorem ax.retV {P:Program} {f:FuncId} {al:Bool} {F:List XV→T XV} (h:ax P f al F) {w:World} {S:Nat→Prop} {xs:List XV} {vs:List Value} {u:Value} (hW:Wd w) (hS:∀b,S b→b<w.heap.size) (hx:F2 (XR [] w S) xs vs) (hr:(F xs).hit (.one (.sym u))):Calls P f vs.toArray w (j5 w u):=
 Calls.mono (h w S xs vs _ hW hS hx hr) fun _ _ ⟨_,_,h1,h2,_,h3⟩=>⟨h1.trans (congrArg _ h3.1),h2⟩
theorem RS.xr {w:World} {S:Nat→Prop} {A:Option Addr} {n c:Nat} (t:Ty) {xs:List (El t)} (h:RS w S A n c xs):XR [] w S (.one (.list t xs false)) (.slice A n c):=⟨A,n,c,rfl,h,fun e=>by cases e⟩
theorem lawAV_any {W:World} {B:Nat} (hT:PD B W) (hB:B≤W.heap.size) {v:Value} {e:aa} {l:List aj} {A:Option Addr} {n c:Nat} (h:SV W (fun b=>b<W.heap.size) v e) (he:ga e∧eJ e) (hr:RS W (fun b=>b<W.heap.size) A n c l):Calls Tryz.prog 3 #[v,.slice A n c] W (j5 W (.bool true)):=
 lawAVT_ok.retV (xs:=[.agg (lR (.st 5) e),.one (.list (.st 11) l false)]) (vs:=[v,.slice A n c]) ⟨B,hB,hT⟩ (fun _ h=>h) (.cons (h.xr 5) (.cons (RS.xr (.st 11) hr) .nil)) (⟨he,rfl⟩:(T.nd (ga e∧eJ e) (.lf (aB true))).hit (aB true))
class Fits (α:Type) where
 fits:α→Prop
instance:Fits Int:=⟨fun x=>-9223372036854775808≤x∧x≤9223372036854775807⟩
instance:Fits Bool:=⟨fun _=>True⟩
instance:Fits UInt8:=⟨fun _=>True⟩
instance:Fits ByteArray:=⟨fun s=>s.size≤9223372036854775807⟩
instance {α:Type} [Fits α]:Fits (List α):=⟨fun l=>l.length≤9223372036854775807∧∀x∈l,Fits.fits x⟩
theorem CO {α:Type} (n:Nat) (p:Nat→α→Prop) (h:∀i,i<n→∃a,p i a):∃l:List α,l.length=n∧∀i a,l[i]?=some a→p i a:=by
 induction n with
 | zero=>exact⟨[],rfl,fun i a hi=>by simp at hi⟩
 | succ n ih=>
  obtain⟨l,hl,hp⟩:=ih (fun i hi=>h i (by omega));obtain⟨a,ha⟩:=h n (by omega);refine⟨l++[a],by simp[hl],fun i b hi=>?_⟩;rw[List.getElem?_append] at hi;split at hi
  ·exact hp i b hi
  ·have:i=n:=by
    rcases Nat.lt_or_ge (i-l.length) 1 with h|h
    ·omega
    ·rw[abL (by simpa using h)] at hi;cases hi
   subst this;rw[hl,Nat.sub_self] at hi;simp at hi;subst hi;exact ha
end Go.Proofs.YtjlhbfbdcfajfaaGreatDoor
