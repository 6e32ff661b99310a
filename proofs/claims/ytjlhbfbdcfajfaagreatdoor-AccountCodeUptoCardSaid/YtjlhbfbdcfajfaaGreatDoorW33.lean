/- Tp12 Tp13 Tp14 Vld1 Ts5 Dac Tc1 Tc4 Tc7 Tm2 -/
import Derived.Test.YtjlhbfbdcfajfaaGreatDoorW00
import Derived.Test.YtjlhbfbdcfajfaaGreatDoorW32
import Derived.Test.YtjlhbfbdcfajfaaGreatDoorW31
import Derived.Lib.ItoaLen
import Derived.Test.YtjlhbfbdcfajfaaGreatDoorW22
import Derived.Test.YtjlhbfbdcfajfaaGreatDoorW11
import Derived.Test.YtjlhbfbdcfajfaaGreatDoorW18
set_option maxHeartbeats 8000000
set_option maxRecDepth 100000
namespace Go.Proofs.YtjlhbfbdcfajfaaGreatDoor
open Go Go.RowKit
noncomputable def Bq:BX→eM×BZ:=shut gv
theorem TW (x:BX):Bq x=gv x:=congrFun (mQ gv) x
theorem OP:gh Tryz.prog 67 [0] [(0,AU)] [(0,sBy)] fun((x:BX),_)=>.nd (wW x) (.lf (Mb (aE (Bq x).1) (Bq x).2)):=by
 unfold Bq;rw[mQ];exact ON
def fW:List aw→BX→eM×BX
 | [],b=>(⟨0,0⟩,b)
 | x::l,b=>if(fX x b).1.no≠0 then fX x b else fW l (fX x b).2
theorem AA:∀(l:List aw) (x:BX),dV l x.d=((fW l x).1,(fW l x).2.d)
 | [],_=>rfl
 | b::l,x=>by
  unfold dV fW;rw[Ra];split
  ·rfl
  ·exact AA l _
noncomputable def bsS:List aw→BX→eM×BX:=shut fW
theorem G2 (l:List aw) (x:BX):bsS l x=fW l x:=congrFun (congrFun (mQ fW) l) x
noncomputable def CV9:hZ Tryz.prog:=dj SJ [⟨_,_,_,ze⟩,⟨_,_,_,Gj⟩] [⟨_,_,_,_,_,VG⟩,⟨_,_,_,_,_,OP⟩]
noncomputable abbrev cmF:=Tryz.f41
abbrev csE:List CS:=[.d .str,.d tI,.d tI,.d tI,.d (.list .str),.d (.list (.st 3)),.d (.list (.st 4)),.d tI,.d tI,.d .bool,.d (.list .limb),.d (.list .limb),.d tI,.d .str]
abbrev sEl:SS:=.box 30 csE
noncomputable abbrev aaL:Rg Tryz.prog cmF.ntmps:=BE (sG CV9 cmF) [(20,ae8 0 6)] [(3,ae6 4 14 9)]
abbrev m0L:List (Nat×SS):=[(4,AU),(2,sEl),(3,Mi),(24,sD (.list (.st 1))),(25,sI),(26,sI)]
abbrev TP:List (Nat×SS):=[(4,AU),(2,sEl),(3,Mi)]
abbrev m1L:List (Nat×SS):=[(4,AU),(2,sEl),(3,Mi),(39,sL),(40,sI),(41,sI)]
abbrev RV:=eY csE
def wL:AV:=.val (.slice none 0 0)
def zC:List AV:=[.val (.string ⟨#[]⟩),.val (.int .i64 0),.val (.int .i64 0),.val (.int .i64 0),wL,wL,wL,.val (.int .i64 0),.val (.int .i64 0),.val (.bool false),wL,wL,.val (.int .i64 0),.val (.string ⟨#[]⟩)]
def erX (f:eM):XV:=.tup [(true,zC),(true,[.sym (.int .i64 f.no),.sym (.int .i64 f.line)])]
def erM:XV:=.tup [(true,zC),(true,[.val (.int .i64 6),.val (.int .i64 0)])]
def Xn:aw:=⟨⟨#[]⟩,⟨#[]⟩,[],0⟩
def Wx (e:RV) (y:pF) (x:BX):LE m0L TP []:=.out (x,e,y,())
def m0T (x:BX) (e:RV) (y:pF) (l:List aw) (a i:Int):T (LE m0L TP []):=.br (decide (i<a)) (.nd (0≤i∧i<l.length) (.nd (il (l.getD i.toNat Xn)∧x.ok 999999999997) (.br (!((fX (l.getD i.toNat Xn) x).1.no==0)) (.lf (.ret (erX (fX (l.getD i.toNat Xn) x).1) ())) (.nd (cN (i+1)) (.lf (.back ((fX (l.getD i.toNat Xn) x).2,e,y,l,a,i+1,()))))))) (.lf (Wx e y x))
def m0R (e:RV) (y:pF) (q:eM×BX):T (LE m0L TP []):=.br (!(q.1.no==0)) (.lf (.ret (erX q.1) ())) (.lf (Wx e y q.2))
theorem QW:eD aaL 0 0 m0L TP [] fun((x:BX),(e:RV),(y:pF),(l:List aw),(a:Int),(i:Int),_)=>.nd (0≤i∧i≤l.length∧a=l.length∧l.length≤68719476736∧(∀b∈l,il b)∧x.ok (2*i.toNat)) (m0R e y (bsS (l.drop i.toNat) x)):=by
 refine eG _ (nL _ _) 99 0 0 m0L TP [] (fun((x:BX),(e:RV),(y:pF),(l:List aw),(a:Int),(i:Int),_)=>m0T x e y l a i) (fun(_,_,_,(l:List aw),_,(i:Int),_)=>l.length-i.toNat) ?_;rintro⟨(x:BX),(e:RV),(y:pF),(l:List aw),(a:Int),(i:Int),_⟩ r _ ⟨⟨h0,h1,rfl,h3,h4,h5⟩,hr⟩;obtain⟨k,rfl⟩:∃k:Nat,i=k:=⟨i.toNat,by omega⟩;rw[aaR] at hr h5;rw[G2] at hr;show∃q,(m0T x e y l l.length k).hit q∧_;unfold m0T;by_cases hk:k<l.length
 ·rw[getD_drop Xn hk,fW] at hr;rw[aaR];have hn:(0:Int)≤k∧(k:Int)<l.length:=⟨by omega,by omega⟩;have hb:il (l.getD k Xn):=h4 _ (by rw[aaQ,aac hk];exact abI _);have hx:x.ok 999999999997:=⟨by have:=h5.c;omega,by have:=h5.s;omega,by have:=h5.v;omega,by have:=h5.m;omega,fun k r e=>by have:=h5.r k r e;omega⟩;by_cases e1:(fX (l.getD k Xn) x).1.no=0
  ·rw[if_neg (by simpa using e1)] at hr;refine⟨_,aX (decide_eq_true hn.2) ⟨hn,⟨hb,hx⟩,bg (by rw[e1];rfl) ⟨⟨by omega,by omega⟩,rfl⟩⟩,by show l.length-(k+1)<l.length-k;omega,⟨by omega,by omega,rfl,h3,h4,?_⟩,?_⟩
   ·have:=LY (b:=l.getD k Xn) h5;show BX.ok _ (2*((k:Int)+1).toNat);rw[show 2*((k:Int)+1).toNat=2*k+2 by omega];exact this
   ·show(m0R e y (bsS (l.drop (k+1)) _)).hit r;rw[G2];exact hr
  ·rw[if_pos e1] at hr;obtain rfl:=hr.1 (by rw[beq_false_of_ne e1];rfl);exact⟨_,aX (decide_eq_true hn.2) ⟨hn,⟨hb,hx⟩,aX (by rw[beq_false_of_ne e1];rfl) rfl⟩,rfl⟩
 ·rw[abg (by omega),fW] at hr;obtain rfl:=hr.2 rfl;exact⟨_,bg (decide_eq_false (by omega)) rfl,rfl⟩
def Ww (e:RV) (y:pF) (x:BX):LE m1L TP []:=.out (x,e,y,())
def m1T (x:BX) (e:RV) (y:pF) (l:List ByteArray) (a i:Int):T (LE m1L TP []):=.br (decide (i<a)) (.nd (0≤i∧i<l.length) (.nd (Kt.ok .s (l.getD i.toNat ⟨#[]⟩)) (.br ((((x.names.2 (l.getD i.toNat ⟨#[]⟩)).getD []).reverse.length:Int)==0) (.lf (.ret erM ())) (.nd (cN (i+1)) (.lf (.back (x,e,y,l,a,i+1,()))))))) (.lf (Ww e y x))
def Gd (x:BX) (k:ByteArray):Bool:=decide (x.d.of k=[])
theorem Om (x:BX) (k:ByteArray):((((x.names.2 k).getD []).reverse.length:Int)==0)=Gd x k:=by
 have e:x.d.of k=((x.names.2 k).getD []).reverse:=by
  show((x.names.2 k).map List.reverse).getD []=_;cases x.names.2 k<;>rfl
 unfold Gd;rw[e];cases ((x.names.2 k).getD []).reverse with
 | nil=>rfl
 | cons a l=>simp;omega
theorem QV:eD aaL 1 2 m1L TP [] fun((x:BX),(e:RV),(y:pF),(l:List ByteArray),(a:Int),(i:Int),_)=>.nd (0≤i∧i≤l.length∧a=l.length∧∀s∈l,Kt.ok .s s) (.br ((l.drop i.toNat).any (Gd x)) (.lf (.ret erM ())) (.lf (Ww e y x))):=by
 refine eG _ (nL _ _) 99 1 2 m1L TP [] (fun((x:BX),(e:RV),(y:pF),(l:List ByteArray),(a:Int),(i:Int),_)=>m1T x e y l a i) (fun(_,_,_,(l:List ByteArray),_,(i:Int),_)=>l.length-i.toNat) ?_;rintro⟨(x:BX),(e:RV),(y:pF),(l:List ByteArray),(a:Int),(i:Int),_⟩ r sJ ⟨⟨h0,h1,rfl,h4⟩,hr⟩;have hl:l.length≤9223372036854775807:=sJ.2.2.2.1;obtain⟨k,rfl⟩:∃k:Nat,i=k:=⟨i.toNat,by omega⟩;rw[aaR] at hr;show∃q,(m1T x e y l l.length k).hit q∧_;unfold m1T;by_cases hk:k<l.length
 ·rw[getD_drop (⟨#[]⟩:ByteArray) hk,acb] at hr;rw[aaR,Om];have hn:(0:Int)≤k∧(k:Int)<l.length:=⟨by omega,by omega⟩;have hb:Kt.ok .s (l.getD k ⟨#[]⟩):=h4 _ (by rw[aaQ,aac hk];exact abI _);cases e1:Gd x (l.getD k ⟨#[]⟩)
  ·rw[e1,acp] at hr;exact⟨_,aX (decide_eq_true hn.2) ⟨hn,hb,bg rfl ⟨⟨by omega,by omega⟩,rfl⟩⟩,by show l.length-(k+1)<l.length-k;omega,⟨by omega,by omega,rfl,h4⟩,hr⟩
  ·rw[e1,Bool.true_or] at hr;obtain rfl:=hr.1 rfl;exact⟨_,aX (decide_eq_true hn.2) ⟨hn,hb,aX rfl rfl⟩,rfl⟩
 ·rw[abg (by omega)] at hr;obtain rfl:=hr.2 rfl;exact⟨_,bg (decide_eq_false (by omega)) rfl,rfl⟩
def zS:List AV:=[.sym (.string ⟨#[]⟩),.sym (.int .i64 0),.sym (.int .i64 0),.sym (.int .i64 0),wL,wL,wL,.sym (.int .i64 0),.sym (.int .i64 0),.sym (.bool false),wL,wL,.sym (.int .i64 0),.sym (.string ⟨#[]⟩)]
def Sw (f:eM):XV:=.tup [(true,zS),(true,[.sym (.int .i64 f.no),.sym (.int .i64 f.line)])]
def okX (x:BZ):XV:=.tup [(true,[.sym (.string x.1),.sym (.int .i64 x.2.1),.sym (.int .i64 x.2.2.1),.sym (.int .i64 x.2.2.2.1),.list .str x.2.2.2.2.1 false,.list (.st 3) x.cont.reverse !x.cont.isEmpty,.list (.st 4) x.z.2.1.reverse.reverse !x.z.2.1.reverse.isEmpty,.sym (.int .i64 x.2.2.2.2.2.2.2.1),.sym (.int .i64 x.2.2.2.2.2.2.2.2.1),.sym (.bool x.2.2.2.2.2.2.2.2.2.1),.list .limb x.2.2.2.2.2.2.2.2.2.2.1 false,.list .limb x.2.2.2.2.2.2.2.2.2.2.2.1 false,.sym (.int .i64 x.2.2.2.2.2.2.2.2.2.2.2.2.1),.sym (.string x.2.2.2.2.2.2.2.2.2.2.2.2.2.1)]),(true,[.sym (.int .i64 0),.sym (.int .i64 0)])]
def BX.z0 (t:ByteArray):BX:=(t,(0:Int),(0:Int),(0:Int),[],[],[],(0:Int),(0:Int),false,[],[],(0:Int),⟨#[]⟩,(0,fun _=>none),[],())
noncomputable def cmL (x:BX):T XV:=.nd (wW x) (.br (!((Bq x).1.no==0)) (.lf (Sw (Bq x).1)) (.nd ((Bq x).2.z.1=(Bq x).2.z.2.1.length) (.lf (okX (Bq x).2))))
noncomputable def cmK (x:BX):T XV:=.nd ((0:Int)≤0∧(0:Int)≤fq.length∧(fq.length:Int)=fq.length∧∀s∈fq,Kt.ok .s s) (.br ((fq.drop (Int.toNat 0)).any (Gd x)) (.lf (Sw ⟨6,0⟩)) (cmL x))
noncomputable def cmB (q:eM×BX):T XV:=.br (!(q.1.no==0)) (.lf (Sw q.1)) (cmK q.2)
noncomputable def cmT (s:cO):T XV:=.nd (dP s.title) (.br (!dK s.title 0 60) (.lf (Sw ⟨8,0⟩)) (.nd (∀_:ByteArray,(none:Option (List ByteArray))=none) (.nd ((0:Int)≤0∧(0:Int)≤s.blocks.length∧(s.blocks.length:Int)=s.blocks.length∧s.blocks.length≤68719476736∧(∀b∈s.blocks,il b)∧(BX.z0 s.title).ok (2*Int.toNat 0)) (cmB (bsS (s.blocks.drop (Int.toNat 0)) (BX.z0 s.title))))))
theorem LP:av Tryz.prog 41 true (aU [(0,.st 2)] fun((s:cO),_)=>cmT s):=
 vg (R:=aaL) (((nL _ _).add 0 _ QW).add 1 _ QV) true 99 [(0,.st 2)] (fun((s:cO),_)=>cmT s) (fun x r _ h=>⟨h,.inl rfl⟩) Tryz.func41
def Ae (x:aa×eM):XV:=.tup [(true,lJ (.st 5) x.1),(true,[.sym (.int .i64 x.2.no),.sym (.int .i64 x.2.line)])]
def VX.lOk (x:VX):Prop:=∀t l,x.L.2 t=some l→l.length≤274877906944
theorem VX.lOk_eq {x y:VX} (h:x.lOk) (e:y.2.1=x.2.1):y.lOk:=fun t l hl=>h t l (by have:y.L=x.L:=e;rw[this] at hl;exact hl)
theorem Tm {k:ByteArray} {f:ao} {x:VX} (h:x.lOk) (hf:f.vals.length≤274877906944):(fA k f x).2.lOk:=by
 have hl:(x.setL f.key f.line).lOk:=VX.lOk_eq h rfl;unfold fA;split
 ·exact h
 split
 ·exact h
 split
 ·intro t l hl;have hl:setF x.L.2 f.key f.vals t=some l:=(congrFun (KH x.L.2 f.key f.vals) t).symm.trans hl;unfold setF at hl;split at hl
  ·obtain rfl:=aaZ hl;exact hf
  ·exact h t l hl
 split
 ·exact hl
 ·exact VX.lOk_eq hl (Od _ _ _).2.1
theorem Dg {kind:ByteArray}:∀{l:List ao} {v:VX},v.lOk→(∀f∈l,f.vals.length≤274877906944)→(gX kind l v).2.lOk
 | [],_,h,_=>h
 | f::l,v,h,hf=>by
  have h1:=Tm (k:=kind) h (hf f abh);unfold gX;split
  ·exact h1
  ·exact Dg h1 fun g hg=>hf g (abr _ hg)
theorem VX.s_len {x:VX} (h:x.lOk) (k:ByteArray):(x.v.s k).length≤274877906944:=by
 show((x.L.2 k).getD []).length≤_;cases e:x.L.2 k with
 | none=>exact abK _
 | some l=>exact h k l e
def BX.li (x:BX):Prop:=x.prec.length≤274877906944∧x.styn.length=x.vals.length∧∀v∈x.vals,vOk v
theorem J9 {k nm:ByteArray} {v:VX} {x:BX} (h:x.li) (hv:v.lOk):(kx k nm v.v x).li:=by
 obtain⟨h1,h2,h3⟩:=h;unfold kx;split
 ·exact⟨h1,h2,h3⟩
 split
 ·exact⟨h1,h2,h3⟩
 split
 ·exact⟨v.s_len hv bY,h2,h3⟩
 split
 ·exact⟨h1,h2,h3⟩
 split
 ·refine⟨h1,congrArg (·+1) h2,fun u hu=>?_⟩;rcases abq.1 (show u∈v.v::x.vals from hu) with rfl|hu
  ·exact⟨abk (v.s_len hv _) (by decide),abk (v.s_len hv _) (by decide)⟩
  ·exact h3 u hu
 split
 ·exact⟨h1,h2,h3⟩
 split
 ·exact⟨h1,h2,h3⟩
 ·exact⟨h1,h2,h3⟩
theorem LZ {b:aw} {x:BX} (h:x.li) (hb:il b):(fX b x).2.li:=by
 have hn:(x.nam b.kind b.name).li:=h;unfold fX;split
 ·exact h
 split
 ·exact hn
 split
 ·exact hn
 ·exact J9 hn (Dg (fun t l e=>by cases e) fun f hf=>(hb.2.2.2 f hf).2)
theorem xV:∀{l:List aw} {x:BX},x.li→(∀b∈l,il b)→(fW l x).2.li
 | [],_,h,_=>h
 | b::l,x,h,hb=>by
  have h1:=LZ h (hb b abh);unfold fW;split
  ·exact h1
  ·exact xV h1 fun c hc=>hb c (abr _ hc)
theorem DC {prec:List ByteArray} {cont:List ai}:∀{vs:List aC} {d:List ax} {r:List ByteArray} {u:List Bool},(qu prec cont vs d r u).2.no=0→(qu prec cont vs d r u).1.1.length=d.length+vs.length
 | [],_,_,_,_=>rfl
 | v::vs,d,r,u,h=>by
  unfold qu at h ⊢;by_cases e1:(rD prec (v.l af) (v.s af) u []).2.no=0
  ·rw[if_pos e1] at h ⊢;by_cases e2:(Bu cont (v.l ay) (v.s ay) []).2.no=0
   ·rw[if_pos e2] at h ⊢;rw[DC h,abm,abp,abp,abJ];omega
   ·rw[if_neg e2] at h;exact absurd h e2
  ·rw[if_neg e1] at h;exact absurd h e1
theorem BS {w:World} {S:Nat→Prop} {v:Value} (f:eM) (h:XR [] w S (Sw f) v):XR [] w S (Ae (aa.zero,f)) v:=by
 have hn:∀{t:Ty} {u:Value},VR [] w S wL u→VR [] w S (.list t [] false) u:=fun h=>⟨none,0,0,h.1,RS.nil _ _,fun e=>by cases e⟩;obtain⟨vs,e,h⟩:=h;refine⟨vs,e,?_⟩;cases h with
 | cons h1 h2=>
  refine .cons ?_ h2;obtain⟨us,e,h⟩:=h1;refine⟨us,e,?_⟩
  match us,h with
  | _,.cons a1 (.cons a2 (.cons a3 (.cons a4 (.cons a5 (.cons a6 (.cons a7 (.cons a8 (.cons a9 (.cons a10 (.cons a11 (.cons a12 (.cons a13 (.cons a14 .nil)))))))))))))=>
   exact .cons a1 (.cons a2 (.cons a3 (.cons a4 (.cons (hn a5) (.cons (hn a6) (.cons (hn a7) (.cons a8 (.cons a9 (.cons a10 (.cons (hn a11) (.cons (hn a12) (.cons a13 (.cons a14 .nil)))))))))))))
theorem YB (x:BX):Ht (okX (gv x).2)=Ae ({ x.d.e with styl:=(gv x).2.z.2.1 },⟨0,0⟩):=
 congrArg (fun l=>Ae ({ x.d.e with styl:=l },⟨0,0⟩)) (aa7 (gv x).2.z.2.1)
theorem LR:av Tryz.prog 41 true (aU [(0,.st 2)] fun((s:cO),_)=>.nd (E2 s) (.lf (Ae (dD s)))):=by
 refine LP.imp ?_;rintro⟨(s:cO),_⟩ r ⟨⟨h1,h2,h3⟩,hr⟩;obtain rfl:Ae (dD s)=r:=hr;have hz:(BX.z0 s.title).li:=⟨abK _,rfl,fun v hv=>by cases hv⟩;have sJ:dV s.blocks (cL.start s.title)=((fW s.blocks (BX.z0 s.title)).1,(fW s.blocks (BX.z0 s.title)).2.d):=AA s.blocks (BX.z0 s.title);have UK:=xV hz h3;have pre:∀{q},(cmB (fW s.blocks (BX.z0 s.title))).hit q→dK s.title 0 60=true→(cmT s).hit q:=fun hq hp=>⟨h1,bg (by rw[hp];rfl) ⟨fun _=>rfl,⟨by omega,by omega,rfl,h2,h3,⟨abK _,abK _,abK _,abK _,fun k r e=>by cases e⟩⟩,by rw[G2];exact hq⟩⟩;unfold dD;rw[sJ];cases hp:dK s.title 0 60 with
 | false=>rw[if_pos rfl];exact⟨Sw ⟨8,0⟩,⟨h1,aX (by rw[hp];rfl) rfl⟩,fun w S v h=>BS _ h⟩
 | true=>
  rw[if_neg (by decide)];obtain⟨⟨f,x⟩,hq⟩:∃q,fW s.blocks (BX.z0 s.title)=q:=⟨_,rfl⟩;rw[hq] at UK pre ⊢;have UK:x.li:=UK;by_cases e1:f.no=0
  ·rw[if_neg (by simpa using e1)];have adj:∀{q},(cmK x).hit q→(cmT s).hit q:=fun h=>pre (bg (by show(!(f.no==0))=false;rw[e1];rfl) h) hp;have kk:∀s∈fq,Kt.ok .s s:=fun s hs=>qL ((by decide:∀s∈fq,s.size≤1000) s hs);cases e2:fq.any (Gd x) with
   | true=>
    rw[if_pos (by exact e2)];exact⟨Sw ⟨6,0⟩,adj ⟨⟨by decide,by decide,rfl,kk⟩,aX e2 rfl⟩,fun w S v h=>BS _ h⟩
   | false=>
    rw[if_neg (by intro h;have h:fq.any (Gd x)=true:=h;rw[e2] at h;cases h)];have lp:wW x:=⟨abk UK.1 (by decide),UK.2.1,UK.2.2⟩;have hlk:pP x.d=_:=Ue x lp;have wA:∀{q},(T.br (!((gv x).1.no==0)) (.lf (Sw (gv x).1)) (.nd ((gv x).2.z.1=(gv x).2.z.2.1.length) (.lf (okX (gv x).2)))).hit q→(cmT s).hit q:=fun h=>adj ⟨⟨by decide,by decide,rfl,kk⟩,bg e2 ⟨lp,by rw[TW];exact h⟩⟩;show∃q,_∧∀(w:World) (S:Nat→Prop) (v:Value),_→XR [] w S (Ae (match pP x.d with|.error e=>(aa.zero,e)|.ok l=>({ x.d.e with styl:=l },⟨0,0⟩))) v;rw[hlk];by_cases e3:(gv x).1.no=0
    ·rw[if_pos e3];have hg:x.go.2.no=0:=by
      unfold gv at e3;by_cases e:x.go.2.no=0
      ·exact e
      ·rw[if_neg e] at e3;exact e3
     refine⟨okX (gv x).2,wA (bg (by rw[e3];rfl) ⟨?_,rfl⟩),fun w S v h=>by rw[←YB];exact sP h⟩;have:=DC hg;show x.styn.length=x.go.1.1.length;rw[show x.go.1.1.length=_ from this];show _=0+(x.vals.reverse).length;rw[aa9,abQ];exact UK.2.1
    ·rw[if_neg e3];exact⟨Sw (gv x).1,wA (aX (by rw[beq_false_of_ne e3];rfl) rfl),fun w S v h=>BS _ h⟩
  ·rw[if_pos e1];exact⟨Sw f,pre (aX (by show(!(f.no==0))=true;rw[beq_false_of_ne e1];rfl) rfl) hp,fun w S v h=>BS _ h⟩
structure bC (e:aa):Prop where
 title:dP e.title
 seed:dP e.seed
 prec:∀s∈e.prec,dP s
 cont:∀x∈e.cont,dP x.name∧∀s∈x.cands,dP s
 styl:∀x∈e.styl,dP x.name
 len:e.cont.length+e.styl.length≤34359738368
theorem bp {s:ByteArray} (h:s.size≤1000):dP s:=abk h (by omega)
theorem Gk {n:Int} (h:Fq n):dP (rJ n):=by
 refine bp ?_;show(Lib.itoa n).toArray.size≤1000;rw[abM];unfold Lib.itoa;obtain⟨h1,h2⟩:=h;split
 ·have:=Lib.nDigits_le20 n.natAbs (by omega);rw[abp,Lib.decDigits_length];omega
 ·have:=Lib.nDigits_le20 n.toNat (by omega);rw[Lib.decDigits_length];omega
theorem xP (k:ByteArray):∀s∈bc k,s.size≤100:=by
 unfold bc
 repeat' split
 all_goals decide
theorem Cd (k:ByteArray) (n:Int):dP (jG k n):=by
 refine bp ?_;unfold jG;split
 ·decide
 ·rw[aaQ];cases h:(bc k)[n.toNat-1]? with
  | none=>decide
  | some s=>exact abk (xP k s (ab9 h)) (by omega)
theorem Dt {fr:List ByteArray} (h:∀s∈fr,dP s) (i:Int):dP (nameAt fr i):=by
 unfold nameAt;split
 ·rw[aaQ];cases hh:fr[i.toNat]? with
  | none=>exact bp (by decide)
  | some s=>exact h s (ab9 hh)
 ·exact bp (by decide)
theorem tZ {fr:List ByteArray} (h:∀s∈fr,dP s) (idx:List Int):∀s∈dL idx fr,dP s:=by
 intro s hs;obtain⟨i,_,rfl⟩:=acr.1 hs;exact Dt h i
theorem vV {r:Raw} (h:r.short 67108864):dP ⟨(iE r.q).toArray⟩:=by
 obtain⟨h1,h2⟩:=mR h (by omega);have l1:=lx h1;have l2:=lx h2;show(iE r.q).toArray.size≤17592186044416;rw[abM];unfold iE;rw[abm,abm];have l3:(if r.q.neg then[45] else([]:List UInt8)).length≤1:=by split<;>simp
 have l4:(if bI r.q.d=[49] then[] else 47::bI r.q.d).length≤1+(bI r.q.d).length:=by split<;>simp;omega
 omega
def yd (f:ao):Prop:=JY f∧f.vals.length≤274877906944
theorem oh {k s:ByteArray} (hk:k.size≤1000) (hs:dP s):yd ⟨k,[s],0⟩:=⟨⟨bp hk,by simpa using hs,by simp⟩,by simp⟩
theorem oZ {k:ByteArray} {l:List ByteArray} (hk:k.size≤1000) (hl:∀s∈l,dP s) (hn:l.length≤274877906944):yd ⟨k,l,0⟩:=⟨⟨bp hk,hl,abk hn (by omega)⟩,hn⟩
theorem ke {k:ByteArray} {n:Int} (hk:k.size≤1000) (h:Fq n):yd (gF k n):=oh hk (Gk h)
theorem vt {k:ByteArray} {n:Int} (hk:k.size≤1000):yd (jY k n):=oh hk (Cd k n)
theorem fG {x:aw} (hk:x.kind.size≤1000) (hn:dP x.name) (hl:x.fields.length≤1000) (hf:∀f∈x.fields,yd f):il x:=⟨bp hk,hn,abk hl (by omega),hf⟩
theorem B8 {x:ai} (h:oS x) (hn:dP x.name) (hc:∀s∈x.cands,dP s):il (fl x):=by
 obtain⟨h1,h2,h3,h4,h5,h6,h7,h8⟩:=h;refine fG (abA rfl) hn ?_ ?_
 ·show([jY aN x.method,gF bf x.seats,gF bS x.ranks]++(if x.method=2 then[gF az x.digits] else[])++[jY db x.ties,jY aV x.over,jY dc x.skip,(⟨cF,x.cands,0⟩:ao)]).length≤1000;split<;>simp
 ·intro f hf;have hf':f∈[jY aN x.method,gF bf x.seats,gF bS x.ranks]++(if x.method=2 then[gF az x.digits] else[])++[jY db x.ties,jY aV x.over,jY dc x.skip,(⟨cF,x.cands,0⟩:ao)]:=hf;rcases abR.1 hf' with hf'|hf'
  ·rcases abR.1 hf' with hf'|hf'
   ·simp only[abq,abz,or_false] at hf';rcases hf' with rfl|rfl|rfl
    ·exact vt (by decide)
    ·exact ke (by decide) h2
    ·exact ke (by decide) h3
   ·split at hf'
    ·simp only[abq,abz,or_false] at hf';subst hf';exact ke (by decide) h4
    ·cases hf'
  ·simp only[abq,abz,or_false] at hf';rcases hf' with rfl|rfl|rfl|rfl
   ·exact vt (by decide)
   ·exact vt (by decide)
   ·exact vt (by decide)
   ·exact oZ (by decide) hc h8
theorem vW {prec conts:List ByteArray} {x:ax} (hx:x.prec.length≤274877906944∧x.cont.length≤274877906944) (hn:dP x.name) (hp:∀s∈prec,dP s) (hc:∀s∈conts,dP s):il (fy prec conts x):=by
 refine fG (abA rfl) hn (by simp[fy]) ?_;intro f hf;have hf':f∈[(⟨af,dL x.prec prec,0⟩:ao),⟨ay,dL x.cont conts,0⟩]:=hf;simp only[abq,abz,or_false] at hf';rcases hf' with rfl|rfl
 ·exact oZ (by decide) (tZ hp _) (by unfold dL;rw[abU];exact hx.1)
 ·exact oZ (by decide) (tZ hc _) (by unfold dL;rw[abU];exact hx.2)
theorem Nl {e:aa} (h:cH e) (hs:bC e):E2 (eW e):=by
 refine⟨hs.title,?_,fun x hx=>?_⟩
 ·have:=hs.len;simp only[eW,abm,abU,abp,abJ];omega
 ·have hx':x∈([(⟨aP,⟨#[]⟩,[gF dh e.dots,gF bq e.blank,gF bb e.marked],0⟩:aw),⟨au,⟨#[]⟩,[gF bZ e.scan,gF cf e.batch],0⟩,⟨af,⟨#[]⟩,[⟨bY,e.prec,0⟩],0⟩]
   ++e.cont.map fl++e.styl.map (fy e.prec (e.cont.map (·.name)))
   ++[⟨aO,⟨#[]⟩,[⟨bL,[⟨(iE e.risk.q).toArray⟩],0⟩,⟨cM,[e.seed],0⟩],0⟩,⟨aY,⟨#[]⟩,[gF dH e.cell],0⟩]):=hx
  rcases abR.1 hx' with hx'|hx'
  ·rcases abR.1 hx' with hx'|hx'
   ·rcases abR.1 hx' with hx'|hx'
    ·simp only[abq,abz,or_false] at hx';rcases hx' with rfl|rfl|rfl
     ·refine fG (abA rfl) (bp (abA rfl)) (by simp) fun f hf=>?_;simp only[abq,abz,or_false] at hf;rcases hf with rfl|rfl|rfl
      ·exact ke (by decide) h.dots
      ·exact ke (by decide) h.blank
      ·exact ke (by decide) h.marked
     ·refine fG (abA rfl) (bp (abA rfl)) (by simp) fun f hf=>?_;simp only[abq,abz,or_false] at hf;rcases hf with rfl|rfl
      ·exact ke (by decide) h.scan
      ·exact ke (by decide) h.batch
     ·refine fG (abA rfl) (bp (abA rfl)) (by simp) fun f hf=>?_;simp only[abq,abz,or_false] at hf;subst hf;exact oZ (by decide) hs.prec h.lp
    ·obtain⟨c,hc,rfl⟩:=acr.1 hx';exact B8 (h.conts c hc) (hs.cont c hc).1 (hs.cont c hc).2
   ·obtain⟨c,hc,rfl⟩:=acr.1 hx';refine vW (h.styls c hc) (hs.styl c hc) hs.prec fun s Zo=>?_;obtain⟨d,hd,rfl⟩:=acr.1 Zo;exact(hs.cont d hd).1
  ·simp only[abq,abz,or_false] at hx';rcases hx' with rfl|rfl
   ·refine fG (abA rfl) (bp (abA rfl)) (by simp) fun f hf=>?_;simp only[abq,abz,or_false] at hf;rcases hf with rfl|rfl
    ·exact oh (by decide) (vV h.short)
    ·exact oh (by decide) hs.seed
   ·refine fG (abA rfl) (bp (abA rfl)) (by simp) fun f hf=>?_;simp only[abq,abz,or_false] at hf;subst hf;exact ke (by decide) h.cell
def oP (v:aC):Prop:=v.risk.short 2
theorem Da (l:List UInt8) (r:Raw) (h:(iW l).2=some r):r.short 2:=by
 unfold iW at h;split at h
 ·cases h
 split at h
 ·cases h
 ·injection h with h
  subst h;have h1:=iy (ed l);have h2:=iy (dO l);exact zk _ _ _ (by omega) (by omega)
theorem KP {key s:ByteArray} {v:aC} (h:oP v):oP (yz key s v).2:=by
 unfold yz;split
 ·exact h
 split
 ·show oP (v.withRisk _);unfold aC.withRisk;split
  ·exact h
  ·rename_i r hr;exact Da _ r hr
 split
 ·split
  ·exact h
  ·exact h
 split
 ·exact h
 split
 ·exact h
 ·exact h
theorem wy {kind:ByteArray} {f:ao} {v:aC} (h:oP v):oP (aZ kind f v).2:=by
 unfold aZ;split
 ·exact h
 split
 ·exact h
 split
 ·exact h
 split
 ·exact h
 ·exact KP h
theorem tY {kind:ByteArray}:∀{fs:List ao} {v:aC},oP v→oP (fo kind fs v).2
 | [],v,h=>h
 | f::l,v,h=>by
  unfold fo;split
  ·exact wy h
  ·exact tY (wy h)
theorem uy {x:aw} {b:cL} (h:b.e.risk.short 2):(iB x b).2.e.risk.short 2:=by
 have hz:oP aC.zero:=⟨abK _,abK _⟩;unfold iB;split
 ·exact h
 split
 ·exact h
 split
 ·exact h
 ·show(bG x.kind x.name (fo x.kind x.fields aC.zero).2 (b.named x.kind x.name)).e.risk.short 2;have hr:(fo x.kind x.fields aC.zero).2.risk.short 2:=tY hz;unfold bG
  repeat' split
  all_goals first|exact h|exact hr
theorem sn:∀{l:List aw} {b:cL},b.e.risk.short 2→(dV l b).2.e.risk.short 2
 | [],b,h=>h
 | x::l,b,h=>by
  unfold dV;split
  ·exact uy h
  ·exact sn (uy h)
theorem xO (s:cO):(dD s).1.risk.short 67108864:=by
 have hz:aa.zero.risk.short 67108864:=⟨abK _,abK _⟩;unfold dD;split
 ·exact hz
 split
 ·exact hz
 split
 ·exact hz
 split
 ·exact hz
 ·have:(dV s.blocks (cL.start s.title)).2.e.risk.short 2:=sn ⟨abK _,abK _⟩;exact⟨abk this.1 (by omega),abk this.2 (by omega)⟩
theorem FX:av Tryz.prog 43 false (aU [(0,.st 8)] fun((x:Raw),_)=>.nd (x.short 536870912) (.lf (aB x.valid))):=
 gD fun w S x vs r hS he hl hr=>by
  obtain⟨(x:Raw),_⟩:=x;obtain⟨v,h1,h2⟩:=he 0 (.agg (lJ (.st 8) x)) abh;obtain⟨a1,rfl⟩:=hr
  match vs,hl,h1 with
  | [u],_,h1=>
   injection h1 with h1
   subst h1;exact Calls.mono (J5 (Hb h2) hS a1) fun e w' h=>⟨_,fun _=>False,h.1,h.2,fun _ q=>q.elim,rfl,rfl⟩
noncomputable def Cs5:hZ Tryz.prog:=dj CI [⟨_,_,_,CN⟩,⟨_,_,_,LR⟩,⟨_,_,_,FX⟩,⟨_,_,_,Lw⟩] []
def vpT (e:aa) (q:aa×eM):T XV:=.nd (cH e) (.nd (E2 (eW e)) (L9 (.lf (aB false)) [q.2.no==0] (.nd (e.risk.short 536870912) (L9 (.lf (aB false)) [e.risk.valid] (.nd (q.1.risk.short 67108864∧e.risk.short 67108864) (.lf (aB (lK q.1 e))))))))
theorem FC:av Tryz.prog 28 false (aU [(0,.st 5)] fun((e:aa),_)=>.nd (cH e∧bC e) (.lf (aB (iV e)))):=
 bz (C:=Cs5) (nL _ _) false 99 [(0,.st 5)] (fun((e:aa),_)=>vpT e (dD (eW e)))
  (fun⟨(e:aa),_⟩ r _ ⟨⟨h1,h2⟩,h⟩=>by
   obtain rfl:aB (iV e)=r:=h;refine⟨?_,.inr rfl⟩;have e0:iV e=([(dD (eW e)).2.no==0].all id&&([e.risk.valid].all id&&lK (dD (eW e)).1 e)):=by
    unfold iV;rw[ab0,aci,acq,ab0,aci,acq];rfl
   rw[e0];refine⟨h1,Nl h1 h2,su (ret:=.lf (aB false)) (r:=aB) rfl _ fun _=>⟨⟨abk h1.short.1 (by decide),abk h1.short.2 (by decide)⟩,?_⟩⟩;exact su (ret:=.lf (aB false)) (t:=.nd ((dD (eW e)).1.risk.short 67108864∧e.risk.short 67108864) (.lf (aB (lK (dD (eW e)).1 e)))) (r:=aB) rfl _ fun _=>⟨⟨xO _,h1.short⟩,rfl⟩) Tryz.func28
def dX (n:Int):Bool:=decide (0≤n)&&decide (n≤400)
def gW:Nat→List ae→Bool
 | _,[]=>true
 | i,a::l=>decide (a.prec=(i:Int))&&(dX a.issued&&(dX a.spoilt&&(dX a.cast&&gW (i+1) l)))
def eu (l:List ae):Int:=(l.map (·.cast)).sum
def eI (e:aa) (Mf:List ae):Bool:=iV e&&(decide (Mf.length=e.prec.length)&&(gW 0 Mf&&dX (eu Mf)))
theorem gP {n:Int}:dX n=true↔0≤n∧n≤400:=by unfold dX;simp
def kE:Nat→Int→List ae→Bool
 | _,_,[]=>true
 | i,s,a::l=>[a.issued,a.spoilt,a.cast].all dX&&(decide (a.prec=(i:Int))&&(decide (a.cast≤s)&&kE (i+1) (s-a.cast) l))
def kW (e:aa) (Mf:List ae):Bool:=decide (Mf.length=e.prec.length)&&kE 0 400 Mf
theorem jh:∀{i:Nat} {l:List ae},gW i l=true→0≤eu l
 | _,[],_=>by simp[eu]
 | i,a::l,h=>by
  simp only[gW,aba,gP] at h;have:=jh h.2.2.2.2;unfold eu at this ⊢;simp only[abY,List.sum_cons];omega
theorem zA:∀(i:Nat) (s:Int) (l:List ae),kE i s l=(gW i l&&decide (eu l≤s))∨s<0
 | _,s,[]=>by
  by_cases h:0≤s
  ·exact .inl (by simp[kE,gW,eu,h])
  ·exact .inr (by omega)
 | i,s,a::l=>by
  by_cases h:0≤s
  ·refine .inl ?_;rw[acs];have Zn:eu (a::l)=a.cast+eu l:=by simp[eu]
   rw[Zn];rcases zA (i+1) (s-a.cast) l with ih|ih
   ·simp only[kE,gW,ih,ab0,aci,acq,aba,decide_eq_true_eq,gP];constructor
    ·rintro⟨⟨h1,h2,h3⟩,h4,h5,h6,h7⟩;exact⟨⟨h4,h1,h2,h3,h6⟩,by omega⟩
    ·rintro⟨⟨h4,h1,h2,h3,h6⟩,h7⟩;have:=jh h6;exact⟨⟨h1,h2,h3⟩,h4,by omega,h6,by omega⟩
   ·simp only[kE,gW,ab0,aci,acq,aba,decide_eq_true_eq,gP];constructor
    ·rintro⟨_,_,h5,_⟩;omega
    ·rintro⟨⟨_,_,_,h3,h6⟩,h7⟩;have:=jh h6;omega
  ·exact .inr (by omega)
theorem oW (e:aa) (Mf:List ae):eI e Mf=(iV e&&kW e Mf):=by
 unfold eI kW;rcases zA 0 400 Mf with h|h
 ·rw[h];cases hv:gW 0 Mf
  ·simp
  ·have h0:=jh hv;have:dX (eu Mf)=decide (eu Mf≤400):=by
    unfold dX;rw[decide_eq_true h0,abO]
   rw[this]
 ·omega
abbrev nP:SS:=sD (.list (.st 11))
theorem NY:av Tryz.prog 29 false (aU [(0,sI)] fun((n:Int),_)=>.lf (aB (dX n))):=
 bz (C:=C0) (nL _ _) false 99 [(0,sI)] (fun((n:Int),_)=>.br (decide (n≥0)) (.lf (aB (decide (n≤400)))) (.lf (aB false)))
  (fun⟨(n:Int),_⟩ r _ h=>by
   obtain rfl:aB (dX n)=r:=h;refine⟨?_,.inr rfl⟩;unfold dX;by_cases h0:0≤n
   ·rw[decide_eq_true h0,abO];exact aX (decide_eq_true h0) rfl
   ·rw[decide_eq_false h0,abS];exact bg (decide_eq_false h0) rfl) Tryz.func29
noncomputable def Cc1:hZ Tryz.prog:=dj CI [⟨_,_,_,NY⟩,⟨_,_,_,FC⟩] []
noncomputable abbrev afI:=Tryz.f11
noncomputable abbrev al3:Rg Tryz.prog afI.ntmps:=sG Cc1 afI
abbrev avL:List (Nat×SS):=[(5,sI),(19,nP),(20,sI),(21,sI)]
abbrev AvE:=LE avL [(5,sI)] []
def JJ:AvE:=.ret (.one (.val (.bool false))) ()
def ae.z0:ae:=⟨0,0,0,0⟩
def avE (s:Int) (l:List ae) (n i:Int) (a:ae):T AvE:=EI (.lf JJ) [a.prec==i,dX a.issued,dX a.spoilt,dX a.cast] (.nd (cN (s+a.cast)) (.nd (cN (i+1)) (.lf (.back (s+a.cast,l,n,i+1,())))))
def avT (s:Int) (l:List ae) (n i:Int):T AvE:=.br (decide (i<n)) (.nd (0≤i∧i<l.length) (avE s l n i (l.getD i.toNat ae.z0))) (.lf (.out (s,())))
def avG (s:Int) (l:List ae) (i:Nat):T AvE:=.br (gW i (l.drop i)) (.lf (.out (s+eu (l.drop i),()))) (.lf JJ)
def avN (s:Int) (l:List ae) (n i:Int):Prop:=0≤i∧i≤l.length∧n=l.length∧l.length≤1099511627776∧0≤s∧s≤400*i
theorem VW:eD al3 0 0 avL [(5,sI)] [] fun((s:Int),(l:List ae),(n:Int),(i:Int),_)=>.nd (avN s l n i) (avG s l i.toNat):=by
 refine eG _ (nL _ _) 99 0 0 avL [(5,sI)] [] (fun((s:Int),(l:List ae),(n:Int),(i:Int),_)=>avT s l n i) (fun(_,(l:List ae),_,(i:Int),_)=>l.length-i.toNat) ?_;rintro⟨(s:Int),(l:List ae),(n:Int),(i:Int),_⟩ r _ ⟨⟨h0,h1,rfl,h2,h3,h4⟩,hr⟩;obtain⟨k,rfl⟩:∃k:Nat,i=k:=⟨i.toNat,by omega⟩;have hr:(avG s l k).hit r:=hr;show∃q,(avT s l l.length k).hit q∧_;unfold avT;rw[aaR];unfold avG at hr;by_cases hk:k<l.length
 ·rw[getD_drop ae.z0 hk] at hr;obtain⟨a,ha⟩:∃a,l.getD k ae.z0=a:=⟨_,rfl⟩;rw[ha] at hr ⊢;have dM:[a.prec==(k:Int),dX a.issued,dX a.spoilt,dX a.cast].all id=(decide (a.prec=(k:Int))&&(dX a.issued&&(dX a.spoilt&&dX a.cast))):=by
   simp only[ab0,aci,id,acq];rfl
  have akP:gW k (a::l.drop (k+1))=((decide (a.prec=(k:Int))&&(dX a.issued&&(dX a.spoilt&&dX a.cast)))&&gW (k+1) (l.drop (k+1))):=by
   simp only[gW,Bool.and_assoc]
  have Zn:eu (a::l.drop (k+1))=a.cast+eu (l.drop (k+1)):=by simp[eu]
  rw[akP,Zn] at hr;cases hc:(decide (a.prec=(k:Int))&&(dX a.issued&&(dX a.spoilt&&dX a.cast))) with
  | false=>
   rw[hc,abS] at hr;have hr:=hr.2 rfl;exact⟨JJ,aX (decide_eq_true (by omega)) ⟨⟨by omega,by omega⟩,Aw (ret:=.lf JJ) rfl _ (dM.trans hc)⟩,hr⟩
  | true=>
   rw[hc,abO] at hr;have hp:0≤a.cast∧a.cast≤400:=by
    simp only[aba,gP] at hc;exact hc.2.2.2
   refine⟨.back (s+a.cast,l,(l.length:Int),(k:Int)+1,()),aX (decide_eq_true (by omega)) ⟨⟨by omega,by omega⟩,?_⟩,?_,⟨by omega,by omega,rfl,h2,by omega,by omega⟩,?_⟩
   ·exact Ar (α:=AvE) (t:=.nd (cN (s+a.cast)) (.nd (cN ((k:Int)+1)) (.lf (.back (s+a.cast,l,(l.length:Int),(k:Int)+1,()))))) ⟨⟨by omega,by omega⟩,⟨by omega,by omega⟩,rfl⟩ _ (dM.trans hc)
   ·show l.length-(k+1)<l.length-k;omega
   ·show(avG (s+a.cast) l (k+1)).hit r;unfold avG;rw[Int.add_assoc];exact hr
 ·rw[abg (by omega)] at hr;have hr:=hr.1 rfl;refine⟨.out (s,()),bg (decide_eq_false (by omega)) rfl,?_⟩;rw[show s+eu []=s by simp[eu]] at hr;exact hr
def avB (e:aa) (l:List ae):T XV:=.nd (cH e∧bC e) (EI (.lf (aB false)) [iV e,(l.length:Int)==(e.prec.length:Int)] (.nd (avN 0 l l.length 0) (.br (gW (Int.toNat 0) (l.drop (Int.toNat 0))) (.lf (aB (dX (0+eu (l.drop (Int.toNat 0)))))) (.lf (aB false)))))
theorem ya:av Tryz.prog 11 false (aU [(0,.st 5),(1,nP)] fun((e:aa),(l:List ae),_)=>.nd (cH e∧bC e) (.lf (aB (eI e l)))):=
 bz (C:=Cc1) ((nL _ _).add 0 _ VW) false 99 [(0,.st 5),(1,nP)] (fun((e:aa),(l:List ae),_)=>avB e l)
  (fun⟨(e:aa),(l:List ae),_⟩ r _ ⟨h0,h⟩=>by
   obtain rfl:aB (eI e l)=r:=h;refine⟨⟨h0,?_⟩,.inr rfl⟩;have hv:eI e l=([iV e,(l.length:Int)==(e.prec.length:Int)].all id&&(gW 0 l&&dX (eu l))):=by
    rw[acs];simp only[eI,ab0,aci,id,aba,decide_eq_true_eq,beq_iff_eq,aes,and_assoc,true_and]
   rw[hv];cases dM:[iV e,(l.length:Int)==(e.prec.length:Int)].all id with
   | false=>exact Aw (ret:=.lf (aB false)) rfl _ dM
   | true=>
    have hl:l.length=e.prec.length:=by
     simp only[ab0,aci,id,aba,beq_iff_eq,aes] at dM;exact dM.2.1
    have hp:=h0.1.lp;refine Ar (r:=aB _) ?_ _ dM;refine⟨⟨by omega,by omega,rfl,by omega,by omega,by omega⟩,?_⟩;show(T.br (gW 0 (l.drop 0)) (.lf (aB (dX (0+eu (l.drop 0))))) (.lf (aB false))).hit _;rw[ab2,Int.zero_add,abO];cases gW 0 l with
    | true=>exact aX rfl rfl
    | false=>exact bg rfl rfl) Tryz.func11
def lM:List bV→List Int→Option (List Int)
 | [],cs=>some cs
 | r::l,cs=>if r.prec<0∨(cs.length:Int)≤r.prec then none else lM l (cs.set r.prec.toNat (cs.getD r.prec.toNat 0+1))
noncomputable abbrev ade:=Tryz.f14
noncomputable def Wh (t:TypeId):Option Ty:=List.lookup t [(3,tI),(45,.st 12)]
noncomputable def Crc:hZ Tryz.prog:=dj Wh [⟨_,_,_,ya⟩] []
noncomputable abbrev adf:Rg Tryz.prog ade.ntmps:=sG Crc ade
abbrev rcL:List (Nat×SS):=[(1,nP),(8,.c (.own tI 3)),(21,sD (.list (.st 13))),(22,sI),(23,sI)]
abbrev rcO:List (Nat×SS):=[(1,nP),(8,.c (.own tI 3))]
abbrev RcE:=LE rcL rcO []
def Iv:RcE:=.ret (.tup [(false,[.val (.slice none 0 0)]),(false,[.val (.int .i64 4)])]) ()
def Iw (l:List ae) (cs:List Int):RcE:=.out (l,cs,())
def bV.z:bV:=⟨0,.bool false,false⟩
def rcB (l:List ae) (cs:List Int) (rs:List bV) (n i p:Int):T RcE:=.br (decide (p<0)) (.lf Iv) (.br (decide (p≥l.length)) (.lf Iv) (.nd (0≤p∧p<cs.length) (.nd (cN (cs.reverse.getD p.toNat 0+1)) (.nd (0≤p∧p<cs.length) (.nd (cN (i+1)) (.lf (.back (l,(cs.reverse.set p.toNat (cs.reverse.getD p.toNat 0+1)).reverse,rs,n,i+1,()))))))))
def rcT (l:List ae) (cs:List Int) (rs:List bV) (n i:Int):T RcE:=.br (decide (i<n)) (.nd (0≤i∧i<rs.length) (rcB l cs rs n i (rs.getD i.toNat bV.z).prec)) (.lf (Iw l cs))
def rcN (l:List ae) (cs:List Int) (rs:List bV) (n i:Int):Prop:=0≤i∧i≤rs.length∧n=rs.length∧rs.length≤1099511627776∧cs.length=l.length∧∀c∈cs,0≤c∧c≤i
def rcG (l:List ae) (q:Option (List Int)):T RcE:=.br q.isSome (.lf (Iw l (q.getD []).reverse)) (.lf Iv)
theorem Kx:eD adf 0 0 rcL rcO [] fun((l:List ae),(cs:List Int),(rs:List bV),(n:Int),(i:Int),_)=>.nd (rcN l cs rs n i) (rcG l (lM (rs.drop i.toNat) cs.reverse)):=by
 refine eG _ (nL _ _) 99 0 0 rcL rcO [] (fun((l:List ae),(cs:List Int),(rs:List bV),(n:Int),(i:Int),_)=>rcT l cs rs n i) (fun(_,_,(rs:List bV),_,(i:Int),_)=>rs.length-i.toNat) ?_;rintro⟨(l:List ae),(cs:List Int),(rs:List bV),(n:Int),(i:Int),_⟩ r _ ⟨⟨h0,h1,rfl,h2,h3,h4⟩,hr⟩;obtain⟨k,rfl⟩:∃k:Nat,i=k:=⟨i.toNat,by omega⟩;have hr:(rcG l (lM (rs.drop k) cs.reverse)).hit r:=hr;show∃q,(rcT l cs rs rs.length k).hit q∧_;unfold rcT;rw[aaR];by_cases hk:k<rs.length
 ·rw[getD_drop bV.z hk] at hr;obtain⟨a,ha⟩:∃a,rs.getD k bV.z=a:=⟨_,rfl⟩;rw[ha] at hr ⊢;obtain⟨p,hp⟩:∃p,a.prec=p:=⟨_,rfl⟩;rw[hp];rw[lM,hp,aa9] at hr;have eX:0≤(k:Int)∧(k:Int)<rs.length:=⟨by omega,by omega⟩;by_cases hb:p<0∨(cs.length:Int)≤p
  ·rw[if_pos hb] at hr;refine⟨Iv,aX (decide_eq_true (by omega)) ⟨eX,?_⟩,hr.2 rfl⟩;by_cases Jc:p<0
   ·exact aX (decide_eq_true Jc) rfl
   ·exact bg (decide_eq_false Jc) (aX (decide_eq_true (by omega)) rfl)
  ·rw[if_neg hb] at hr;have hm:cs.reverse.getD p.toNat 0∈cs:=by
    rw[aaQ,aac (by rw[aa9];omega)];exact act.1 (abI _)
   have hc:=h4 _ hm;refine⟨.back (l,(cs.reverse.set p.toNat (cs.reverse.getD p.toNat 0+1)).reverse,rs,(rs.length:Int),(k:Int)+1,()),aX (decide_eq_true (by omega)) ⟨eX,bg (decide_eq_false (by omega)) (bg (decide_eq_false (by omega)) ⟨⟨by omega,by omega⟩,⟨by omega,by omega⟩,⟨by omega,by omega⟩,⟨by omega,by omega⟩,rfl⟩)⟩,?_,⟨by omega,by omega,rfl,h2,?_,?_⟩,?_⟩
   ·show rs.length-(k+1)<rs.length-k;omega
   ·rw[aa9,abF,aa9];exact h3
   ·intro c Fo;rcases List.mem_or_eq_of_mem_set (act.1 Fo) with h|rfl
    ·have:=h4 c (act.1 h);omega
    ·omega
   ·show(rcG l (lM (rs.drop (k+1)) (cs.reverse.set p.toNat (cs.reverse.getD p.toNat 0+1)).reverse.reverse)).hit r;rw[aa7];exact hr
 ·rw[abg (by omega),lM] at hr;have hr:Iw l cs.reverse.reverse=r:=hr.1 rfl;rw[aa7] at hr;exact⟨Iw l cs,bg (decide_eq_false (by omega)) rfl,hr⟩
abbrev rgL:List (Nat×SS):=[(8,.c (.own tI 3)),(11,.c (.own (.st 12) 45)),(45,nP),(46,sI),(47,sI)]
abbrev rgO:List (Nat×SS):=[(11,.c (.own (.st 12) 45))]
abbrev RgE:=LE rgL rgO []
def Ee (i:Int) (a:ae) (q:Int):cY:=⟨i,a.cast,q,if 0>a.cast-q then 0 else a.cast-q,if 0>q-a.cast then 0 else q-a.cast,a.issued !=a.spoilt+a.cast⟩
def oE:Nat→List ae→List Int→List cY
 | i,a::l,q::m=>Ee i a q::oE (i+1) l m
 | _,_,_=>[]
def rgB (cs:List Int) (gs:List cY) (l:List ae) (n i:Int) (a:ae) (q:Int):T RgE:=.nd (0≤i∧i<cs.length) (.nd (0≤i∧i<cs.length) (.nd (cN (a.cast-q)) (.nd (0≤i∧i<cs.length) (.nd (cN (q-a.cast)) (.nd (cN (a.spoilt+a.cast)) (.nd ((gs.length+1)*49≤140737488355328) (.nd (cN (i+1)) (.lf (.back (cs,Ee i a q::gs,l,n,i+1,()))))))))))
def rgT (cs:List Int) (gs:List cY) (l:List ae) (n i:Int):T RgE:=.br (decide (i<n)) (.nd (0≤i∧i<l.length) (rgB cs gs l n i (l.getD i.toNat ae.z0) (cs.reverse.getD i.toNat 0))) (.lf (.out (gs,())))
def rgN (cs:List Int) (gs:List cY) (l:List ae) (n i:Int):Prop:=0≤i∧i≤l.length∧n=l.length∧l.length≤1099511627776∧cs.length=l.length∧(gs.length:Int)=i∧(∀c∈cs,0≤c∧c≤1099511627776)∧∀a∈l,(0≤a.spoilt∧a.spoilt≤400)∧0≤a.cast∧a.cast≤400
theorem Kw:eD adf 1 2 rgL rgO [] fun((cs:List Int),(gs:List cY),(l:List ae),(n:Int),(i:Int),_)=>.nd (rgN cs gs l n i) (.lf (.out ((oE i.toNat (l.drop i.toNat) (cs.reverse.drop i.toNat)).reverse++gs,()))):=by
 refine eG _ (nL _ _) 99 1 2 rgL rgO [] (fun((cs:List Int),(gs:List cY),(l:List ae),(n:Int),(i:Int),_)=>rgT cs gs l n i) (fun(_,_,(l:List ae),_,(i:Int),_)=>l.length-i.toNat) ?_;rintro⟨(cs:List Int),(gs:List cY),(l:List ae),(n:Int),(i:Int),_⟩ r _ ⟨⟨h0,h1,rfl,h2,h3,h4,h5,h6⟩,hr⟩;obtain⟨k,rfl⟩:∃k:Nat,i=k:=⟨i.toNat,by omega⟩;have hr:(LE.out ((oE k (l.drop k) (cs.reverse.drop k)).reverse++gs,()):RgE)=r:=hr;subst hr;show∃q,(rgT cs gs l l.length k).hit q∧_;unfold rgT;rw[aaR];by_cases hk:k<l.length
 ·rw[getD_drop ae.z0 hk,getD_drop (0:Int) (show k<cs.reverse.length by rw[aa9];omega)];obtain⟨a,ha⟩:∃a,l.getD k ae.z0=a:=⟨_,rfl⟩;obtain⟨q,hq⟩:∃q,cs.reverse.getD k 0=q:=⟨_,rfl⟩;have hma:=h6 a (by rw[←ha,aaQ,aac hk];exact abI hk);have hmq:=h5 q (by rw[←hq,aaQ,aac (by rw[aa9];omega)];exact act.1 (abI _));rw[ha,hq];have eX:0≤(k:Int)∧(k:Int)<cs.length:=⟨by omega,by omega⟩;refine⟨.back (cs,Ee k a q::gs,l,(l.length:Int),(k:Int)+1,()),aX (decide_eq_true (by omega)) ⟨⟨by omega,by omega⟩,eX,eX,⟨by omega,by omega⟩,eX,⟨by omega,by omega⟩,⟨by omega,by omega⟩,by omega,⟨by omega,by omega⟩,rfl⟩,?_,⟨by omega,by omega,rfl,h2,h3,(show((gs.length+1:Nat):Int)=(k:Int)+1 by omega),h5,h6⟩,?_⟩
  ·show l.length-(k+1)<l.length-k;omega
  ·show(LE.out ((oE (k+1) (l.drop (k+1)) (cs.reverse.drop (k+1))).reverse++Ee k a q::gs,()):RgE)=.out ((oE k (a::l.drop (k+1)) (q::cs.reverse.drop (k+1))).reverse++gs,());rw[oE,abL,abD];rfl
 ·rw[abg (show l.length≤k by omega)];exact⟨.out (gs,()),bg (decide_eq_false (by omega)) rfl,by cases cs.reverse.drop k<;>rfl⟩
def NW (n:Int):XV:=.tup [(false,[.val (.slice none 0 0)]),(false,[.sym (.int .i64 n)])]
def Wo (g:List cY):XV:=.tup [(false,[.list (.st 12) g.reverse !g.isEmpty]),(false,[.sym (.int .i64 0)])]
def rcF (l:List ae) (q:Option (List Int)):T XV:=.br q.isSome (.nd (rgN (q.getD []).reverse [] l l.length 0) (.lf (Wo ((oE (Int.toNat 0) (l.drop (Int.toNat 0)) ((q.getD []).reverse.reverse.drop (Int.toNat 0))).reverse++[])))) (.lf (NW 4))
def rcM (e:aa) (l:List ae) (rs:List bV):T XV:=.nd (cH e∧bC e) (.br (!eI e l) (.lf (NW 8)) (.nd ((0:Int)≤l.length∧(l.length:Int)=l.length∧(l.length:Int)*((8:Nat)+1:Int)≤281474976710656) (.nd (rcN l (List.replicate (l.length:Int).toNat 0) rs rs.length 0) (rcF l (lM (rs.drop (Int.toNat 0)) (List.replicate (l.length:Int).toNat 0).reverse)))))
theorem yX:av Tryz.prog 14 true (aU [(0,.st 5),(1,nP),(2,sD (.list (.st 13)))] fun((e:aa),(l:List ae),(rs:List bV),_)=>rcM e l rs):=
 bz (C:=Crc) (((nL _ _).add 0 _ Kx).add 1 _ Kw) true 99 [(0,.st 5),(1,nP),(2,sD (.list (.st 13)))] (fun((e:aa),(l:List ae),(rs:List bV),_)=>rcM e l rs) (fun _ _ _ h=>⟨h,.inl rfl⟩) Tryz.func14
def lN:List bV→Int→Int
 | [],_=>0
 | r::l,i=>(if r.prec=i then 1 else 0)+lN l i
theorem Cb:∀(l:List bV) (i:Int),0≤lN l i∧lN l i≤l.length
 | [],_=>⟨by simp[lN],by simp[lN]⟩
 | r::l,i=>by
  have:=Cb l i;unfold lN;rw[abp];split<;>omega
noncomputable abbrev ac0:=Tryz.f15
noncomputable def Crr:hZ Tryz.prog:=dj Wh [] []
noncomputable abbrev ac1:Rg Tryz.prog ac0.ntmps:=sG Crr ac0
abbrev aae:List CS:=[.d tI,.d tI,.d tI,.d tI,.d tI,.d .bool]
abbrev u6:=eY aae
def uq (g:u6):Int:=g.2.2.1
def Qk (g:u6) (n:Int):u6:=(g.1,g.2.1,n,g.2.2.2)
def rT (g:u6) (n:Int):u6:=Qk g (uq g+n)
theorem Lr (g:u6) (a b:Int):rT (rT g a) b=rT g (a+b):=by
 show Qk g (uq g+a+b)=Qk g (uq g+(a+b));rw[Int.add_assoc]
theorem UW (g:u6):rT g 0=g:=by
 unfold rT;rw[Int.add_zero];rfl
abbrev X3:List (Nat×SS):=[(1,nP),(2,sD (.list (.st 13))),(7,.c (.own (.st 12) 45)),(8,sI),(9,.box 45 aae),(10,sI)]
abbrev X2:List (Nat×SS):=[(1,nP),(2,sD (.list (.st 13))),(7,.c (.own (.st 12) 45)),(8,sI),(9,.box 45 aae)]
abbrev afQ:=LE X3 X2 []
def X1 (l:List ae) (rs:List bV) (gs:List cY) (i:Int) (g:u6) (k:Int):T afQ:=.br (decide (k<rs.length)) (.nd (0≤k∧k<rs.length) (.br ((rs.getD k.toNat bV.z).prec==i) (.nd (cN (uq g+1)) (.nd (cN (k+1)) (.lf (.back (l,rs,gs,i,rT g 1,k+1,()))))) (.nd (cN (k+1)) (.lf (.back (l,rs,gs,i,g,k+1,())))))) (.lf (.out (l,rs,gs,i,g,())))
def rrN (rs:List bV) (c k:Int):Prop:=0≤k∧k≤rs.length∧rs.length≤1099511627776∧0≤c∧c≤k
def pO (l:List ae) (rs:List bV) (gs:List cY) (i:Int) (g:u6) (k:Nat):afQ:=.out (l,rs,gs,i,rT g (lN (rs.drop k) i),())
theorem Ny:eD ac1 1 2 X3 X2 [] fun((l:List ae),(rs:List bV),(gs:List cY),(i:Int),(g:u6),(k:Int),_)=>.nd (rrN rs (uq g) k) (.lf (pO l rs gs i g k.toNat)):=by
 refine eG _ (nL _ _) 99 1 2 X3 X2 [] (fun((l:List ae),(rs:List bV),(gs:List cY),(i:Int),(g:u6),(k:Int),_)=>X1 l rs gs i g k) (fun(_,(rs:List bV),_,_,_,(k:Int),_)=>rs.length-k.toNat) ?_;rintro⟨(l:List ae),(rs:List bV),(gs:List cY),(i:Int),(g:u6),(k:Int),_⟩ r _ ⟨⟨h0,h1,h2,h3,h4⟩,hr⟩;obtain⟨k,rfl⟩:∃n:Nat,k=n:=⟨k.toNat,by omega⟩;have hr:pO l rs gs i g k=r:=hr;subst hr;show∃q,(X1 l rs gs i g k).hit q∧_;unfold X1;rw[aaR];by_cases hk:k<rs.length
 ·have hd:=getD_drop bV.z hk;obtain⟨a,ha⟩:∃a,rs.getD k bV.z=a:=⟨_,rfl⟩;rw[ha] at hd ⊢;have eX:0≤(k:Int)∧(k:Int)<rs.length:=⟨by omega,by omega⟩;by_cases hp:a.prec=i
  ·refine⟨.back (l,rs,gs,i,rT g 1,(k:Int)+1,()),aX (decide_eq_true (by omega)) ⟨eX,aX (beq_iff_eq.2 hp) ⟨⟨by omega,by omega⟩,⟨by omega,by omega⟩,rfl⟩⟩,(by show rs.length-(k+1)<rs.length-k;omega),⟨by omega,by omega,h2,(show(0:Int)≤uq g+1 by omega),(show uq g+1≤(k:Int)+1 by omega)⟩,?_⟩;show pO l rs gs i (rT g 1) (k+1)=pO l rs gs i g k;unfold pO;rw[hd,lN,if_pos hp,Lr]
  ·refine⟨.back (l,rs,gs,i,g,(k:Int)+1,()),aX (decide_eq_true (by omega)) ⟨eX,bg (beq_eq_false_iff_ne.2 hp) ⟨⟨by omega,by omega⟩,rfl⟩⟩,(by show rs.length-(k+1)<rs.length-k;omega),⟨by omega,by omega,h2,h3,(show uq g≤(k:Int)+1 by omega)⟩,?_⟩;show pO l rs gs i g (k+1)=pO l rs gs i g k;unfold pO;rw[hd,lN,if_neg hp,Int.zero_add]
 ·rw[show pO l rs gs i g k=.out (l,rs,gs,i,g,()) by
   unfold pO;rw[abg (by omega),lN,UW]]
  exact⟨.out (l,rs,gs,i,g,()),bg (decide_eq_false (by omega)) rfl,rfl⟩
abbrev X0:List (Nat×SS):=[(1,nP),(2,sD (.list (.st 13))),(7,.c (.own (.st 12) 45)),(8,sI)]
abbrev XZ:List (Nat×SS):=[(7,.c (.own (.st 12) 45))]
abbrev VY:=LE X0 XZ []
def ii:Nat→List ae→List bV→List cY
 | _,[],_=>[]
 | i,a::l,rs=>Ee i a (lN rs i)::ii (i+1) l rs
def ais (l:List ae) (rs:List bV) (gs:List cY) (i:Int) (a:ae) (q:Int):T VY:=.nd (0≤i∧i<l.length) (.nd (0≤i∧i<l.length) (.nd (0≤i∧i<l.length) (.nd (cN (a.spoilt+a.cast)) (.nd (rrN rs 0 0) (.nd (cN (a.cast-(0+q))) (.nd (cN (0+q-a.cast)) (.nd ((gs.length+1)*49≤140737488355328) (.nd (cN (i+1)) (.lf (.back (l,rs,Ee i a (0+q)::gs,i+1,())))))))))))
def XY (l:List ae) (rs:List bV) (gs:List cY) (i:Int):T VY:=.br (decide (i<l.length)) (.nd (0≤i∧i<l.length) (ais l rs gs i (l.getD i.toNat ae.z0) (lN (rs.drop (Int.toNat 0)) i))) (.lf (.out (gs,())))
def Td (l:List ae) (rs:List bV) (gs:List cY) (i:Int):Prop:=0≤i∧i≤l.length∧l.length≤1099511627776∧rs.length≤1099511627776∧(gs.length:Int)=i∧∀a∈l,(0≤a.spoilt∧a.spoilt≤400)∧0≤a.cast∧a.cast≤400
theorem X4:eD ac1 0 0 X0 XZ [] fun((l:List ae),(rs:List bV),(gs:List cY),(i:Int),_)=>.nd (Td l rs gs i) (.lf (.out ((ii i.toNat (l.drop i.toNat) rs).reverse++gs,()))):=by
 refine eG _ ((nL _ _).add 1 _ Ny) 99 0 0 X0 XZ [] (fun((l:List ae),(rs:List bV),(gs:List cY),(i:Int),_)=>XY l rs gs i) (fun((l:List ae),_,_,(i:Int),_)=>l.length-i.toNat) ?_;rintro⟨(l:List ae),(rs:List bV),(gs:List cY),(i:Int),_⟩ r _ ⟨⟨h0,h1,h2,h3,h4,h6⟩,hr⟩;obtain⟨k,rfl⟩:∃n:Nat,i=n:=⟨i.toNat,by omega⟩;have hr:(LE.out ((ii k (l.drop k) rs).reverse++gs,()):VY)=r:=hr;subst hr;show∃q,(XY l rs gs k).hit q∧_;unfold XY;rw[aaR];by_cases hk:k<l.length
 ·rw[getD_drop ae.z0 hk];obtain⟨a,ha⟩:∃a,l.getD k ae.z0=a:=⟨_,rfl⟩;have hma:=h6 a (by rw[←ha,aaQ,aac hk];exact abI hk);have hc:=Cb rs (k:Int);rw[ha];have eX:0≤(k:Int)∧(k:Int)<l.length:=⟨by omega,by omega⟩;refine⟨.back (l,rs,Ee k a (0+lN (rs.drop (Int.toNat 0)) k)::gs,(k:Int)+1,()),aX (decide_eq_true (by omega)) ⟨eX,eX,eX,eX,⟨by omega,by omega⟩,⟨by omega,by omega,h3,by omega,by omega⟩,?_,?_,by omega,⟨by omega,by omega⟩,rfl⟩,?_,⟨by omega,by omega,h2,h3,(show((gs.length+1:Nat):Int)=(k:Int)+1 by omega),h6⟩,?_⟩
  ·show cN (a.cast-(0+lN rs k));exact⟨by omega,by omega⟩
  ·show cN (0+lN rs k-a.cast);exact⟨by omega,by omega⟩
  ·show l.length-(k+1)<l.length-k;omega
  ·show(LE.out ((ii (k+1) (l.drop (k+1)) rs).reverse++Ee k a (0+lN rs k)::gs,()):VY)=.out ((ii k (a::l.drop (k+1)) rs).reverse++gs,());rw[ii,abL,abD,Int.zero_add];rfl
 ·rw[abg (show l.length≤k by omega)];exact⟨.out (gs,()),bg (decide_eq_false (by omega)) rfl,rfl⟩
theorem FY:av Tryz.prog 15 true (aU [(0,.st 5),(1,nP),(2,sD (.list (.st 13)))] fun((_:aa),(l:List ae),(rs:List bV),_)=>.nd (Td l rs [] 0) (.lf (.one (.list (.st 12) (ii 0 l rs) false)))):=
 (bz (C:=Crr) (((nL _ _).add 1 _ Ny).add 0 _ X4) true 99 [(0,.st 5),(1,nP),(2,sD (.list (.st 13)))] (fun((_:aa),(l:List ae),(rs:List bV),_)=>.nd (Td l rs [] 0) (.lf (.one (.list (.st 12) (((ii (Int.toNat 0) (l.drop (Int.toNat 0)) rs).reverse++[]).reverse) !((ii (Int.toNat 0) (l.drop (Int.toNat 0)) rs).reverse++[]).isEmpty)))) (fun _ _ _ h=>⟨h,.inl rfl⟩) Tryz.func15).wk fun⟨_,(l:List ae),(rs:List bV),_⟩ r hr=>by
  obtain⟨h0,rfl⟩:=hr;refine⟨_,⟨h0,rfl⟩,?_⟩;show XV.one (.list (.st 12) (((ii 0 l rs).reverse++[]).reverse) false)=.one (.list (.st 12) (ii 0 l rs) false);rw[abZ,aa7]
theorem An:∀{rs:List bV} {cs:List Int},(lM rs cs).isSome=!(rs.any fun r=>decide (r.prec<0∨(cs.length:Int)≤r.prec))
 | [],cs=>rfl
 | r::l,cs=>by
  unfold lM;rw[acb];by_cases h:r.prec<0∨(cs.length:Int)≤r.prec
  ·rw[if_pos h,decide_eq_true h];rfl
  ·rw[if_neg h,An,abF,decide_eq_false h];rfl
theorem tS:∀{rs:List bV} {cs out:List Int},lM rs cs=some out→out.length=cs.length∧∀j,j<cs.length→out.getD j 0=cs.getD j 0+lN rs (j:Int)
 | [],cs,out,h=>by
  simp only[lM,adR] at h;subst h;exact⟨rfl,fun j _=>by simp[lN]⟩
 | r::l,cs,out,h=>by
  unfold lM at h;split at h
  ·cases h
  ·rename_i hr;obtain⟨h1,h2⟩:=tS h;rw[abF] at h1 h2;refine⟨h1,fun j hj=>?_⟩;rw[h2 j hj,lN];by_cases hp:r.prec=(j:Int)
   ·have hjj:r.prec.toNat=j:=by omega
    rw[if_pos hp,hjj,aaQ,abt hj,aby];omega
   ·have hjj:r.prec.toNat≠j:=by omega
    rw[if_neg hp,aaQ,abj hjj,←aaQ];omega
theorem Ed:∀{i:Nat} {l:List ae} {m:List Int} {rs:List bV},m.length=l.length→(∀j,j<l.length→m.getD j 0=lN rs ((i+j:Nat):Int))→oE i l m=ii i l rs
 | i,[],[],rs,_,_=>rfl
 | i,a::l,q::m,rs,h,hm=>by
  unfold oE ii;have h0:=hm 0 (by simp);simp only[List.getD_cons_zero,acX] at h0;rw[h0,Ed (by simpa using h) fun j hj=>?_];have:=hm (j+1) (by simpa using hj);rw[show i+1+j=i+(j+1) by omega];simpa using this
 | i,[],q::m,rs,h,_=>by cases h
 | i,a::l,[],rs,h,_=>by cases h
theorem LS {l:List ae} {rs:List bV} {cs:List Int} (h:lM rs (List.replicate l.length 0)=some cs):oE 0 l cs=ii 0 l rs:=by
 obtain⟨h1,h2⟩:=tS h;rw[acc] at h1 h2;refine Ed h1 fun j hj=>?_;rw[h2 j hj,abQ];simp[hj]
theorem G0 {P:Program} {f:FuncId} {g:ByteArray→Bool} (h:∀(s:ByteArray) (w:World),s.size≤9223372036854775807→Calls P f #[.string s] w (gU w (.bool (g s)))):av P f false (aU [(0,sS)] fun((s:ByteArray),_)=>.nd (s.size≤9223372036854775807) (.lf (aB (g s)))):=
 gD fun w S x vs r hS he hl hr=>by
  obtain⟨(s:ByteArray),_⟩:=x;obtain⟨v,h1,h2,_⟩:=he 0 (aS s) abh;obtain⟨hs,rfl⟩:=hr
  match vs,hl,h1 with
  | [u],_,h1=>
   injection h1 with h1
   subst h1 h2;exact Calls.mono (h s w hs) fun e w' ⟨e1,e2⟩=>⟨_,fun _=>False,e1,e2▸Below.refl _ _,fun _ q=>q.elim,rfl,rfl⟩
theorem og:av Tryz.prog 45 false (aU [(0,sS)] fun((s:ByteArray),_)=>.nd (s.size≤9223372036854775807) (.lf (aB (fP s.data.toList)))):=G0 KJ
theorem qO:av Tryz.prog 107 false (aU [(0,sS)] fun((s:ByteArray),_)=>.nd (s.size≤9223372036854775807) (.lf (aB (jc s.data.toList)))):=G0 MG
theorem TA:av Tryz.prog 169 false (aU [(0,sS)] fun((s:ByteArray),_)=>.nd (s.size≤9223372036854775807) (.lf (aB (kF s.data.toList)))):=G0 Gc
noncomputable def C1:hZ Tryz.prog:=dj uC [⟨_,_,_,find_ok⟩,⟨_,_,_,og⟩,⟨_,_,_,qO⟩,⟨_,_,_,TA⟩] []
theorem Jk {b y:Bool} {x:T XV} (h:b=true→x.hit (aB y)):(T.br b x (.lf (aB false))).hit (aB (b&&y)):=by
 cases b with
 | true=>exact⟨fun _=>h rfl,fun e=>by cases e⟩
 | false=>exact⟨(fun e=>by cases e),fun _=>rfl⟩
theorem Bl:av Tryz.prog 110 false (aU [(0,sS)] fun((s:ByteArray),_)=>.nd (s.size≤9223372036854775807) (.lf (aB (oo s)))):=
 bz (C:=C1) (nL _ _) false 99 [(0,sS)] (fun((s:ByteArray),_)=>.br (decide ((s.size:Int)≥1)) (.br (decide ((s.size:Int)≤24)) (.nd (s.size≤9223372036854775807) (.lf (aB (fP s.data.toList)))) (.lf (aB false))) (.lf (aB false)))
  (fun⟨s,_⟩ r _ ⟨hs,h⟩=>by
   obtain rfl:aB (oo s)=r:=h;exact⟨Jk fun _=>Jk fun _=>⟨hs,rfl⟩,.inr rfl⟩) Tryz.func110
theorem KR (l:List UInt8):-(6*10^l.length-6)≤l.foldl dA 0∧l.foldl dA 0≤23*10^l.length-23:=by
 have:∀k:List UInt8,-(6*10^k.reverse.length-6)≤k.reverse.foldl dA 0∧k.reverse.foldl dA 0≤23*10^k.reverse.length-23:=by
  intro k;induction k with
  | nil=>simp
  | cons x k ih=>
   rw[abL,List.foldl_append,abm,abN];obtain⟨P,hP⟩:∃P:Int,(10:Int)^k.reverse.length=P:=⟨_,rfl⟩;have e:(10:Int)^(k.reverse.length+1)=10*P:=by rw[Int.pow_succ,hP,Int.mul_comm]
   rw[hP] at ih;rw[e];have hx:=x.toNat_lt;show _≤10*_+(x.toNat:Int)-48∧10*_+(x.toNat:Int)-48≤_;omega
 have h:=this l.reverse
 rwa [aa7] at h
theorem zg {l:List UInt8} (h:l.length≤6):-6000000≤l.foldl dA 0∧l.foldl dA 0≤23000000:=by
 have h1:=KR l;have h2:10^l.length≤10^6:=acv (by omega) h;have h3:(10:Int)^l.length=((10^l.length:Nat):Int):=by simp
 rw[h3] at h1;have h4:10^6=1000000:=by decide
 omega
theorem zZ {l:List UInt8} {k:Nat} {x:UInt8} (h:l[k]?=some x) (n:Int):(l.take (k+1)).foldl dA n=10*(l.take k).foldl dA n+(x.toNat:Int)-48:=by
 rw[ju h,List.foldl_append];rfl
theorem KQ:eD (sG C1 Tryz.f141) 0 0 [(0,sS),(4,sI),(5,sI)] [(0,sS),(4,sI)] [] fun((s:ByteArray),(n:Int),(i:Int),_)=>
 .nd (∃k:Nat,i=k∧k≤s.size∧k≤6∧(s.data.toList.take k).foldl dA 0=n) (.lf (.out (s,(dF s.data.toList).1,()))):=by
  refine eG _ (nL _ _) 99 0 0 [(0,sS),(4,sI),(5,sI)] [(0,sS),(4,sI)] [] (fun((s:ByteArray),(n:Int),(i:Int),_)=>.br (decide (i<s.size)) (.br (decide (i<6)) (.nd (cN (10*n)) (.nd (0≤i∧i<s.size) (.nd (cN (10*n+IntKind.i64.wrap (s.data.toList.getD i.toNat 0).toNat)) (.nd (cN (10*n+IntKind.i64.wrap (s.data.toList.getD i.toNat 0).toNat-48)) (.nd (cN (i+1)) (.lf (.back (s,10*n+IntKind.i64.wrap (s.data.toList.getD i.toNat 0).toNat-48,i+1,())))))))) (.lf (.out (s,n,())))) (.lf (.out (s,n,()))))
   (fun(_,_,(i:Int),_)=>6-i.toNat) ?_
  rintro⟨(s:ByteArray),n,i,_⟩ r _ ⟨⟨k,rfl,h1,h2,rfl⟩,rfl⟩;have bO:s.data.toList.length=s.size:=abC;by_cases hi:k<s.size
  ·by_cases h6:k<6
   ·have hx:s.data.toList[k]?=some (s.data.toList.getD k 0):=by
     rw[aaQ,aac (by omega)];rfl
    have hb:=zg (l:=s.data.toList.take k) (by rw[abH];omega);have cj:=zg (l:=s.data.toList.take (k+1)) (by rw[abH];omega);rw[zZ hx] at cj;have hc:=(s.data.toList.getD k 0).toNat_lt;have hw:IntKind.i64.wrap ((s.data.toList.getD k 0).toNat:Int)=((s.data.toList.getD k 0).toNat:Int):=by rw[IntKind.wrap_i64];omega
    refine⟨_,aX (decide_eq_true (by omega)) (aX (decide_eq_true (by omega)) ⟨⟨by omega,by omega⟩,⟨by omega,by omega⟩,?_,?_,⟨by omega,by omega⟩,rfl⟩),?_,⟨k+1,rfl,by omega,by omega,?_⟩,rfl⟩
    ·show cN (_+IntKind.i64.wrap ((s.data.toList.getD k 0).toNat:Int));rw[hw];exact⟨by omega,by omega⟩
    ·show cN (_+IntKind.i64.wrap ((s.data.toList.getD k 0).toNat:Int)-48);rw[hw];exact⟨by omega,by omega⟩
    ·show 6-(k+1)<6-k;omega
    ·rw[zZ hx];show _=_+IntKind.i64.wrap ((s.data.toList.getD k 0).toNat:Int)-48;rw[hw]
   ·obtain rfl:k=6:=by omega
    exact⟨_,aX (decide_eq_true (by omega)) (bg (decide_eq_false (by omega)) rfl),rfl⟩
  ·refine⟨_,bg (decide_eq_false (by omega)) rfl,?_⟩;simp only[dF,acj (show s.data.toList.length≤6 by omega),acj (show s.data.toList.length≤k by omega)]
theorem oX:av Tryz.prog 141 false (aU [(0,sS)] fun((s:ByteArray),_)=>.nd (s.size≤9223372036854775807) (.lf (.tup [(false,[.sym (.int .i64 (dF s.data.toList).1)]),(false,[.sym (.bool (dF s.data.toList).2)])]))):=
 bz (C:=C1) ((nL _ _).add 0 _ KQ) false 99 [(0,sS)] (fun((s:ByteArray),_)=>.nd (∃k:Nat,(0:Int)=k∧k≤s.size∧k≤6∧(s.data.toList.take k).foldl dA 0=0) (.nd (s.size≤9223372036854775807) (.lf (.tup [(false,[.sym (.int .i64 (dF s.data.toList).1)]),(false,[.sym (.bool (kF s.data.toList))])]))))
  (fun⟨s,_⟩ r _ ⟨hs,h⟩=>⟨⟨⟨0,rfl,abK _,abK _,rfl⟩,hs,h⟩,.inr (by obtain rfl:=h;rfl)⟩) Tryz.func141
end Go.Proofs.YtjlhbfbdcfajfaaGreatDoor
