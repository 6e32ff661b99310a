/- Tp12 Tp13 Tp14 Vld1 Ts5 La1 Sa1 Tm2 -/
import Derived.Test.YtdbpbfglhbiadaaGreatDoorH00
import Derived.Test.YtdbpbfglhbiadaaGreatDoorH34
import Derived.Test.YtdbpbfglhbiadaaGreatDoorH33
import Derived.Lib.ItoaLen
import Derived.Test.YtdbpbfglhbiadaaGreatDoorH31
import Derived.Test.YtdbpbfglhbiadaaGreatDoorH32
import Derived.Test.YtdbpbfglhbiadaaGreatDoorH02
import Derived.Test.YtdbpbfglhbiadaaGreatDoorH18
set_option maxHeartbeats 4000000
set_option maxRecDepth 100000
namespace Go.Proofs.YtdbpbfglhbiadaaGreatDoor
open Go Go.RowKit
noncomputable def An:BX->dG×BZ:=shut fQ
theorem Ut (x:BX):An x=fQ x:=congrFun (gi fQ) x
theorem O3:ew Tryz.prog 60 [0] [(0,zR)] [(0,sBy)] λ((x:BX),_)=>.nd (vH x) (.lf (Mh (aE (An x).1) (An x).2)):=by
 unfold An;rw[gi];exact O1
def fp:List ak->BX->dG×BX
 | [],b=>(⟨0,0⟩,b)
 | x::l,b=>if(fq x b).1.no≠0 then fq x b else fp l (fq x b).2
theorem zi:∀(l:List ak) (x:BX),cA l x.d=((fp l x).1,(fp l x).2.d)
 | [],_=>rfl
 | b::l,x=>by
  unfold cA fp;rw[Rn];split
  ·rfl
  ·exact zi l _
noncomputable def bsS:List ak->BX->dG×BX:=shut fp
theorem GH (l:List ak) (x:BX):bsS l x=fp l x:=congrFun (congrFun (gi fp) l) x
noncomputable def CV9:eP Tryz.prog:=bA S4 [⟨_,_,_,rE⟩,⟨_,_,_,FS⟩] [⟨_,_,_,_,_,We⟩,⟨_,_,_,_,_,O3⟩]
noncomputable abbrev cmF:=Tryz.f23
abbrev csE:List CS:=[.d .str,.d tI,.d tI,.d tI,.d (.list .str),.d (.list (.st 3)),.d (.list (.st 4)),.d tI,.d tI,.d .bool,.d (.list .limb),.d (.list .limb),.d tI,.d .str]
abbrev sEl:SS:=.box 30 csE
noncomputable abbrev abu:Rg Tryz.prog cmF.ntmps:=o8 (mi CV9 cmF) [(20,agi 0 6)] [(3,agf 4 14 9)]
abbrev m0L:List (Nat×SS):=[(4,zR),(2,sEl),(3,Mn),(24,sD (.list (.st 1))),(25,sI),(26,sI)]
abbrev Ul:List (Nat×SS):=[(4,zR),(2,sEl),(3,Mn)]
abbrev m1L:List (Nat×SS):=[(4,zR),(2,sEl),(3,Mn),(39,sL),(40,sI),(41,sI)]
abbrev RZ:=eB csE
def vA:AV:=.val (.slice none 0 0)
def zC:List AV:=[.val (.string ⟨#[]⟩),.val (.int .i64 0),.val (.int .i64 0),.val (.int .i64 0),vA,vA,vA,.val (.int .i64 0),.val (.int .i64 0),.val (.bool false),vA,vA,.val (.int .i64 0),.val (.string ⟨#[]⟩)]
def erX (f:dG):XV:=.tup [(true,zC),(true,[.sym (.int .i64 f.no),.sym (.int .i64 f.line)])]
def erM:XV:=.tup [(true,zC),(true,[.val (.int .i64 6),.val (.int .i64 0)])]
def XW:ak:=⟨⟨#[]⟩,⟨#[]⟩,[],0⟩
def W7 (e:RZ) (y:ox) (x:BX):LE m0L Ul []:=.out (x,e,y,())
def m0T (x:BX) (e:RZ) (y:ox) (l:List ak) (a i:Int):T (LE m0L Ul []):=.br (decide (i<a)) (.nd (0<=i/\i<l.length) (.nd (gN (l.getD i.toNat XW)/\x.ok 999999999997) (.br (!((fq (l.getD i.toNat XW) x).1.no==0)) (.lf (.ret (erX (fq (l.getD i.toNat XW) x).1) ())) (.nd (cw (i+1)) (.lf (.back ((fq (l.getD i.toNat XW) x).2,e,y,l,a,i+1,()))))))) (.lf (W7 e y x))
def m0R (e:RZ) (y:ox) (q:dG×BX):T (LE m0L Ul []):=.br (!(q.1.no==0)) (.lf (.ret (erX q.1) ())) (.lf (W7 e y q.2))
theorem Q7:cL abu 0 0 m0L Ul [] λ((x:BX),(e:RZ),(y:ox),(l:List ak),(a:Int),(i:Int),_)=>.nd (0<=i/\i<=l.length/\a=l.length/\l.length<=68719476736/\(∀b∈l,gN b)/\x.ok (2*i.toNat)) (m0R e y (bsS (l.drop i.toNat) x)):=by
 refine fy _ (nL _ _) 99 0 0 m0L Ul [] (λ((x:BX),(e:RZ),(y:ox),(l:List ak),(a:Int),(i:Int),_)=>m0T x e y l a i) (λ(_,_,_,(l:List ak),_,(i:Int),_)=>l.length-i.toNat) ?_;rintro⟨(x:BX),(e:RZ),(y:ox),(l:List ak),(a:Int),(i:Int),_⟩ r _ ⟨⟨h0,h1,rfl,h3,h4,h5⟩,hr⟩;obtain⟨k,rfl⟩:∃k:Nat,i=k:=⟨i.toNat,by omega⟩;rw[aae] at hr h5;rw[GH] at hr;show∃q,(m0T x e y l l.length k).hit q/\_;unfold m0T;by_cases hk:k<l.length
 ·rw[getD_drop XW hk,fp] at hr;rw[aae];have hn:(0:Int)<=k/\(k:Int)<l.length:=⟨by omega,by omega⟩;have hb:gN (l.getD k XW):=h4 _ (by rw[aal,aac hk];exact ach _);have hx:x.ok 999999999997:=⟨by have:=h5.c;omega,by have:=h5.s;omega,by have:=h5.v;omega,by have:=h5.m;omega,λk r e=>by have:=h5.r k r e;omega⟩;by_cases e1:(fq (l.getD k XW) x).1.no=0
  ·rw[if_neg (by simpa using e1)] at hr;refine⟨_,aC (decide_eq_true hn.2) ⟨hn,⟨hb,hx⟩,aK (by rw[e1];rfl) ⟨⟨by omega,by omega⟩,rfl⟩⟩,by show l.length-(k+1)<l.length-k;omega,⟨by omega,by omega,rfl,h3,h4,?_⟩,?_⟩
   ·have:=L4 (b:=l.getD k XW) h5;show BX.ok _ (2*((k:Int)+1).toNat);rw[show 2*((k:Int)+1).toNat=2*k+2 by omega];exact this
   ·show(m0R e y (bsS (l.drop (k+1)) _)).hit r;rw[GH];exact hr
  ·rw[if_pos e1] at hr;obtain rfl:=hr.1 (by rw[beq_false_of_ne e1];rfl);exact⟨_,aC (decide_eq_true hn.2) ⟨hn,⟨hb,hx⟩,aC (by rw[beq_false_of_ne e1];rfl) rfl⟩,rfl⟩
 ·rw[aaQ (by omega),fp] at hr;obtain rfl:=hr.2 rfl;exact⟨_,aK (decide_eq_false (by omega)) rfl,rfl⟩
def W6 (e:RZ) (y:ox) (x:BX):LE m1L Ul []:=.out (x,e,y,())
def m1T (x:BX) (e:RZ) (y:ox) (l:List ByteArray) (a i:Int):T (LE m1L Ul []):=.br (decide (i<a)) (.nd (0<=i/\i<l.length) (.nd (Kt.ok .s (l.getD i.toNat ⟨#[]⟩)) (.br ((((x.names.2 (l.getD i.toNat ⟨#[]⟩)).getD []).reverse.length:Int)==0) (.lf (.ret erM ())) (.nd (cw (i+1)) (.lf (.back (x,e,y,l,a,i+1,()))))))) (.lf (W6 e y x))
def FI (x:BX) (k:ByteArray):Bool:=decide (x.d.of k=[])
theorem Oy (x:BX) (k:ByteArray):((((x.names.2 k).getD []).reverse.length:Int)==0)=FI x k:=by
 have e:x.d.of k=((x.names.2 k).getD []).reverse:=by
  show((x.names.2 k).map List.reverse).getD []=_;cases x.names.2 k<;>rfl
 unfold FI;rw[e];cases ((x.names.2 k).getD []).reverse with
 | nil=>rfl
 | cons a l=>simp;omega
theorem Q6:cL abu 1 2 m1L Ul [] λ((x:BX),(e:RZ),(y:ox),(l:List ByteArray),(a:Int),(i:Int),_)=>.nd (0<=i/\i<=l.length/\a=l.length/\∀s∈l,Kt.ok .s s) (.br ((l.drop i.toNat).any (FI x)) (.lf (.ret erM ())) (.lf (W6 e y x))):=by
 refine fy _ (nL _ _) 99 1 2 m1L Ul [] (λ((x:BX),(e:RZ),(y:ox),(l:List ByteArray),(a:Int),(i:Int),_)=>m1T x e y l a i) (λ(_,_,_,(l:List ByteArray),_,(i:Int),_)=>l.length-i.toNat) ?_;rintro⟨(x:BX),(e:RZ),(y:ox),(l:List ByteArray),(a:Int),(i:Int),_⟩ r rh ⟨⟨h0,h1,rfl,h4⟩,hr⟩;have hl:l.length<=9223372036854775807:=rh.2.2.2.1;obtain⟨k,rfl⟩:∃k:Nat,i=k:=⟨i.toNat,by omega⟩;rw[aae] at hr;show∃q,(m1T x e y l l.length k).hit q/\_;unfold m1T;by_cases hk:k<l.length
 ·rw[getD_drop (⟨#[]⟩:ByteArray) hk,ac1] at hr;rw[aae,Oy];have hn:(0:Int)<=k/\(k:Int)<l.length:=⟨by omega,by omega⟩;have hb:Kt.ok .s (l.getD k ⟨#[]⟩):=h4 _ (by rw[aal,aac hk];exact ach _);cases e1:FI x (l.getD k ⟨#[]⟩)
  ·rw[e1,acY] at hr;exact⟨_,aC (decide_eq_true hn.2) ⟨hn,hb,aK rfl ⟨⟨by omega,by omega⟩,rfl⟩⟩,by show l.length-(k+1)<l.length-k;omega,⟨by omega,by omega,rfl,h4⟩,hr⟩
  ·rw[e1,Bool.true_or] at hr;obtain rfl:=hr.1 rfl;exact⟨_,aC (decide_eq_true hn.2) ⟨hn,hb,aC rfl rfl⟩,rfl⟩
 ·rw[aaQ (by omega)] at hr;obtain rfl:=hr.2 rfl;exact⟨_,aK (decide_eq_false (by omega)) rfl,rfl⟩
def zS:List AV:=[.sym (.string ⟨#[]⟩),.sym (.int .i64 0),.sym (.int .i64 0),.sym (.int .i64 0),vA,vA,vA,.sym (.int .i64 0),.sym (.int .i64 0),.sym (.bool false),vA,vA,.sym (.int .i64 0),.sym (.string ⟨#[]⟩)]
def SA (f:dG):XV:=.tup [(true,zS),(true,[.sym (.int .i64 f.no),.sym (.int .i64 f.line)])]
def okX (x:BZ):XV:=.tup [(true,[.sym (.string x.1),.sym (.int .i64 x.2.1),.sym (.int .i64 x.2.2.1),.sym (.int .i64 x.2.2.2.1),.list .str x.2.2.2.2.1 false,.list (.st 3) x.cont.reverse !x.cont.isEmpty,.list (.st 4) x.z.2.1.reverse.reverse !x.z.2.1.reverse.isEmpty,.sym (.int .i64 x.2.2.2.2.2.2.2.1),.sym (.int .i64 x.2.2.2.2.2.2.2.2.1),.sym (.bool x.2.2.2.2.2.2.2.2.2.1),.list .limb x.2.2.2.2.2.2.2.2.2.2.1 false,.list .limb x.2.2.2.2.2.2.2.2.2.2.2.1 false,.sym (.int .i64 x.2.2.2.2.2.2.2.2.2.2.2.2.1),.sym (.string x.2.2.2.2.2.2.2.2.2.2.2.2.2.1)]),(true,[.sym (.int .i64 0),.sym (.int .i64 0)])]
def BX.z0 (t:ByteArray):BX:=(t,(0:Int),(0:Int),(0:Int),[],[],[],(0:Int),(0:Int),false,[],[],(0:Int),⟨#[]⟩,(0,λ_=>none),[],())
noncomputable def cmL (x:BX):T XV:=.nd (vH x) (.br (!((An x).1.no==0)) (.lf (SA (An x).1)) (.nd ((An x).2.z.1=(An x).2.z.2.1.length) (.lf (okX (An x).2))))
noncomputable def cmK (x:BX):T XV:=.nd ((0:Int)<=0/\(0:Int)<=et.length/\(et.length:Int)=et.length/\∀s∈et,Kt.ok .s s) (.br ((et.drop (Int.toNat 0)).any (FI x)) (.lf (SA ⟨6,0⟩)) (cmL x))
noncomputable def cmB (q:dG×BX):T XV:=.br (!(q.1.no==0)) (.lf (SA q.1)) (cmK q.2)
noncomputable def cmT (s:aF):T XV:=.nd (cU s.title) (.br (!da s.title 0 60) (.lf (SA ⟨8,0⟩)) (.nd (∀_:ByteArray,(none:Option (List ByteArray))=none) (.nd ((0:Int)<=0/\(0:Int)<=s.blocks.length/\(s.blocks.length:Int)=s.blocks.length/\s.blocks.length<=68719476736/\(∀b∈s.blocks,gN b)/\(BX.z0 s.title).ok (2*Int.toNat 0)) (cmB (bsS (s.blocks.drop (Int.toNat 0)) (BX.z0 s.title))))))
theorem LV:ao Tryz.prog 23 true (az [(0,.st 2)] λ((s:aF),_)=>cmT s):=
 pT (R:=abu) (((nL _ _).add 0 _ Q7).add 1 _ Q6) true 99 [(0,.st 2)] (λ((s:aF),_)=>cmT s) (λx r _ h=>⟨h,.inl rfl⟩) Tryz.func23
def oJ (x:aa×dG):XV:=.tup [(true,jS (.st 5) x.1),(true,[.sym (.int .i64 x.2.no),.sym (.int .i64 x.2.line)])]
def VX.lOk (x:VX):Prop:=∀t l,x.L.2 t=some l->l.length<=274877906944
theorem VX.lOk_eq {x y:VX} (h:x.lOk) (e:y.2.1=x.2.1):y.lOk:=λt l hl=>h t l (by have:y.L=x.L:=e;rw[this] at hl;exact hl)
theorem TF {k:ByteArray} {f:ai} {x:VX} (h:x.lOk) (hf:f.vals.length<=274877906944):(eW k f x).2.lOk:=by
 have hl:(x.setL f.key f.line).lOk:=VX.lOk_eq h rfl;unfold eW;split
 ·exact h
 split
 ·exact h
 split
 ·intro t l hl;have hl:setF x.L.2 f.key f.vals t=some l:=(congrFun (Ky x.L.2 f.key f.vals) t).symm.trans hl;unfold setF at hl;split at hl
  ·obtain rfl:=aaj hl;exact hf
  ·exact h t l hl
 split
 ·exact hl
 ·exact VX.lOk_eq hl (Om _ _ _).2.1
theorem Cf {kind:ByteArray}:∀{l:List ai} {v:VX},v.lOk->(∀f∈l,f.vals.length<=274877906944)->(gz kind l v).2.lOk
 | [],_,h,_=>h
 | f::l,v,h,hf=>by
  have h1:=TF (k:=kind) h (hf f aaz);unfold gz;split
  ·exact h1
  ·exact Cf h1 λg hg=>hf g (aa0 _ hg)
theorem VX.s_len {x:VX} (h:x.lOk) (k:ByteArray):(x.v.s k).length<=274877906944:=by
 show((x.L.2 k).getD []).length<=_;cases e:x.L.2 k with
 | none=>exact abz _
 | some l=>exact h k l e
def BX.li (x:BX):Prop:=x.prec.length<=274877906944/\x.styn.length=x.vals.length/\∀v∈x.vals,vOk v
theorem JZ {k nm:ByteArray} {v:VX} {x:BX} (h:x.li) (hv:v.lOk):(jK k nm v.v x).li:=by
 obtain⟨h1,h2,h3⟩:=h;unfold jK;split
 ·exact⟨h1,h2,h3⟩
 split
 ·exact⟨h1,h2,h3⟩
 split
 ·exact⟨v.s_len hv eA,h2,h3⟩
 split
 ·exact⟨h1,h2,h3⟩
 split
 ·refine⟨h1,congrArg (·+1) h2,λu hu=>?_⟩;rcases abs.1 (show u∈v.v::x.vals from hu) with rfl|hu
  ·exact⟨aax (v.s_len hv _) (by decide),aax (v.s_len hv _) (by decide)⟩
  ·exact h3 u hu
 split
 ·exact⟨h1,h2,h3⟩
 split
 ·exact⟨h1,h2,h3⟩
 ·exact⟨h1,h2,h3⟩
theorem L5 {b:ak} {x:BX} (h:x.li) (hb:gN b):(fq b x).2.li:=by
 have hn:(x.nam b.kind b.name).li:=h;unfold fq;split
 ·exact h
 split
 ·exact hn
 split
 ·exact hn
 ·exact JZ hn (Cf (λt l e=>by cases e) λf hf=>(hb.2.2.2 f hf).2)
theorem wU:∀{l:List ak} {x:BX},x.li->(∀b∈l,gN b)->(fp l x).2.li
 | [],_,h,_=>h
 | b::l,x,h,hb=>by
  have h1:=L5 h (hb b aaz);unfold fp;split
  ·exact h1
  ·exact wU h1 λc hc=>hb c (aa0 _ hc)
theorem CE {prec:List ByteArray} {cont:List ae}:∀{vs:List aJ} {d:List aj} {r:List ByteArray} {u:List Bool},(oX prec cont vs d r u).2.no=0->(oX prec cont vs d r u).1.1.length=d.length+vs.length
 | [],_,_,_,_=>rfl
 | v::vs,d,r,u,h=>by
  unfold oX at h ⊢;by_cases e1:(pY prec (v.l af) (v.s af) u []).2.no=0
  ·rw[if_pos e1] at h ⊢;by_cases e2:(AA cont (v.l ay) (v.s ay) []).2.no=0
   ·rw[if_pos e2] at h ⊢;rw[CE h,aaM,aaJ,aaJ,ab9];omega
   ·rw[if_neg e2] at h;exact absurd h e2
  ·rw[if_neg e1] at h;exact absurd h e1
theorem AY {w:World} {S:Nat->Prop} {v:Value} (f:dG) (h:XR [] w S (SA f) v):XR [] w S (oJ (aa.zero,f)) v:=by
 have hn:∀{t:Ty} {u:Value},VR [] w S vA u->VR [] w S (.list t [] false) u:=λh=>⟨none,0,0,h.1,RS.nil _ _,λe=>by cases e⟩;obtain⟨vs,e,h⟩:=h;refine⟨vs,e,?_⟩;cases h with
 | cons h1 h2=>
  refine .cons ?_ h2;obtain⟨us,e,h⟩:=h1;refine⟨us,e,?_⟩
  match us,h with
  | _,.cons a1 (.cons a2 (.cons a3 (.cons a4 (.cons a5 (.cons a6 (.cons a7 (.cons a8 (.cons a9 (.cons SI (.cons SH (.cons SG (.cons a13 (.cons a14 .nil)))))))))))))=>
   exact .cons a1 (.cons a2 (.cons a3 (.cons a4 (.cons (hn a5) (.cons (hn a6) (.cons (hn a7) (.cons a8 (.cons a9 (.cons SI (.cons (hn SH) (.cons (hn SG) (.cons a13 (.cons a14 .nil)))))))))))))
theorem Zg (x:BX):MP (okX (fQ x).2)=oJ ({ x.d.e with styl:=(fQ x).2.z.2.1 },⟨0,0⟩):=
 congrArg (λl=>oJ ({ x.d.e with styl:=l },⟨0,0⟩)) (aat (fQ x).2.z.2.1)
theorem sp:ao Tryz.prog 23 true (az [(0,.st 2)] λ((s:aF),_)=>.nd (np s) (.lf (oJ (bj s)))):=by
 refine LV.imp ?_;rintro⟨(s:aF),_⟩ r ⟨⟨h1,h2,h3⟩,hr⟩;obtain rfl:oJ (bj s)=r:=hr;have hz:(BX.z0 s.title).li:=⟨abz _,rfl,λv hv=>by cases hv⟩;have rh:cA s.blocks (cE.start s.title)=((fp s.blocks (BX.z0 s.title)).1,(fp s.blocks (BX.z0 s.title)).2.d):=zi s.blocks (BX.z0 s.title);have Vd:=wU hz h3;have pre:∀{q},(cmB (fp s.blocks (BX.z0 s.title))).hit q->da s.title 0 60=true->(cmT s).hit q:=λhq hp=>⟨h1,aK (by rw[hp];rfl) ⟨λ_=>rfl,⟨by omega,by omega,rfl,h2,h3,⟨abz _,abz _,abz _,abz _,λk r e=>by cases e⟩⟩,by rw[GH];exact hq⟩⟩;unfold bj;rw[rh];cases hp:da s.title 0 60 with
 | false=>rw[if_pos rfl];exact⟨SA ⟨8,0⟩,⟨h1,aC (by rw[hp];rfl) rfl⟩,λw S v h=>AY _ h⟩
 | true=>
  rw[if_neg (by decide)];obtain⟨⟨f,x⟩,hq⟩:∃q,fp s.blocks (BX.z0 s.title)=q:=⟨_,rfl⟩;rw[hq] at Vd pre ⊢;have Vd:x.li:=Vd;by_cases e1:f.no=0
  ·rw[if_neg (by simpa using e1)];have aem:∀{q},(cmK x).hit q->(cmT s).hit q:=λh=>pre (aK (by show(!(f.no==0))=false;rw[e1];rfl) h) hp;have kk:∀s∈et,Kt.ok .s s:=λs hs=>px ((by decide:∀s∈et,s.size<=1000) s hs);cases e2:et.any (FI x) with
   | true=>
    rw[if_pos (by exact e2)];exact⟨SA ⟨6,0⟩,aem ⟨⟨by decide,by decide,rfl,kk⟩,aC e2 rfl⟩,λw S v h=>AY _ h⟩
   | false=>
    rw[if_neg (by intro h;have h:et.any (FI x)=true:=h;rw[e2] at h;cases h)];have lp:vH x:=⟨aax Vd.1 (by decide),Vd.2.1,Vd.2.2⟩;have hlk:oE x.d=_:=UC x lp;have ve:∀{q},(T.br (!((fQ x).1.no==0)) (.lf (SA (fQ x).1)) (.nd ((fQ x).2.z.1=(fQ x).2.z.2.1.length) (.lf (okX (fQ x).2)))).hit q->(cmT s).hit q:=λh=>aem ⟨⟨by decide,by decide,rfl,kk⟩,aK e2 ⟨lp,by rw[Ut];exact h⟩⟩;show∃q,_/\∀(w:World) (S:Nat->Prop) (v:Value),_->XR [] w S (oJ (match oE x.d with|.error e=>(aa.zero,e)|.ok l=>({ x.d.e with styl:=l },⟨0,0⟩))) v;rw[hlk];by_cases e3:(fQ x).1.no=0
    ·rw[if_pos e3];have hg:x.go.2.no=0:=by
      unfold fQ at e3;by_cases e:x.go.2.no=0
      ·exact e
      ·rw[if_neg e] at e3;exact e3
     refine⟨okX (fQ x).2,ve (aK (by rw[e3];rfl) ⟨?_,rfl⟩),λw S v h=>by rw[<-Zg];exact EX h⟩;have:=CE hg;show x.styn.length=x.go.1.1.length;rw[show x.go.1.1.length=_ from this];show _=0+(x.vals.reverse).length;rw[aaP,acg];exact Vd.2.1
    ·rw[if_neg e3];exact⟨SA (fQ x).1,ve (aC (by rw[beq_false_of_ne e3];rfl) rfl),λw S v h=>AY _ h⟩
  ·rw[if_pos e1];exact⟨SA f,pre (aC (by show(!(f.no==0))=true;rw[beq_false_of_ne e1];rfl) rfl) hp,λw S v h=>AY _ h⟩
structure di (e:aa):Prop where
 title:cU e.title
 seed:cU e.seed
 prec:∀s∈e.prec,cU s
 cont:∀x∈e.cont,cU x.name/\∀s∈x.cands,cU s
 styl:∀x∈e.styl,cU x.name
 len:e.cont.length+e.styl.length<=34359738368
theorem bK {s:ByteArray} (h:s.size<=1000):cU s:=aax h (by omega)
theorem FT {n:Int} (h:EN n):cU (tj n):=by
 refine bK ?_;show(Lib.itoa n).toArray.size<=1000;rw[acc];unfold Lib.itoa;obtain⟨h1,h2⟩:=h;split
 ·have:=Lib.nDigits_le20 n.natAbs (by omega);rw[aaJ,Lib.decDigits_length];omega
 ·have:=Lib.nDigits_le20 n.toNat (by omega);rw[Lib.decDigits_length];omega
theorem wO (k:ByteArray):∀s∈aD k,s.size<=100:=by
 unfold aD
 repeat' split
 all_goals decide
theorem Bh (k:ByteArray) (n:Int):cU (iY k n):=by
 refine bK ?_;unfold iY;split
 ·decide
 ·rw[aal];cases h:(aD k)[n.toNat-1]? with
  | none=>decide
  | some s=>exact aax (wO k s (acq h)) (by omega)
theorem Cu {fr:List ByteArray} (h:∀s∈fr,cU s) (i:Int):cU (nameAt fr i):=by
 unfold nameAt;split
 ·rw[aal];cases hh:fr[i.toNat]? with
  | none=>exact bK (by decide)
  | some s=>exact h s (acq hh)
 ·exact bK (by decide)
theorem sY {fr:List ByteArray} (h:∀s∈fr,cU s) (idx:List Int):∀s∈db idx fr,cU s:=by
 intro s hs;obtain⟨i,_,rfl⟩:=acu.1 hs;exact Cu h i
theorem uM {r:Raw} (h:r.short 67108864):cU ⟨(ib r.q).toArray⟩:=by
 obtain⟨h1,h2⟩:=ly h (by omega);have l1:=ke h1;have l2:=ke h2;show(ib r.q).toArray.size<=17592186044416;rw[acc];unfold ib;rw[aaM,aaM];have l3:(if r.q.neg then[45] else([]:List UInt8)).length<=1:=by split<;>simp
 have l4:(if bq r.q.d=[49] then[] else 47::bq r.q.d).length<=1+(bq r.q.d).length:=by split<;>simp;omega
 omega
def xc (f:ai):Prop:=JL f/\f.vals.length<=274877906944
theorem mQ {k s:ByteArray} (hk:k.size<=1000) (hs:cU s):xc ⟨k,[s],0⟩:=⟨⟨bK hk,by simpa using hs,by simp⟩,by simp⟩
theorem nN {k:ByteArray} {l:List ByteArray} (hk:k.size<=1000) (hl:∀s∈l,cU s) (hn:l.length<=274877906944):xc ⟨k,l,0⟩:=⟨⟨bK hk,hl,aax hn (by omega)⟩,hn⟩
theorem jy {k:ByteArray} {n:Int} (hk:k.size<=1000) (h:EN n):xc (ga k n):=mQ hk (FT h)
theorem uq {k:ByteArray} {n:Int} (hk:k.size<=1000):xc (jj k n):=mQ hk (Bh k n)
theorem eZ {x:ak} (hk:x.kind.size<=1000) (hn:cU x.name) (hl:x.fields.length<=1000) (hf:∀f∈x.fields,xc f):gN x:=⟨bK hk,hn,aax hl (by omega),hf⟩
theorem Bd {x:ae} (h:nC x) (hn:cU x.name) (hc:∀s∈x.cands,cU s):gN (eI x):=by
 obtain⟨h1,h2,h3,h4,h5,h6,h7,h8⟩:=h;refine eZ (aby rfl) hn ?_ ?_
 ·show([jj bg x.method,ga bH x.seats,ga gB x.ranks]++(if x.method=2 then[ga aH x.digits] else[])++[jj il x.ties,jj ck x.over,jj im x.skip,(⟨fK,x.cands,0⟩:ai)]).length<=1000;split<;>simp
 ·intro f hf;have hf':f∈[jj bg x.method,ga bH x.seats,ga gB x.ranks]++(if x.method=2 then[ga aH x.digits] else[])++[jj il x.ties,jj ck x.over,jj im x.skip,(⟨fK,x.cands,0⟩:ai)]:=hf;rcases ab7.1 hf' with hf'|hf'
  ·rcases ab7.1 hf' with hf'|hf'
   ·simp only[abs,abL,or_false] at hf';rcases hf' with rfl|rfl|rfl
    ·exact uq (by decide)
    ·exact jy (by decide) h2
    ·exact jy (by decide) h3
   ·split at hf'
    ·simp only[abs,abL,or_false] at hf';subst hf';exact jy (by decide) h4
    ·cases hf'
  ·simp only[abs,abL,or_false] at hf';rcases hf' with rfl|rfl|rfl|rfl
   ·exact uq (by decide)
   ·exact uq (by decide)
   ·exact uq (by decide)
   ·exact nN (by decide) hc h8
theorem uN {prec conts:List ByteArray} {x:aj} (hx:x.prec.length<=274877906944/\x.cont.length<=274877906944) (hn:cU x.name) (hp:∀s∈prec,cU s) (hc:∀s∈conts,cU s):gN (eT prec conts x):=by
 refine eZ (aby rfl) hn (by simp[eT]) ?_;intro f hf;have hf':f∈[(⟨af,db x.prec prec,0⟩:ai),⟨ay,db x.cont conts,0⟩]:=hf;simp only[abs,abL,or_false] at hf';rcases hf' with rfl|rfl
 ·exact nN (by decide) (sY hp _) (by unfold db;rw[acf];exact hx.1)
 ·exact nN (by decide) (sY hc _) (by unfold db;rw[acf];exact hx.2)
theorem BU {e:aa} (h:dP e) (hs:di e):np (dt e):=by
 refine⟨hs.title,?_,λx hx=>?_⟩
 ·have:=hs.len;simp only[dt,aaM,acf,aaJ,ab9];omega
 ·have hx':x∈([(⟨bZ,⟨#[]⟩,[ga iK e.dots,ga cF e.blank,ga bO e.marked],0⟩:ak),⟨aX,⟨#[]⟩,[ga fJ e.scan,ga fL e.batch],0⟩,⟨af,⟨#[]⟩,[⟨eA,e.prec,0⟩],0⟩]
   ++e.cont.map eI++e.styl.map (eT e.prec (e.cont.map (·.name)))
   ++[⟨bP,⟨#[]⟩,[⟨dZ,[⟨(ib e.risk.q).toArray⟩],0⟩,⟨gJ,[e.seed],0⟩],0⟩,⟨bB,⟨#[]⟩,[ga iL e.cell],0⟩]):=hx
  rcases ab7.1 hx' with hx'|hx'
  ·rcases ab7.1 hx' with hx'|hx'
   ·rcases ab7.1 hx' with hx'|hx'
    ·simp only[abs,abL,or_false] at hx';rcases hx' with rfl|rfl|rfl
     ·refine eZ (aby rfl) (bK (aby rfl)) (by simp) λf hf=>?_;simp only[abs,abL,or_false] at hf;rcases hf with rfl|rfl|rfl
      ·exact jy (by decide) h.dots
      ·exact jy (by decide) h.blank
      ·exact jy (by decide) h.marked
     ·refine eZ (aby rfl) (bK (aby rfl)) (by simp) λf hf=>?_;simp only[abs,abL,or_false] at hf;rcases hf with rfl|rfl
      ·exact jy (by decide) h.scan
      ·exact jy (by decide) h.batch
     ·refine eZ (aby rfl) (bK (aby rfl)) (by simp) λf hf=>?_;simp only[abs,abL,or_false] at hf;subst hf;exact nN (by decide) hs.prec h.lp
    ·obtain⟨c,hc,rfl⟩:=acu.1 hx';exact Bd (h.conts c hc) (hs.cont c hc).1 (hs.cont c hc).2
   ·obtain⟨c,hc,rfl⟩:=acu.1 hx';refine uN (h.styls c hc) (hs.styl c hc) hs.prec λs hss=>?_;obtain⟨d,hd,rfl⟩:=acu.1 hss;exact(hs.cont d hd).1
  ·simp only[abs,abL,or_false] at hx';rcases hx' with rfl|rfl
   ·refine eZ (aby rfl) (bK (aby rfl)) (by simp) λf hf=>?_;simp only[abs,abL,or_false] at hf;rcases hf with rfl|rfl
    ·exact mQ (by decide) (uM h.short)
    ·exact mQ (by decide) hs.seed
   ·refine eZ (aby rfl) (bK (aby rfl)) (by simp) λf hf=>?_;simp only[abs,abL,or_false] at hf;subst hf;exact jy (by decide) h.cell
def ny (v:aJ):Prop:=v.risk.short 2
theorem Cb (l:List UInt8) (r:Raw) (h:(ig l).2=some r):r.short 2:=by
 unfold ig at h;split at h
 ·cases h
 split at h
 ·cases h
 ·injection h with h
  subst h;have h1:=gR (dy l);have h2:=gR (dw l);exact yh _ _ _ (by omega) (by omega)
theorem KG {key s:ByteArray} {v:aJ} (h:ny v):ny (vi key s v).2:=by
 unfold vi;split
 ·exact h
 split
 ·show ny (v.withRisk _);unfold aJ.withRisk;split
  ·exact h
  ·rename_i r hr;exact Cb _ r hr
 split
 ·split
  ·exact h
  ·exact h
 split
 ·exact h
 split
 ·exact h
 ·exact h
theorem vc {kind:ByteArray} {f:ai} {v:aJ} (h:ny v):ny (bV kind f v).2:=by
 unfold bV;split
 ·exact h
 split
 ·exact h
 split
 ·exact h
 split
 ·exact h
 ·exact KG h
theorem sW {kind:ByteArray}:∀{fs:List ai} {v:aJ},ny v->ny (dU kind fs v).2
 | [],v,h=>h
 | f::l,v,h=>by
  unfold dU;split
  ·exact vc h
  ·exact sW (vc h)
theorem tG {x:ak} {b:cE} (h:b.e.risk.short 2):(fN x b).2.e.risk.short 2:=by
 have hz:ny aJ.zero:=⟨abz _,abz _⟩;unfold fN;split
 ·exact h
 split
 ·exact h
 split
 ·exact h
 ·show(bb x.kind x.name (dU x.kind x.fields aJ.zero).2 (b.named x.kind x.name)).e.risk.short 2;have hr:(dU x.kind x.fields aJ.zero).2.risk.short 2:=sW hz;unfold bb
  repeat' split
  all_goals first|exact h|exact hr
theorem qO:∀{l:List ak} {b:cE},b.e.risk.short 2->(cA l b).2.e.risk.short 2
 | [],b,h=>h
 | x::l,b,h=>by
  unfold cA;split
  ·exact tG h
  ·exact qO (tG h)
theorem wM (s:aF):(bj s).1.risk.short 67108864:=by
 have hz:aa.zero.risk.short 67108864:=⟨abz _,abz _⟩;unfold bj;split
 ·exact hz
 split
 ·exact hz
 split
 ·exact hz
 split
 ·exact hz
 ·have:(cA s.blocks (cE.start s.title)).2.e.risk.short 2:=qO ⟨abz _,abz _⟩;exact⟨aax this.1 (by omega),aax this.2 (by omega)⟩
theorem Fs:ao Tryz.prog 43 false (az [(0,.st 8)] λ((x:Raw),_)=>.nd (x.short 536870912) (.lf (aB x.valid))):=
 gQ λw S x vs r hS he hl hr=>by
  obtain⟨(x:Raw),_⟩:=x;obtain⟨v,h1,h2⟩:=he 0 (.agg (jS (.st 8) x)) aaz;obtain⟨a1,rfl⟩:=hr
  match vs,hl,h1 with
  | [u],_,h1=>
   injection h1 with h1
   subst h1;exact Calls.mono (JU (GN h2) hS a1) λe w' h=>⟨_,λ_=>False,h.1,h.2,λ_ q=>q.elim,rfl,rfl⟩
noncomputable def Cs5:eP Tryz.prog:=bA BL [⟨_,_,_,sK⟩,⟨_,_,_,sp⟩,⟨_,_,_,Fs⟩,⟨_,_,_,yQ⟩] []
def vpT (e:aa) (q:aa×dG):T XV:=.nd (dP e) (.nd (np (dt e)) (Mf (.lf (aB false)) [q.2.no==0] (.nd (e.risk.short 536870912) (Mf (.lf (aB false)) [e.risk.valid] (.nd (q.1.risk.short 67108864/\e.risk.short 67108864) (.lf (aB (gd q.1 e))))))))
theorem oM:ao Tryz.prog 15 false (az [(0,.st 5)] λ((e:aa),_)=>.nd (dP e/\di e) (.lf (aB (gy e)))):=
 aN (C:=Cs5) (nL _ _) false 99 [(0,.st 5)] (λ((e:aa),_)=>vpT e (bj (dt e)))
  (λ⟨(e:aa),_⟩ r _ ⟨⟨h1,h2⟩,h⟩=>by
   obtain rfl:aB (gy e)=r:=h;refine⟨?_,.inr rfl⟩;have e0:gy e=([(bj (dt e)).2.no==0].all id&&([e.risk.valid].all id&&gd (bj (dt e)).1 e)):=by
    unfold gy;rw[acJ,adI,Bool.and_true,acJ,adI,Bool.and_true];rfl
   rw[e0];refine⟨h1,BU h1 h2,qU (ret:=.lf (aB false)) (r:=aB) rfl _ λ_=>⟨⟨aax h1.short.1 (by decide),aax h1.short.2 (by decide)⟩,?_⟩⟩;exact qU (ret:=.lf (aB false)) (t:=.nd ((bj (dt e)).1.risk.short 67108864/\e.risk.short 67108864) (.lf (aB (gd (bj (dt e)).1 e)))) (r:=aB) rfl _ λ_=>⟨⟨wM _,h1.short⟩,rfl⟩) Tryz.func15
theorem ao.retVL {P:Program} {f:FuncId} {al:Bool} {F:List XV->T XV} (h:ao P f al F) {w:World} {S:Nat->Prop} {xs:List XV} {vs:List Value} {u:Value} (hW:Wd w) (hS:∀b,S b->b<w.heap.size) (hx:F2 (XR [] w S) xs vs) (hr:(F xs).hit (.one (.sym u))):Calls P f vs.toArray w (kB w u):=
 Calls.mono (h w S xs vs _ hW hS hx hr) λ_ _ ⟨_,_,h1,h2,_,h3⟩=>⟨h1.trans (congrArg _ h3.1),h2⟩
def mj (x:Int):List Int->Nat->Int
 | [],_=>-1
 | y::l,i=>if x=y then(i:Int) else mj x l (i+1)
theorem CZ (x:Int):∀(l:List Int) (i:Nat),(0<=mj x l i↔x∈l)
 | [],i=>by simp[mj]
 | y::l,i=>by
  unfold mj;by_cases h:x=y
  ·rw[if_pos h];simp[h]
  ·rw[if_neg h,CZ x l (i+1)];simp[h]
noncomputable abbrev aeZ:=Tryz.f97
noncomputable abbrev aeX:Rg Tryz.prog aeZ.ntmps:=mi C0 aeZ
abbrev sIz:SS:=sD (.list tI)
abbrev UK:List (Nat×SS):=[(0,sIz),(1,sI),(7,sI),(8,sI)]
def ZH (l:List Int) (x n i:Int):T (LE UK [] []):=.br (decide (i<n)) (.nd (0<=i/\i<l.length) (.br (x==l.getD i.toNat 0) (.lf (.ret (aI i) ())) (.nd (cw (i+1)) (.lf (.back (l,x,n,i+1,())))))) (.lf (.out ()))
def aeY (v:Int):T (LE UK [] []):=.br (v== -1) (.lf (.out ())) (.lf (.ret (aI v) ()))
theorem ZG:cL aeX 0 0 UK [] [] λ((l:List Int),(x:Int),(n:Int),(i:Int),_)=>.nd (0<=i/\i<=l.length/\n=l.length/\l.length<=1099511627776) (aeY (mj x (l.drop i.toNat) i.toNat)):=by
 refine fy _ (nL _ _) 99 0 0 UK [] [] (λ((l:List Int),(x:Int),(n:Int),(i:Int),_)=>ZH l x n i) (λ((l:List Int),_,_,(i:Int),_)=>l.length-i.toNat) ?_;rintro⟨(l:List Int),(x:Int),(n:Int),(i:Int),_⟩ r _ ⟨⟨h0,h1,rfl,h2⟩,hr⟩;obtain⟨k,rfl⟩:∃k:Nat,i=k:=⟨i.toNat,by omega⟩;have hr:(aeY (mj x (l.drop k) k)).hit r:=hr;show∃q,(ZH l x l.length k).hit q/\_;unfold ZH;rw[aae];by_cases hk:k<l.length
 ·rw[getD_drop (0:Int) hk] at hr;obtain⟨a,ha⟩:∃a,l.getD k 0=a:=⟨_,rfl⟩;rw[ha] at hr ⊢;have gM:0<=(k:Int)/\(k:Int)<l.length:=⟨by omega,by omega⟩;unfold mj at hr;by_cases hx:x=a
  ·rw[if_pos hx] at hr;have hq:((k:Int)== -1)=false:=beq_eq_false_iff_ne.2 (by omega);exact⟨.ret (aI k) (),aC (decide_eq_true (by omega)) ⟨gM,aC (beq_iff_eq.2 hx) rfl⟩,hr.2 hq⟩
  ·rw[if_neg hx] at hr;exact⟨.back (l,x,(l.length:Int),(k:Int)+1,()),aC (decide_eq_true (by omega)) ⟨gM,aK (beq_eq_false_iff_ne.2 hx) ⟨⟨by omega,by omega⟩,rfl⟩⟩,(by show l.length-(k+1)<l.length-k;omega),⟨by omega,by omega,rfl,h2⟩,hr⟩
 ·rw[aaQ (by omega)] at hr;exact⟨.out (),aK (decide_eq_false (by omega)) rfl,hr.1 rfl⟩
def ae0 (l:List Int) (x:Int):T XV:=.nd ((0:Int)<=0/\(0:Int)<=l.length/\(l.length:Int)=l.length/\l.length<=1099511627776) (.br (mj x (l.drop (Int.toNat 0)) (Int.toNat 0)== -1) (.lf (aI (-1))) (.lf (aI (mj x (l.drop (Int.toNat 0)) (Int.toNat 0)))))
theorem ZW:ao Tryz.prog 97 false (az [(0,sIz),(1,sI)] λ((l:List Int),(x:Int),_)=>.nd (l.length<=1099511627776) (.lf (aI (mj x l 0)))):=
 (aN (C:=C0) ((nL _ _).add 0 _ ZG) false 99 [(0,sIz),(1,sI)] (G:=λ((l:List Int),(x:Int),_)=>ae0 l x) (λ((l:List Int),(x:Int),_)=>ae0 l x) (λ⟨_,_,_⟩ r _ h=>⟨h,.inr (by obtain⟨_,h⟩:=h;rcases hB h with⟨_,h⟩|⟨_,h⟩<;>(obtain rfl:=h;rfl))⟩) Tryz.func97).imp λ⟨(l:List Int),(x:Int),_⟩ r hr=>by
  obtain⟨h0,rfl⟩:=hr;show∃q,(T.nd _ (.br (mj x l 0== -1) (.lf (aI (-1))) (.lf (aI (mj x l 0))))).hit q/\_;by_cases h:mj x l 0= -1
  ·exact⟨_,⟨⟨by omega,by omega,rfl,h0⟩,aC (beq_iff_eq.2 h) rfl⟩,λw S v hv=>by rw[h];exact hv⟩
  ·exact⟨_,⟨⟨by omega,by omega,rfl,h0⟩,aK (beq_eq_false_iff_ne.2 h) rfl⟩,λw S v hv=>hv⟩
noncomputable def ao1:eP Tryz.prog:=bA BL [⟨_,_,_,ZW⟩] []
theorem Vm:ao Tryz.prog 48 false (az [(0,sIz),(1,sI)] λ((l:List Int),(x:Int),_)=>.nd (l.length<=1099511627776) (.lf (aB (decide (mj x l 0>=0))))):=
 aN (C:=ao1) (nL _ _) false 99 [(0,sIz),(1,sI)] (λ((l:List Int),(x:Int),_)=>.nd (l.length<=1099511627776) (.lf (aB (decide (mj x l 0>=0))))) (λ⟨(l:List Int),(x:Int),_⟩ r _ h=>⟨h,.inr (by obtain⟨_,rfl⟩:=h;rfl)⟩) Tryz.func48
noncomputable def Nk (t:TypeId):Option Ty:=List.lookup t [(3,.st 27),(42,.st 4),(30,.st 5)]
noncomputable def ao0:eP Tryz.prog:=bA Nk [⟨_,_,_,Vm⟩] []
theorem Td:ao Tryz.prog 47 false (az [(0,.st 4),(1,.rf 27)] λ((s:aj),(x:EM),_)=>.nd (s.prec.length<=1099511627776) (.lf (aB (decide (mj x.1 s.prec 0>=0))))):=
 aN (C:=ao0) (nL _ _) false 99 [(0,.st 4),(1,.rf 27)] (λ((s:aj),(x:EM),_)=>.nd (s.prec.length<=1099511627776) (.lf (aB (decide (mj x.1 s.prec 0>=0))))) (λ⟨(s:aj),(x:EM),_⟩ r _ h=>⟨h,.inr (by obtain⟨_,rfl⟩:=h;rfl)⟩) Tryz.func47
abbrev Yo:FuncId:=47
def gE (p:Int):List aj->Nat->Int
 | [],_=>-1
 | s::l,i=>if p∈s.prec then(i:Int) else gE p l (i+1)
noncomputable def ahB:eP Tryz.prog:=bA Nk [⟨_,_,_,Td⟩] []
noncomputable abbrev ae3:=Tryz.f46
noncomputable abbrev ae1:Rg Tryz.prog ae3.ntmps:=mi ahB ae3
abbrev sYs:SS:=sD (.list (.st 4))
abbrev ZK:List (Nat×SS):=[(0,sYs),(1,.cl Yo (.st 27)),(7,sI),(8,sI)]
abbrev ab6:=LE ZK [] []
def akD (l:List aj) (x:EM) (n i:Int) (s:aj):T ab6:=.nd (s.prec.length<=1099511627776) (.br (decide (mj x.1 s.prec 0>=0)) (.lf (.ret (aI i) ())) (.nd (cw (i+1)) (.lf (.back (l,x,n,i+1,())))))
def ZJ (l:List aj) (x:EM) (n i:Int):T ab6:=.br (decide (i<n)) (.nd (0<=i/\i<l.length) (akD l x n i (l.getD i.toNat aj.z0))) (.lf (.out ()))
def ae2 (v:Int):T ab6:=.br (v== -1) (.lf (.out ())) (.lf (.ret (aI v) ()))
def oR (l:List aj) (n i:Int):Prop:=0<=i/\i<=l.length/\n=l.length/\l.length<=1099511627776/\∀s∈l,s.prec.length<=1099511627776
theorem ZI:cL ae1 0 0 ZK [] [] λ((l:List aj),(x:EM),(n:Int),(i:Int),_)=>.nd (oR l n i) (ae2 (gE x.1 (l.drop i.toNat) i.toNat)):=by
 refine fy _ (nL _ _) 99 0 0 ZK [] [] (λ((l:List aj),(x:EM),(n:Int),(i:Int),_)=>ZJ l x n i) (λ((l:List aj),_,_,(i:Int),_)=>l.length-i.toNat) ?_;rintro⟨(l:List aj),(x:EM),(n:Int),(i:Int),_⟩ r _ ⟨⟨h0,h1,rfl,h2,h3⟩,hr⟩;obtain⟨k,rfl⟩:∃k:Nat,i=k:=⟨i.toNat,by omega⟩;have hr:(ae2 (gE x.1 (l.drop k) k)).hit r:=hr;show∃q,(ZJ l x l.length k).hit q/\_;unfold ZJ;rw[aae];by_cases hk:k<l.length
 ·rw[getD_drop aj.z0 hk] at hr;obtain⟨a,ha⟩:∃a,l.getD k aj.z0=a:=⟨_,rfl⟩;have hs:=h3 a (by rw[<-ha,aal,aac hk];exact ach hk);rw[ha] at hr ⊢;have gM:0<=(k:Int)/\(k:Int)<l.length:=⟨by omega,by omega⟩;have hm:=CZ x.1 a.prec 0;unfold gE at hr;by_cases hx:x.1∈a.prec
  ·rw[if_pos hx] at hr;have hq:((k:Int)== -1)=false:=beq_eq_false_iff_ne.2 (by omega);exact⟨.ret (aI k) (),aC (decide_eq_true (by omega)) ⟨gM,hs,aC (decide_eq_true (hm.2 hx)) rfl⟩,hr.2 hq⟩
  ·rw[if_neg hx] at hr;exact⟨.back (l,x,(l.length:Int),(k:Int)+1,()),aC (decide_eq_true (by omega)) ⟨gM,hs,aK (decide_eq_false λh=>hx (hm.1 h)) ⟨⟨by omega,by omega⟩,rfl⟩⟩,(by show l.length-(k+1)<l.length-k;omega),⟨by omega,by omega,rfl,h2,h3⟩,hr⟩
 ·rw[aaQ (by omega)] at hr;exact⟨.out (),aK (decide_eq_false (by omega)) rfl,hr.1 rfl⟩
def ae4 (l:List aj) (x:EM):T XV:=.nd (oR l l.length 0) (.br (gE x.1 (l.drop (Int.toNat 0)) (Int.toNat 0)== -1) (.lf (aI (-1))) (.lf (aI (gE x.1 (l.drop (Int.toNat 0)) (Int.toNat 0)))))
theorem Pr:ao Tryz.prog 46 false (az [(0,sYs),(1,.cl Yo (.st 27))] λ((l:List aj),(x:EM),_)=>.nd (oR l l.length 0) (.lf (aI (gE x.1 l 0)))):=
 (aN (C:=ahB) ((nL _ _).add 0 _ ZI) false 99 [(0,sYs),(1,.cl Yo (.st 27))] (G:=λ((l:List aj),(x:EM),_)=>ae4 l x) (λ((l:List aj),(x:EM),_)=>ae4 l x) (λ⟨_,_,_⟩ r _ h=>⟨h,.inr (by obtain⟨_,h⟩:=h;rcases hB h with⟨_,h⟩|⟨_,h⟩<;>(obtain rfl:=h;rfl))⟩) Tryz.func46).imp λ⟨(l:List aj),(x:EM),_⟩ r hr=>by
  obtain⟨h0,rfl⟩:=hr;show∃q,(T.nd _ (.br (gE x.1 l 0== -1) (.lf (aI (-1))) (.lf (aI (gE x.1 l 0))))).hit q/\_;by_cases h:gE x.1 l 0= -1
  ·exact⟨_,⟨h0,aC (beq_iff_eq.2 h) rfl⟩,λw S v hv=>by rw[h];exact hv⟩
  ·exact⟨_,⟨h0,aK (beq_eq_false_iff_ne.2 h) rfl⟩,λw S v hv=>hv⟩
noncomputable def aoZ:eP Tryz.prog:=bA Nk [⟨_,_,_,Pr⟩] []
theorem BM:ao Tryz.prog 18 true (az [(0,.st 5),(1,sI)] λ((e:aa),(p:Int),_)=>.nd (oR e.styl e.styl.length 0) (.lf (aI (gE p e.styl 0)))):=
 aN (C:=aoZ) (nL _ _) true 99 [(0,.st 5),(1,sI)] (λ((e:aa),(p:Int),_)=>.nd (oR e.styl e.styl.length 0) (.lf (aI (gE p e.styl 0)))) (λ_ _ _ h=>⟨h,.inl rfl⟩) Tryz.func18
def uR:ByteArray:=⟨#[101,108,101,99,116,105,111,110,32,34,69,34,32,123,32,115,99,97,110,32,123,32,100,111,116,115,32,50,59,32,98,108,97,110,107,32,50,48,59,32,109,97,114,107,101,100,32,53,48,59,32,125,32,115,99,97,110,110,101,114,115,32,123,32,99,111,117,110,116,32,49,59,32,98,97,116,99,104,32,52,59,32,125,32,112,114,101,99,105,110,99,116,115,32,123,32,110,97,109,101,115,32,110,111,114,116,104,44,32,115,111,117,116,104,59,32,125,32,99,111,110,116,101,115,116,32,109,97,121,111,114,32,123,32,109,101,116,104,111,100,32,105,114,118,59,32,115,101,97,116,115,32,49,59,32,114,97,110,107,115,32,51,59,32,116,105,101,115,32,108,111,116,59,32,111,118,101,114,118,111,116,101,32,115,116,111,112,59,32,115,107,105,112,32,99,108,111,115,101,59,32,99,97,110,100,105,100,97,116,101,115,32,97,110,110,44,32,98,111,98,44,32,99,101,109,59,32,125,32,115,116,121,108,101,32,97,32,123,32,112,114,101,99,105,110,99,116,115,32,110,111,114,116,104,44,32,115,111,117,116,104,59,32,99,111,110,116,101,115,116,115,32,109,97,121,111,114,59,32,125,32,97,117,100,105,116,32,123,32,114,105,115,107,32,53,47,49,48,48,59,32,115,101,101,100,32,120,59,32,125,32,112,114,105,118,97,99,121,32,123,32,99,101,108,108,32,51,59,32,125,32,125]⟩
theorem adP:ao Tryz.prog 42 false (az [] λ_=>.lf (aS (shut uR))):=
 aN (C:=C0) (nL _ _) false 99 [] (λ_=>.lf (aS uR)) (λ_ r _ h=>by obtain rfl:=h;rw[gi];exact⟨rfl,.inr rfl⟩) Tryz.func42
def uP:aF:=aep (Ar uR).1
def Mv:aa:=⟨⟨#[69]⟩,2,20,50,[⟨#[110,111,114,116,104]⟩,⟨#[115,111,117,116,104]⟩],[⟨⟨#[109,97,121,111,114]⟩,[⟨#[97,110,110]⟩,⟨#[98,111,98]⟩,⟨#[99,101,109]⟩],1,1,3,0,3,1,1⟩],[⟨⟨#[97]⟩,[0,1],[0]⟩],1,4,⟨false,[1],[20]⟩,3,⟨#[120]⟩⟩
theorem Hs:(Ar uR).2.1=0/\(TX (Ar uR).1).2.1=0:=by refine⟨?_,?_⟩<;>kernel_rfl
theorem NA:bj uP=(Mv,⟨0,0⟩):=by kernel_rfl
theorem J5:gy Mv=true:=by kernel_rfl
theorem Nz:gE 1 Mv.styl 0=0:=by kernel_rfl
def oD (s:ByteArray):Bool:=decide (s.size<=1000)
theorem fW {s:ByteArray} (h:oD s=true):cU s:=aax (of_decide_eq_true h) (by decide)
def adO (s:aF):Bool:=oD s.title&&(decide (s.blocks.length<=1000)&&s.blocks.all λx=>oD x.kind&&(oD x.name&&(decide (x.fields.length<=1000)&&x.fields.all λf=>oD f.key&&(f.vals.all oD&&decide (f.vals.length<=1000)))))
theorem Tk {s:aF} (h:adO s=true):np s:=by
 simp only[adO,aav,abc,decide_eq_true_eq] at h;obtain⟨h1,h2,h3⟩:=h;refine⟨fW h1,aax h2 (by decide),λx hx=>?_⟩;obtain⟨b1,b2,b3,b4⟩:=h3 x hx;refine⟨fW b1,fW b2,aax b3 (by decide),λf hf=>?_⟩;obtain⟨f1,f2,f3⟩:=b4 f hf;exact⟨⟨fW f1,λs hs=>fW (f2 s hs),aax f3 (by decide)⟩,aax f3 (by decide)⟩
theorem Tq:np uP:=Tk (by kernel_rfl)
theorem KC:ao Tryz.prog 41 true (az [(0,sS)] λ((s:ByteArray),_)=>.nd (s=shut uR) (.lf (aSr (shut uP)))):=
 TW.imp λ⟨(s:ByteArray),_⟩ r hr=>by
  obtain⟨h,h2⟩:=hr;obtain rfl:s=shut uR:=h;obtain rfl:aSr (shut uP)=r:=h2;refine⟨aSr (shut uP),?_,λ_ _ _ h=>h⟩;show(T.nd ((shut uR).size<=20000) (Y7 (Ar (shut uR)))).hit _;rw[gi,gi];exact⟨of_decide_eq_true (by kernel_rfl),aC (by rw[Hs.1];rfl) (aC (by rw[Hs.2];rfl) rfl)⟩
theorem Q5:ao Tryz.prog 23 true (az [(0,.st 2)] λ((s:aF),_)=>.nd (s=shut uP) (.lf (oJ (shut Mv,⟨0,0⟩)))):=
 sp.imp λ⟨(s:aF),_⟩ r hr=>by
  obtain⟨h,h2⟩:=hr;obtain rfl:s=shut uP:=h;obtain rfl:oJ (shut Mv,⟨0,0⟩)=r:=h2;refine⟨oJ (shut Mv,⟨0,0⟩),?_,λ_ _ _ h=>h⟩;show(T.nd (np (shut uP)) (.lf (oJ (bj (shut uP))))).hit _;rw[gi,gi,NA];exact⟨Tq,rfl⟩
noncomputable def xM (t:TypeId):Option Ty:=List.lookup t [(9,.str),(3,tI),(33,.st 2),(30,.st 5),(87,.st 3),(42,.st 4),(48,.st 7),(91,.st 1),(46,tI)]
noncomputable def Csa:eP Tryz.prog:=bA xM [⟨_,_,_,adP⟩,⟨_,_,_,KC⟩,⟨_,_,_,Q5⟩,⟨_,_,_,oM⟩,⟨_,_,_,BM⟩] []
theorem abe:dP Mv where
 dots:=⟨by decide,by decide⟩
 blank:=⟨by decide,by decide⟩
 marked:=⟨by decide,by decide⟩
 scan:=⟨by decide,by decide⟩
 batch:=⟨by decide,by decide⟩
 cell:=⟨by decide,by decide⟩
 conts:=by intro x hx;obtain rfl:=acb.1 hx;unfold nC EN;simp
 styls:=by intro x hx;obtain rfl:=acb.1 hx;simp
 lc:=by decide
 ls:=by decide
 lp:=by decide
 short:=by unfold Raw.short;decide
theorem QJ:di Mv where
 title:=fW rfl
 seed:=fW rfl
 prec:=λs hs=>fW (abc.1 (show Mv.prec.all oD=true by kernel_rfl) s hs)
 cont:=by
  intro x hx;have:=abc.1 (show(Mv.cont.all λx=>oD x.name&&x.cands.all oD)=true by kernel_rfl) x hx;rw[aav] at this;exact⟨fW this.1,λs hs=>fW (abc.1 this.2 s hs)⟩
 styl:=λx hx=>fW (abc.1 (show(Mv.styl.all λx=>oD x.name)=true by kernel_rfl) x hx)
 len:=by decide
abbrev fF:T XV:=.lf (aB false)
def anD (e:aa):T XV:=.br ((e.cont.length:Int)==1) (.nd ((0:Int)<=0/\(0:Int)<(e.cont.length:Int)) (.br ((e.cont.getD 0 (⟨⟨#[]⟩,[],0,0,0,0,0,0,0⟩:ae)).method==1) (.nd (dP e/\di e) (.br (gy e) (.nd (oR e.styl e.styl.length 0) (.lf (aB (gE 1 e.styl 0==0)))) fF)) fF)) fF
theorem od:ao Tryz.prog 14 false (az [] λ_=>.lf (aB true)):=
 aN (C:=Csa) (nL _ _) false 99 [] (λ_=>.nd (shut uR=shut uR) (.nd (shut uP=shut uP) (.br true (.br true (anD (shut Mv)) fF) fF))) (λ_ r _ h=>by
  obtain rfl:aB true=r:=h;refine⟨⟨rfl,rfl,aC rfl (aC rfl ?_)⟩,.inr rfl⟩;rw[gi];exact aC rfl ⟨⟨by decide,by decide⟩,aC rfl ⟨⟨abe,QJ⟩,aC J5 ⟨⟨by decide,by decide,rfl,by decide,λs hs=>by obtain rfl:=acb.1 hs;decide⟩,by rw[Nz];rfl⟩⟩⟩) Tryz.func14
theorem GF {P:Program} {f:FuncId} {g:ByteArray->Bool} (h:∀(s:ByteArray) (w:World),s.size<=9223372036854775807->Calls P f #[.string s] w (jk w (.bool (g s)))):ao P f false (az [(0,sS)] λ((s:ByteArray),_)=>.nd (s.size<=9223372036854775807) (.lf (aB (g s)))):=
 gQ λw S x vs r hS he hl hr=>by
  obtain⟨(s:ByteArray),_⟩:=x;obtain⟨v,h1,h2,_⟩:=he 0 (aS s) aaz;obtain⟨hs,rfl⟩:=hr
  match vs,hl,h1 with
  | [u],_,h1=>
   injection h1 with h1
   subst h1 h2;exact Calls.mono (h s w hs) λe w' ⟨e1,e2⟩=>⟨_,λ_=>False,e1,e2▸Below.refl _ _,λ_ q=>q.elim,rfl,rfl⟩
theorem mP:ao Tryz.prog 61 false (az [(0,sS)] λ((s:ByteArray),_)=>.nd (s.size<=9223372036854775807) (.lf (aB (fY s.data.toList)))):=GF KB
theorem pC:ao Tryz.prog 150 false (az [(0,sS)] λ((s:ByteArray),_)=>.nd (s.size<=9223372036854775807) (.lf (aB (iu s.data.toList)))):=GF MN
theorem T3:ao Tryz.prog 234 false (az [(0,sS)] λ((s:ByteArray),_)=>.nd (s.size<=9223372036854775807) (.lf (aB (jM s.data.toList)))):=GF FF
noncomputable def C1:eP Tryz.prog:=bA pG [⟨_,_,_,find_ok⟩,⟨_,_,_,mP⟩,⟨_,_,_,pC⟩,⟨_,_,_,T3⟩] []
theorem I8 {b y:Bool} {x:T XV} (h:b=true->x.hit (aB y)):(T.br b x (.lf (aB false))).hit (aB (b&&y)):=by
 cases b with
 | true=>exact⟨λ_=>h rfl,λe=>by cases e⟩
 | false=>exact⟨(λe=>by cases e),λ_=>rfl⟩
theorem Ai:ao Tryz.prog 153 false (az [(0,sS)] λ((s:ByteArray),_)=>.nd (s.size<=9223372036854775807) (.lf (aB (mT s)))):=
 aN (C:=C1) (nL _ _) false 99 [(0,sS)] (λ((s:ByteArray),_)=>.br (decide ((s.size:Int)>=1)) (.br (decide ((s.size:Int)<=24)) (.nd (s.size<=9223372036854775807) (.lf (aB (fY s.data.toList)))) (.lf (aB false))) (.lf (aB false)))
  (λ⟨s,_⟩ r _ ⟨hs,h⟩=>by
   obtain rfl:aB (mT s)=r:=h;exact⟨I8 λ_=>I8 λ_=>⟨hs,rfl⟩,.inr rfl⟩) Tryz.func153
theorem KL (l:List UInt8):-(6*10^l.length-6)<=l.foldl cP 0/\l.foldl cP 0<=23*10^l.length-23:=by
 have:∀k:List UInt8,-(6*10^k.reverse.length-6)<=k.reverse.foldl cP 0/\k.reverse.foldl cP 0<=23*10^k.reverse.length-23:=by
  intro k;induction k with
  | nil=>simp
  | cons x k ih=>
   rw[ab8,List.foldl_append,aaM,abA];obtain⟨P,hP⟩:∃P:Int,(10:Int)^k.reverse.length=P:=⟨_,rfl⟩;have e:(10:Int)^(k.reverse.length+1)=10*P:=by rw[Int.pow_succ,hP,Int.mul_comm]
   rw[hP] at ih;rw[e];have hx:=x.toNat_lt;show _<=10*_+(x.toNat:Int)-48/\10*_+(x.toNat:Int)-48<=_;omega
 have h:=this l.reverse
 rwa [aat] at h
theorem yc {l:List UInt8} (h:l.length<=6):-6000000<=l.foldl cP 0/\l.foldl cP 0<=23000000:=by
 have h1:=KL l;have h2:10^l.length<=10^6:=acW (by omega) h;have h3:(10:Int)^l.length=((10^l.length:Nat):Int):=by simp
 rw[h3] at h1;have h4:10^6=1000000:=by decide
 omega
theorem yN {l:List UInt8} {k:Nat} {x:UInt8} (h:l[k]?=some x) (n:Int):(l.take (k+1)).foldl cP n=10*(l.take k).foldl cP n+(x.toNat:Int)-48:=by
 rw[iQ h,List.foldl_append];rfl
theorem KJ:cL (mi C1 Tryz.f201) 0 0 [(0,sS),(4,sI),(5,sI)] [(0,sS),(4,sI)] [] λ((s:ByteArray),(n:Int),(i:Int),_)=>
 .nd (∃k:Nat,i=k/\k<=s.size/\k<=6/\(s.data.toList.take k).foldl cP 0=n) (.lf (.out (s,(cW s.data.toList).1,()))):=by
  refine fy _ (nL _ _) 99 0 0 [(0,sS),(4,sI),(5,sI)] [(0,sS),(4,sI)] [] (λ((s:ByteArray),(n:Int),(i:Int),_)=>.br (decide (i<s.size)) (.br (decide (i<6)) (.nd (cw (10*n)) (.nd (0<=i/\i<s.size) (.nd (cw (10*n+IntKind.i64.wrap (s.data.toList.getD i.toNat 0).toNat)) (.nd (cw (10*n+IntKind.i64.wrap (s.data.toList.getD i.toNat 0).toNat-48)) (.nd (cw (i+1)) (.lf (.back (s,10*n+IntKind.i64.wrap (s.data.toList.getD i.toNat 0).toNat-48,i+1,())))))))) (.lf (.out (s,n,())))) (.lf (.out (s,n,()))))
   (λ(_,_,(i:Int),_)=>6-i.toNat) ?_
  rintro⟨(s:ByteArray),n,i,_⟩ r _ ⟨⟨k,rfl,h1,h2,rfl⟩,rfl⟩;have bJ:s.data.toList.length=s.size:=abK;by_cases hi:k<s.size
  ·by_cases h6:k<6
   ·have hx:s.data.toList[k]?=some (s.data.toList.getD k 0):=by
     rw[aal,aac (by omega)];rfl
    have hb:=yc (l:=s.data.toList.take k) (by rw[abD];omega);have bX:=yc (l:=s.data.toList.take (k+1)) (by rw[abD];omega);rw[yN hx] at bX;have hc:=(s.data.toList.getD k 0).toNat_lt;have hw:IntKind.i64.wrap ((s.data.toList.getD k 0).toNat:Int)=((s.data.toList.getD k 0).toNat:Int):=by rw[IntKind.wrap_i64];omega
    refine⟨_,aC (decide_eq_true (by omega)) (aC (decide_eq_true (by omega)) ⟨⟨by omega,by omega⟩,⟨by omega,by omega⟩,?_,?_,⟨by omega,by omega⟩,rfl⟩),?_,⟨k+1,rfl,by omega,by omega,?_⟩,rfl⟩
    ·show cw (_+IntKind.i64.wrap ((s.data.toList.getD k 0).toNat:Int));rw[hw];exact⟨by omega,by omega⟩
    ·show cw (_+IntKind.i64.wrap ((s.data.toList.getD k 0).toNat:Int)-48);rw[hw];exact⟨by omega,by omega⟩
    ·show 6-(k+1)<6-k;omega
    ·rw[yN hx];show _=_+IntKind.i64.wrap ((s.data.toList.getD k 0).toNat:Int)-48;rw[hw]
   ·obtain rfl:k=6:=by omega
    exact⟨_,aC (decide_eq_true (by omega)) (aK (decide_eq_false (by omega)) rfl),rfl⟩
  ·refine⟨_,aK (decide_eq_false (by omega)) rfl,?_⟩;simp only[cW,acz (show s.data.toList.length<=6 by omega),acz (show s.data.toList.length<=k by omega)]
theorem nK:ao Tryz.prog 201 false (az [(0,sS)] λ((s:ByteArray),_)=>.nd (s.size<=9223372036854775807) (.lf (.tup [(false,[.sym (.int .i64 (cW s.data.toList).1)]),(false,[.sym (.bool (cW s.data.toList).2)])]))):=
 aN (C:=C1) ((nL _ _).add 0 _ KJ) false 99 [(0,sS)] (λ((s:ByteArray),_)=>.nd (∃k:Nat,(0:Int)=k/\k<=s.size/\k<=6/\(s.data.toList.take k).foldl cP 0=0) (.nd (s.size<=9223372036854775807) (.lf (.tup [(false,[.sym (.int .i64 (cW s.data.toList).1)]),(false,[.sym (.bool (jM s.data.toList))])]))))
  (λ⟨s,_⟩ r _ ⟨hs,h⟩=>⟨⟨⟨0,rfl,abz _,abz _,rfl⟩,hs,h⟩,.inr (by obtain rfl:=h;rfl)⟩) Tryz.func201
end Go.Proofs.YtdbpbfglhbiadaaGreatDoor
