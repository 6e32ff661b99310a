/- Tc2 Tc5 Tc6 Tc3 Tc8 Open OpnB OpnR OpnW -/
import Derived.Test.YtjlhbfbdcfajfaaGreatDoorW00
import Derived.Test.YtjlhbfbdcfajfaaGreatDoorW31
import Derived.Test.YtjlhbfbdcfajfaaGreatDoorW33
import Derived.Test.YtjlhbfbdcfajfaaGreatDoorW11
import Derived.Test.YtjlhbfbdcfajfaaGreatDoorW39
import Derived.Test.YtjlhbfbdcfajfaaGreatDoorW01
import Derived.ProofKit
import Derived.Deep.Slices
import Derived.Deep.Fields
import Derived.ChangeSame
import Derived.Test.YtjlhbfbdcfajfaaGreatDoorRows
import Derived.Test.YtjlhbfbdcfajfaaGreatDoorW22
import Derived.Test.YtjlhbfbdcfajfaaGreatDoorW15
import Derived.LaidMore
import Derived.OpenShut
import Derived.Stop.Joined
import Derived.SevenTiedAt
import Derived.Lay
import Derived.LaidOnce
import Derived.LaidLaws
import Derived.Lib.LaidU8
import Derived.Lib.AppendIntMem
import Derived.Carry
import Derived.ShutString
import Derived.ChangeOld
import Derived.Deep.DeepHandedRow
set_option maxHeartbeats 8000000
set_option maxRecDepth 100000
namespace Go.Proofs.YtjlhbfbdcfajfaaGreatDoor
open Go Go.RowKit Go.ChangeShapes Go.WideShapes Go.Deep Go.ChangeAt Go.WideMaps Go.WideElems Go.ChangeMaps
noncomputable abbrev acY:=Tryz.f13
noncomputable abbrev acZ:Rg Tryz.prog acY.ntmps:=sG C0 acY
abbrev raC:List CS:=[.d tI,.d tI,.d tI,.d tI]
abbrev RaC:=eY raC
abbrev riL:List (Nat×SS):=[(1,sD (.list (.st 11))),(5,sI),(6,sI),(7,.box 73 raC),(32,.c (.own tI 3)),(33,sI),(34,sI)]
abbrev riO:List (Nat×SS):=[(1,sD (.list (.st 11))),(5,sI),(6,sI),(7,.box 73 raC)]
abbrev RiE:=LE riL riO []
def Dc:RiE:=.ret (.one (.val (.bool false))) ()
def Ik (l:List ae) (s i:Int) (a:RaC):RiE:=.out (l,s,i,a,())
def riT (l:List ae) (s i:Int) (a:RaC) (r:List Int) (n j:Int):T RiE:=.br (decide (j<n)) (.nd (0≤j∧j<r.length) (.br (decide (r.reverse.getD j.toNat 0<0)) (.lf Dc) (.br (decide (r.reverse.getD j.toNat 0>400)) (.lf Dc) (.nd (cN (j+1)) (.lf (.back (l,s,i,a,r,n,j+1,()))))))) (.lf (Ik l s i a))
def riN (r:List Int) (n j:Int):Prop:=0≤j∧j≤r.length∧n=r.length∧r.length≤1000
theorem De:eD acZ 1 2 riL riO [] fun((l:List ae),(s:Int),(i:Int),(a:RaC),(r:List Int),(n:Int),(j:Int),_)=>.nd (riN r n j) (.br ((r.reverse.drop j.toNat).all dX) (.lf (Ik l s i a)) (.lf Dc)):=by
 refine eG _ (nL _ _) 99 1 2 riL riO [] (fun((l:List ae),(s:Int),(i:Int),(a:RaC),(r:List Int),(n:Int),(j:Int),_)=>riT l s i a r n j) (fun(_,_,_,_,(r:List Int),_,(j:Int),_)=>r.length-j.toNat) ?_;rintro⟨(l:List ae),(s:Int),(i:Int),(a:RaC),(r:List Int),(n:Int),(j:Int),_⟩ q _ ⟨⟨h0,h1,rfl,h2⟩,hq⟩;obtain⟨k,rfl⟩:∃k:Nat,j=k:=⟨j.toNat,by omega⟩;have hq:(T.br ((r.reverse.drop k).all dX) (.lf (Ik l s i a)) (.lf Dc)).hit q:=hq;show∃p,(riT l s i a r r.length k).hit p∧_;unfold riT;rw[aaR];by_cases hk:k<r.length
 ·rw[getD_drop (0:Int) (by rw[aa9];exact hk),ab0] at hq;obtain⟨v,hv⟩:∃v,r.reverse.getD k 0=v:=⟨_,rfl⟩;rw[hv] at hq ⊢;have eX:0≤(k:Int)∧(k:Int)<r.length:=⟨by omega,by omega⟩;cases hp:dX v with
  | false=>
   rw[hp,abS] at hq;refine⟨Dc,aX (decide_eq_true (by omega)) ⟨eX,?_⟩,hq.2 rfl⟩;by_cases h4:v<0
   ·exact aX (decide_eq_true h4) rfl
   ·refine bg (decide_eq_false h4) (aX (decide_eq_true ?_) rfl);have:¬(0≤v∧v≤400):=fun h=>by rw[gP.2 h] at hp;cases hp
    omega
  | true=>
   rw[hp,abO] at hq;have:=gP.1 hp;exact⟨.back (l,s,i,a,r,(r.length:Int),(k:Int)+1,()),aX (decide_eq_true (by omega)) ⟨eX,bg (decide_eq_false (by omega)) (bg (decide_eq_false (by omega)) ⟨⟨by omega,by omega⟩,rfl⟩)⟩,(by show r.length-(k+1)<r.length-k;omega),⟨by omega,by omega,rfl,h2⟩,hq⟩
 ·rw[abg (by rw[aa9];omega)] at hq;exact⟨Ik l s i a,bg (decide_eq_false (by omega)) rfl,hq.1 rfl⟩
abbrev roL:List (Nat×SS):=[(1,sD (.list (.st 11))),(5,sI),(6,sI)]
abbrev RoE:=LE roL [] []
def wo:RoE:=.ret (.one (.val (.bool false))) ()
def Nz:RoE:=.out ()
def ae.z1:ae:=⟨0,0,0,0⟩
def roB (l:List ae) (s i:Int) (a:ae):T RoE:=.nd (riN [a.cast,a.spoilt,a.issued] 3 0) (.br ([a.issued,a.spoilt,a.cast].all dX) (.br (!(a.prec==i)) (.lf wo) (.br (decide (a.cast>s)) (.lf wo) (.nd (cN (s-a.cast)) (.nd (cN (i+1)) (.lf (.back (l,s-a.cast,i+1,()))))))) (.lf wo))
def roT (l:List ae) (s i:Int):T RoE:=.br (decide (i<l.length)) (.nd (0≤i∧i<l.length) (roB l s i (l.getD i.toNat ae.z1))) (.lf Nz)
def roG (l:List ae) (s:Int) (i:Nat):T RoE:=.br (kE i s (l.drop i)) (.lf Nz) (.lf wo)
theorem NG:eD acZ 0 0 roL [] [] fun((l:List ae),(s:Int),(i:Int),_)=>.nd (0≤i∧i≤l.length∧l.length≤1099511627776∧0≤s∧s≤400) (roG l s i.toNat):=by
 refine eG _ ((nL _ _).add 1 _ De) 99 0 0 roL [] [] (fun((l:List ae),(s:Int),(i:Int),_)=>roT l s i) (fun((l:List ae),_,(i:Int),_)=>l.length-i.toNat) ?_;rintro⟨(l:List ae),(s:Int),(i:Int),_⟩ r _ ⟨⟨h0,h1,h2,h3,h4⟩,hr⟩;obtain⟨k,rfl⟩:∃k:Nat,i=k:=⟨i.toNat,by omega⟩;have hr:(roG l s k).hit r:=hr;show∃q,(roT l s k).hit q∧_;unfold roT;rw[aaR];unfold roG at hr;by_cases hk:k<l.length
 ·rw[getD_drop ae.z1 hk] at hr;obtain⟨a,ha⟩:∃a,l.getD k ae.z1=a:=⟨_,rfl⟩;rw[ha] at hr ⊢;have eX:0≤(k:Int)∧(k:Int)<l.length:=⟨by omega,by omega⟩;have Zr:riN [a.cast,a.spoilt,a.issued] 3 0:=⟨by omega,by simp,rfl,by simp⟩;rw[kE] at hr;cases h5:[a.issued,a.spoilt,a.cast].all dX with
  | false=>
   rw[h5,abS] at hr;exact⟨wo,aX (decide_eq_true (by omega)) ⟨eX,Zr,bg h5 rfl⟩,hr.2 rfl⟩
  | true=>
   rw[h5,abO] at hr;by_cases h6:a.prec=(k:Int)
   ·rw[decide_eq_true h6,abO] at hr;by_cases h7:a.cast≤s
    ·rw[decide_eq_true h7,abO] at hr;have hc:0≤a.cast:=by
      simp only[ab0,aci,acq,aba,gP] at h5;exact h5.2.2.1
     exact⟨.back (l,s-a.cast,(k:Int)+1,()),aX (decide_eq_true (by omega)) ⟨eX,Zr,aX h5 (bg (by rw[beq_iff_eq.2 h6];rfl) (bg (decide_eq_false (by omega)) ⟨⟨by omega,by omega⟩,⟨by omega,by omega⟩,rfl⟩))⟩,(by show l.length-(k+1)<l.length-k;omega),⟨by omega,by omega,h2,by omega,by omega⟩,hr⟩
    ·rw[decide_eq_false h7,abS] at hr;exact⟨wo,aX (decide_eq_true (by omega)) ⟨eX,Zr,aX h5 (bg (by rw[beq_iff_eq.2 h6];rfl) (aX (decide_eq_true (by omega)) rfl))⟩,hr.2 rfl⟩
   ·rw[decide_eq_false h6,abS] at hr;exact⟨wo,aX (decide_eq_true (by omega)) ⟨eX,Zr,aX h5 (aX (by rw[beq_eq_false_iff_ne.2 h6];rfl) rfl)⟩,hr.2 rfl⟩
 ·rw[abg (by omega)] at hr;exact⟨Nz,bg (decide_eq_false (by omega)) rfl,hr.1 rfl⟩
def rvB (e:aa) (l:List ae):T XV:=.br (!((l.length:Int)==(e.prec.length:Int))) (.lf (aB false)) (.nd ((0:Int)≤0∧(0:Int)≤l.length∧l.length≤1099511627776∧(0:Int)≤400∧(400:Int)≤400) (.br (kE (Int.toNat 0) 400 (l.drop (Int.toNat 0))) (.lf (aB true)) (.lf (aB false))))
theorem wv:av Tryz.prog 13 false (aU [(0,.st 5),(1,sD (.list (.st 11)))] fun((e:aa),(l:List ae),_)=>.nd (l.length≤1099511627776) (.lf (aB (kW e l)))):=
 bz (C:=C0) (((nL _ _).add 1 _ De).add 0 _ NG) false 99 [(0,.st 5),(1,sD (.list (.st 11)))] (fun((e:aa),(l:List ae),_)=>rvB e l)
  (fun⟨(e:aa),(l:List ae),_⟩ r _ ⟨h0,h⟩=>by
   obtain rfl:aB (kW e l)=r:=h;refine⟨?_,.inr rfl⟩;unfold kW;by_cases hl:l.length=e.prec.length
   ·rw[decide_eq_true hl,abO];refine bg (by rw[hl];simp) ⟨⟨by omega,by omega,h0,by omega,by omega⟩,?_⟩;show(T.br (kE 0 400 (l.drop 0)) (.lf (aB true)) (.lf (aB false))).hit _;rw[ab2];cases kE 0 400 l with
    | true=>exact aX rfl rfl
    | false=>exact bg rfl rfl
   ·rw[decide_eq_false hl,abS];exact aX (by simp;omega) rfl) Tryz.func13
noncomputable abbrev adm:=Tryz.f16
noncomputable abbrev aiX:Rg Tryz.prog adm.ntmps:=sG C0 adm
abbrev phL:List (Nat×SS):=[(3,sI),(6,sD (.list (.st 12))),(7,sI),(8,sI)]
abbrev PhE:=LE phL [(3,sI)] []
def phM (x:Int):Int:=if 400<(if 0>x then 0 else x) then 400 else(if 0>x then 0 else x)
def Tu (n x:Int):Int:=if 400<n+phM x then 400 else n+phM x
def cY.z:cY:=⟨0,0,0,0,0,false⟩
def phT (s:Int) (g:List cY) (n i:Int):T PhE:=.br (decide (i<n)) (.nd (0≤i∧i<g.length) (.nd (cN (s+phM (g.getD i.toNat cY.z).missing)) (.nd (cN (i+1)) (.lf (.back (Tu s (g.getD i.toNat cY.z).missing,g,n,i+1,())))))) (.lf (.out (s,())))
theorem N4 (x:Int):0≤phM x∧phM x≤400:=by unfold phM;split<;>split<;>omega
theorem Yp (n x:Int) (h:0≤n):0≤Tu n x∧Tu n x≤400:=by have:=N4 x;unfold Tu;split<;>omega
theorem N3:eD aiX 0 0 phL [(3,sI)] [] fun((s:Int),(g:List cY),(n:Int),(i:Int),_)=>.nd (0≤i∧i≤g.length∧n=g.length∧g.length≤1099511627776∧0≤s∧s≤400) (.lf (.out ((g.drop i.toNat).foldl (fun n g=>Tu n g.missing) s,()))):=by
 refine eG _ (nL _ _) 99 0 0 phL [(3,sI)] [] (fun((s:Int),(g:List cY),(n:Int),(i:Int),_)=>phT s g n i) (fun(_,(g:List cY),_,(i:Int),_)=>g.length-i.toNat) ?_;rintro⟨(s:Int),(g:List cY),(n:Int),(i:Int),_⟩ r _ ⟨⟨h0,h1,rfl,h2,h3,h4⟩,hr⟩;obtain⟨k,rfl⟩:∃k:Nat,i=k:=⟨i.toNat,by omega⟩;have hr:(LE.out ((g.drop k).foldl (fun n g=>Tu n g.missing) s,()):PhE)=r:=hr;subst hr;show∃q,(phT s g g.length k).hit q∧_;unfold phT;rw[aaR];by_cases hk:k<g.length
 ·rw[getD_drop cY.z hk];have h5:=N4 (g.getD k cY.z).missing;have h6:=Yp s (g.getD k cY.z).missing h3;exact⟨.back (Tu s (g.getD k cY.z).missing,g,(g.length:Int),(k:Int)+1,()),aX (decide_eq_true (by omega)) ⟨⟨by omega,by omega⟩,⟨by omega,by omega⟩,⟨by omega,by omega⟩,rfl⟩,(by show g.length-(k+1)<g.length-k;omega),⟨by omega,by omega,rfl,h2,h6⟩,rfl⟩
 ·rw[abg (by omega)];exact⟨.out (s,()),bg (decide_eq_false (by omega)) rfl,rfl⟩
def phR (g:List cY):Int:=g.foldl (fun n g=>Tu n g.missing) 0
theorem KL:av Tryz.prog 16 false (aU [(0,sD (.list (.st 12)))] fun((g:List cY),_)=>.nd (g.length≤1099511627776) (.lf (aI (phR g)))):=
 bz (C:=C0) ((nL _ _).add 0 _ N3) false 99 [(0,sD (.list (.st 12)))] (fun((g:List cY),_)=>.nd ((0:Int)≤0∧(0:Int)≤g.length∧(g.length:Int)=g.length∧g.length≤1099511627776∧(0:Int)≤0∧(0:Int)≤400) (.lf (aI ((g.drop (Int.toNat 0)).foldl (fun n g=>Tu n g.missing) 0))))
  (fun⟨(g:List cY),_⟩ r _ ⟨h0,h⟩=>by
   obtain rfl:aI (phR g)=r:=h;exact⟨⟨⟨by omega,by omega,rfl,h0,by omega,by omega⟩,rfl⟩,.inr rfl⟩) Tryz.func16
theorem FV:av Tryz.prog 27 false (aU [] fun _=>.lf (.agg (lJ (.st 5) eK))):=
 gD fun w S x vs r hS he hl hr=>by
  obtain rfl:=hr
  match vs,hl with
  | [],_=>exact Calls.mono Kl fun e w' ⟨v,h1,⟨cs,h2,h3⟩,hb⟩=>⟨v,cW w w',h1,hb,fun b q=>.inr q,cs,h2,kh (t:=.st 5) h3⟩
noncomputable def acJ (t:TypeId):Option Ty:=List.lookup t [(3,tI),(45,.st 12),(73,.st 11),(42,.st 13)]
noncomputable def Caw:hZ Tryz.prog:=dj acJ [⟨_,_,_,FV⟩,⟨_,_,_,yX⟩,⟨_,_,_,KL⟩] []
theorem yv:cH eK where
 dots:=⟨by decide,by decide⟩
 blank:=⟨by decide,by decide⟩
 marked:=⟨by decide,by decide⟩
 scan:=⟨by decide,by decide⟩
 batch:=⟨by decide,by decide⟩
 cell:=⟨by decide,by decide⟩
 conts:=by intro x hx;obtain rfl:=ab7.1 hx;unfold oS Fq;simp
 styls:=by intro x hx;obtain rfl:=ab7.1 hx;simp
 lc:=by simp[eK]
 ls:=by simp[eK]
 lp:=by simp[eK]
 short:=by simp[eK,Raw.short]
theorem CW:bC eK where
 title:=bp (by simp[eK,ByteArray.size])
 seed:=bp (by simp[eK,ByteArray.size])
 prec:=by intro s hs;simp only[eK,abq,abz,or_false] at hs;rcases hs with rfl|rfl<;>exact bp (by simp[ByteArray.size])
 cont:=by
  intro x hx;obtain rfl:=ab7.1 hx;refine⟨bp (by simp[ByteArray.size]),fun s hs=>?_⟩;simp only[abq,abz,or_false] at hs;rcases hs with rfl|rfl|rfl<;>exact bp (by simp[ByteArray.size])
 styl:=by intro x hx;obtain rfl:=ab7.1 hx;exact bp (by simp[ByteArray.size])
 len:=by simp[eK]
def MJ:List ae:=[⟨0,10,1,8⟩,⟨1,0,0,0⟩]
def acx:List bV:=List.replicate 7 ⟨0,.slice none 0 0,false⟩
def aF:T XV:=.lf (aB false)
def acw:T XV:=.nd ((0:Int)≤7∧(7:Int)=7∧(7:Int)*((40:Nat)+1:Int)≤281474976710656) (.nd (cH eK∧bC eK) (.br false (.br false aF aF)
 (.nd ((0:Int)≤2∧(2:Int)=2∧(2:Int)*((8:Nat)+1:Int)≤281474976710656) (.nd (rcN MJ [0,0] acx 7 0) (.br true (.nd (rgN [0,7] [] MJ 2 0) (.br true (.br true (.nd ((0:Int)≤0∧(0:Int)<2) (.br true (.nd ((2:Nat)≤1099511627776) (.lf (aB true))) aF)) aF) aF)) (.br false aF aF))))))
theorem AC:av Tryz.prog 10 false (aU [] fun _=>.lf (aB true)):=
 bz (C:=Caw) (nL _ _) false 99 [] (fun _=>acw) (fun _ r _ h=>by
  obtain rfl:aB true=r:=h;refine⟨⟨by decide,⟨yv,CW⟩,bg rfl ⟨by decide,⟨by decide,by decide,rfl,by decide,rfl,by decide⟩,aX rfl ⟨⟨by decide,by decide,rfl,by decide,rfl,rfl,by decide,?_⟩,aX rfl (aX rfl ⟨by decide,aX rfl ⟨by decide,rfl⟩⟩)⟩⟩⟩,.inr rfl⟩;intro a ha;simp only[MJ,abq,abz,or_false] at ha;rcases ha with rfl|rfl<;>decide) Tryz.func10
def ua (n:Nat):Int:=if 14<(n:Int) then 14 else n
theorem av.retV {P:Program} {f:FuncId} {al:Bool} {F:List XV→T XV} (h:av P f al F) {w:World} {S:Nat→Prop} {xs:List XV} {vs:List Value} {u:Value} (hW:Wd w) (hS:∀b,S b→b<w.heap.size) (hx:F2 (XR [] w S) xs vs) (hr:(F xs).hit (.one (.sym u))):Calls P f vs.toArray w (jQ w u):=
 Calls.mono (h w S xs vs _ hW hS hx hr) fun _ _ ⟨_,_,h1,h2,_,h3⟩=>⟨h1.trans (congrArg _ h3.1),h2⟩
theorem RS.xr {w:World} {S:Nat→Prop} {A:Option Addr} {n c:Nat} (t:Ty) {xs:List (El t)} (h:RS w S A n c xs):XR [] w S (.one (.list t xs false)) (.slice A n c):=⟨A,n,c,rfl,h,fun e=>by cases e⟩
theorem AE:∀{i:Nat} {l:List ae},gW i l=true→∀a∈l,(0≤a.issued∧a.issued≤400)∧(0≤a.spoilt∧a.spoilt≤400)∧0≤a.cast∧a.cast≤400
 | _,[],_,a,h=>by cases h
 | i,b::l,h,a,ha=>by
  simp only[gW,aba,gP] at h;rcases abq.1 ha with rfl|ha
  ·exact⟨h.2.1,h.2.2.1,h.2.2.2.1⟩
  ·exact AE h.2.2.2.2 a ha
theorem mM {e:aa} {l:List ae} (h:eI e l=true):(∀a∈l,(0≤a.issued∧a.issued≤400)∧(0≤a.spoilt∧a.spoilt≤400)∧0≤a.cast∧a.cast≤400)∧l.length=e.prec.length:=by
 unfold eI at h;simp only[aba,decide_eq_true_eq] at h;exact⟨AE h.2.2.1,h.2.1⟩
def po (e:aa) (l:List ae) (rs:List bV):List cY:=if eI e l then(if(lM rs (List.replicate l.length 0)).isSome then ii 0 l rs else[]) else[]
def uE (e:aa) (l:List ae) (rs:List bV):Int:=if eI e l then(if(lM rs (List.replicate l.length 0)).isSome then 0 else 4) else 8
def Tj (g:List cY) (f:Int):XV:=.tup [(false,[.list (.st 12) g false]),(false,[.sym (.int .i64 f)])]
theorem yZ {w:World} {S:Nat→Prop} {v:Value} {n:Int} (h:XR [] w S (NW n) v):XR [] w S (Tj [] n) v:=by
 obtain⟨vs,e,h⟩:=h;cases h with
 | cons h1 h2=>
  obtain⟨a,ha,h1⟩:=h1;obtain rfl:=List.singleton_inj.1 ha;exact⟨_,e,.cons ⟨_,rfl,none,0,0,h1.1,RS.nil _ _,fun e=>by cases e⟩ h2⟩
theorem Ky:av Tryz.prog 14 true (aU [(0,.st 5),(1,nP),(2,sD (.list (.st 13)))] fun((e:aa),(l:List ae),(rs:List bV),_)=>.nd (cH e∧bC e∧l.length≤1000∧rs.length≤1000) (.lf (Tj (po e l rs) (uE e l rs)))):=
 yX.imp fun⟨(e:aa),(l:List ae),(rs:List bV),_⟩ r ⟨⟨h0,h1,h2,h3⟩,hr⟩=>by
  obtain rfl:Tj (po e l rs) (uE e l rs)=r:=hr;show∃q,(rcM e l rs).hit q∧_;unfold rcM po uE;cases hv:eI e l with
  | false=>exact⟨NW 8,⟨⟨h0,h1⟩,aX rfl rfl⟩,fun w S v h=>yZ h⟩
  | true=>
   obtain⟨h4,h5⟩:=mM hv;have hn:rcN l (List.replicate (l.length:Int).toNat 0) rs rs.length 0:=⟨by omega,by omega,rfl,by omega,by simp,fun c hc=>by rw[(List.mem_replicate.1 hc).2];omega⟩;have hm:(l.length:Int)*((8:Nat)+1:Int)≤281474976710656:=by omega
   suffices hs:∃q,(rcF l (lM rs (List.replicate l.length 0))).hit q∧∀(w:World) (S:Nat→Prop) (v:Value),XR [] w S q v→XR [] w S (Tj (if(lM rs (List.replicate l.length 0)).isSome then ii 0 l rs else[]) (if(lM rs (List.replicate l.length 0)).isSome then 0 else 4)) v by
    obtain⟨q,q1,q2⟩:=hs;refine⟨q,⟨⟨h0,h1⟩,bg rfl ⟨⟨by omega,rfl,hm⟩,hn,?_⟩⟩,q2⟩;show(rcF l (lM rs (List.replicate l.length 0).reverse)).hit q;rw[adC];exact q1
   cases hc:lM rs (List.replicate l.length 0) with
   | none=>exact⟨NW 4,bg rfl rfl,fun w S v h=>yZ h⟩
   | some cs=>
    have hg:=LS hc;obtain⟨k1,k2⟩:=tS hc;rw[acc] at k1 k2;refine⟨Wo ((oE (Int.toNat 0) (l.drop (Int.toNat 0)) (cs.reverse.reverse.drop (Int.toNat 0))).reverse++[]),aX rfl ⟨⟨by omega,by omega,rfl,by omega,?_,rfl,?_,fun a ha=>(h4 a ha).2⟩,rfl⟩,?_⟩
    ·show cs.reverse.length=_;rw[aa9,k1]
    ·intro c Fo;have Fo:c∈cs:=act.1 Fo;obtain⟨j,hj,rfl⟩:=List.mem_iff_getElem.1 Fo;have:=k2 j (by omega);rw[aaQ,aac hj] at this;have h6:=Cb rs j;have h7:(List.replicate l.length (0:Int)).getD j 0=0:=by simp[acz];split<;>rfl
     rw[h7] at this;have this:cs[j]=0+lN rs j:=this;omega
    ·intro w S v h;rw[aa7,show Int.toNat 0=0 from rfl,ab2,ab2,hg,abZ] at h;obtain⟨vs,e,h⟩:=h;cases h with
     | cons h1 h2=>
      obtain⟨a,ha,h1⟩:=h1;obtain rfl:=List.singleton_inj.1 ha;rw[aa7] at h1;obtain⟨A,n,c,e1,e2,_⟩:=h1;exact⟨_,e,.cons ⟨_,rfl,A,n,c,e1,e2,fun e=>by cases e⟩ h2⟩
noncomputable abbrev adQ:=Tryz.f4
noncomputable def acI (t:TypeId):Option Ty:=List.lookup t [(3,tI),(45,.st 12),(30,.st 5)]
noncomputable def Clg:hZ Tryz.prog:=dj acI [⟨_,_,_,AC⟩,⟨_,_,_,Ky⟩,⟨_,_,_,wv⟩,⟨_,_,_,yO⟩,⟨_,_,_,FY⟩] []
noncomputable abbrev adS:Rg Tryz.prog adQ.ntmps:=sG Clg adQ
abbrev sGs:SS:=sD (.list (.st 12))
abbrev YZ:List (Nat×SS):=[(1,nP),(2,sD (.list (.st 13))),(3,SK),(7,sGs),(8,sI),(9,sI)]
abbrev Y0:List (Nat×SS):=[(1,nP),(2,sD (.list (.st 13))),(3,SK),(7,sGs),(8,sI),(9,sI),(40,sI),(41,sI)]
abbrev abf:=LE Y0 YZ []
def xd (l:List ae) (rs:List bV) (e:qI) (gs:List cY) (f w:Int):abf:=.out (l,rs,e,gs,f,w,())
def OS (l:List ae) (rs:List bV) (e:qI) (gs:List cY) (f w n i:Int):T abf:=.nd (cN (i+1)) (.lf (.back (l,rs,e,gs,f,w,n,i+1,())))
def YY (l:List ae) (rs:List bV) (e:qI) (gs:List cY) (f w n i:Int):T abf:=.br (decide (i<n)) (.br (w==0) (.nd (0≤i∧i<rs.length) (.br (decide ((rs.getD i.toNat bV.z).prec<0)) (OS l rs e gs f 4 n i) (.nd (0≤i∧i<rs.length) (.br (decide ((rs.getD i.toNat bV.z).prec≥e.pr.length)) (OS l rs e gs f 4 n i) (OS l rs e gs f w n i))))) (OS l rs e gs f w n i)) (.lf (xd l rs e gs f w))
def KO (n:Nat) (r:bV):Bool:=decide (r.prec<0∨(n:Int)≤r.prec)
def jq (n:Nat) (rs:List bV) (w:Int):Int:=if w=0 then(if rs.any (KO n) then 4 else 0) else w
theorem YV:eD adS 0 0 Y0 YZ [] fun((l:List ae),(rs:List bV),(e:qI),(gs:List cY),(f:Int),(w:Int),(n:Int),(i:Int),_)=>.nd (0≤i∧i≤rs.length∧n=rs.length∧rs.length≤1000) (.lf (xd l rs e gs f (jq e.pr.length (rs.drop i.toNat) w))):=by
 refine eG _ (nL _ _) 99 0 0 Y0 YZ [] (fun((l:List ae),(rs:List bV),(e:qI),(gs:List cY),(f:Int),(w:Int),(n:Int),(i:Int),_)=>YY l rs e gs f w n i) (fun(_,(rs:List bV),_,_,_,_,_,(i:Int),_)=>rs.length-i.toNat) ?_;rintro⟨(l:List ae),(rs:List bV),(e:qI),(gs:List cY),(f:Int),(w:Int),(n:Int),(i:Int),_⟩ r _ ⟨⟨h0,h1,rfl,h2⟩,hr⟩;obtain⟨k,rfl⟩:∃k:Nat,i=k:=⟨i.toNat,by omega⟩;obtain rfl:xd l rs e gs f (jq e.pr.length (rs.drop k) w)=r:=hr;show∃q,(YY l rs e gs f w rs.length k).hit q∧_;unfold YY;rw[aaR];by_cases hk:k<rs.length
 ·rw[getD_drop bV.z hk];obtain⟨a,ha⟩:∃a,rs.getD k bV.z=a:=⟨_,rfl⟩;rw[ha];have eX:0≤(k:Int)∧(k:Int)<rs.length:=⟨by omega,by omega⟩;have hb:∀w',(OS l rs e gs f w' rs.length k).hit (.back (l,rs,e,gs,f,w',(rs.length:Int),(k:Int)+1,())):=fun w'=>⟨⟨by omega,by omega⟩,rfl⟩;have fin:∀w',jq e.pr.length (rs.drop (k+1)) w'=jq e.pr.length (a::rs.drop (k+1)) w→rs.length-(k+1)<rs.length-k∧((0≤(k:Int)+1∧(k:Int)+1≤rs.length∧(rs.length:Int)=rs.length∧rs.length≤1000)∧xd l rs e gs f (jq e.pr.length (rs.drop (k+1)) w')=xd l rs e gs f (jq e.pr.length (a::rs.drop (k+1)) w)):=by
   intro w' hw;exact⟨by omega,⟨by omega,by omega,rfl,h2⟩,by rw[hw]⟩
  by_cases hw:w=0
  ·subst hw;by_cases h3:a.prec<0
   ·refine⟨_,aX (decide_eq_true (by omega)) (aX rfl ⟨eX,aX (decide_eq_true h3) (hb 4)⟩),fin 4 ?_⟩;unfold jq;rw[if_neg (by decide),if_pos rfl,acb,KO,decide_eq_true (.inl h3)];rfl
   ·by_cases h4:a.prec≥e.pr.length
    ·refine⟨_,aX (decide_eq_true (by omega)) (aX rfl ⟨eX,bg (decide_eq_false h3) ⟨eX,aX (decide_eq_true h4) (hb 4)⟩⟩),fin 4 ?_⟩;unfold jq;rw[if_neg (by decide),if_pos rfl,acb,KO,decide_eq_true (.inr h4)];rfl
    ·refine⟨_,aX (decide_eq_true (by omega)) (aX rfl ⟨eX,bg (decide_eq_false h3) ⟨eX,bg (decide_eq_false h4) (hb 0)⟩⟩),fin 0 ?_⟩;unfold jq;rw[if_pos rfl,if_pos rfl,acb,KO,decide_eq_false (by omega),acp]
  ·refine⟨_,aX (decide_eq_true (by omega)) (bg (beq_eq_false_iff_ne.2 hw) (hb w)),fin w ?_⟩;unfold jq;rw[if_neg hw,if_neg hw]
 ·refine⟨xd l rs e gs f w,bg (decide_eq_false (by omega)) rfl,?_⟩;show xd l rs e gs f w=_;rw[abg (by omega)];unfold jq;split
  ·rename_i h;rw[h];rfl
  ·rfl
abbrev YX:List (Nat×SS):=[(7,sGs),(11,sGs),(94,sI),(95,sI)]
abbrev afU:=LE YX [] []
def Qy (a b:cY):Bool:=a.prec==b.prec&&(a.papers==b.papers&&(a.recs==b.recs&&(a.missing==b.missing&&(a.extra==b.extra&&(a.unbal==b.unbal&&true)))))
theorem GI (a:cY):Qy a a=true:=by unfold Qy;simp
def cY.z1:cY:=⟨0,0,0,0,0,false⟩
def YW (gs hs:List cY) (n i:Int):T afU:=.br (decide (i<n)) (.nd (0≤i∧i<gs.length) (.nd (0≤i∧i<hs.length) (.br (true ^^ Qy (gs.getD i.toNat cY.z1) (hs.getD i.toNat cY.z1)) (.lf (.ret (.one (.val (.bool false))) ())) (.nd (cN (i+1)) (.lf (.back (gs,hs,n,i+1,()))))))) (.lf (.out ()))
theorem YU:eD adS 1 2 YX [] [] fun((gs:List cY),(hs:List cY),(n:Int),(i:Int),_)=>.nd (0≤i∧i≤gs.length∧n=gs.length∧gs.length≤1000∧hs=gs) (.lf (.out ())):=by
 refine eG _ (nL _ _) 99 1 2 YX [] [] (fun((gs:List cY),(hs:List cY),(n:Int),(i:Int),_)=>YW gs hs n i) (fun((gs:List cY),_,_,(i:Int),_)=>gs.length-i.toNat) ?_;rintro⟨(gs:List cY),(hs:List cY),(n:Int),(i:Int),_⟩ r _ ⟨⟨h0,h1,rfl,h2,rfl⟩,hr⟩;obtain⟨k,rfl⟩:∃k:Nat,i=k:=⟨i.toNat,by omega⟩;obtain rfl:(LE.out ():afU)=r:=hr;show∃q,(YW hs hs hs.length k).hit q∧_;unfold YW;rw[aaR,GI];by_cases hk:k<hs.length
 ·have eX:0≤(k:Int)∧(k:Int)<hs.length:=⟨by omega,by omega⟩;exact⟨.back (hs,hs,(hs.length:Int),(k:Int)+1,()),aX (decide_eq_true (by omega)) ⟨eX,eX,bg rfl ⟨⟨by omega,by omega⟩,rfl⟩⟩,(by show hs.length-(k+1)<hs.length-k;omega),⟨by omega,by omega,rfl,h2,rfl⟩,rfl⟩
 ·exact⟨.out (),bg (decide_eq_false (by omega)) rfl,rfl⟩
def adT (e:aa) (L:List ae) (R:List bV) (w:Int):T XV:=.br true (.br (uE e L R==w) (.lf (aB (((po e L R).length:Int)==0))) (.lf (aB false))) (.lf (aB false))
def lgY (e:aa) (L:List ae) (R:List bV) (w:Int):T XV:=.br (!(uE e L R==w)) (adT e L R w) (.br (!(uE e L R==0)) (adT e L R w) (.nd (Td L R [] 0) (.br (!(((po e L R).length:Int)==(ii 0 L R).length)) (.lf (aB false)) (.nd ((0:Int)≤0∧(0:Int)≤(po e L R).length∧((po e L R).length:Int)=(po e L R).length∧(po e L R).length≤1000∧ii 0 L R=po e L R) (.lf (aB true))))))
def lgX (e:aa) (L:List ae) (R:List bV) (w:Int):T XV:=.nd ((0:Int)≤0∧(0:Int)≤R.length∧(R.length:Int)=R.length∧R.length≤1000) (lgY e L R (jq e.prec.length (R.drop (Int.toNat 0)) w))
def lgZ (e:aa) (L:List ae) (R:List bV):T XV:=.nd (cH e∧bC e∧L.length≤1000∧R.length≤1000) (.nd (cH e∧bC e) (.br (!jT e) (lgX e L R 8) (.nd (L.length≤1099511627776) (.br (!kW e L) (lgX e L R 8) (lgX e L R 0)))))
def WF (e:aa) (l:List ae) (rs:List bV) (n m:Int):T XV:=.nd ((0:Int)≤0∧0≤n∧n≤l.length) (.nd ((0:Int)≤0∧0≤m∧m≤rs.length) (lgZ e ((l.take n.toNat).drop (Int.toNat 0)) ((rs.take m.toNat).drop (Int.toNat 0))))
def IQ (n:Nat):Int:=if 30<(n:Int) then 30 else n
theorem zY:∀(i:Nat) (l:List ae) (rs:List bV),(ii i l rs).length=l.length
 | _,[],_=>rfl
 | i,a::l,rs=>by rw[ii,abp,zY,abp]
theorem OQ {e:aa} {L:List ae} {R:List bV} (hR:R.length≤1000) (hv:eI e L=false):(lgX e L R 8).hit (aB true):=by
 have h1:uE e L R=8:=by unfold uE;rw[hv];rfl
 have h2:po e L R=[]:=by unfold po;rw[hv];rfl
 refine⟨⟨by omega,by omega,rfl,hR⟩,?_⟩;rw[show jq e.prec.length (R.drop (Int.toNat 0)) 8=8 from rfl];refine bg (by rw[h1];rfl) (aX (by rw[h1];rfl) (aX rfl (aX (by rw[h1];rfl) ?_)));rw[h2];rfl
theorem Uf {e:aa} {L:List ae} {R:List bV} (hL:L.length≤1000) (hR:R.length≤1000) (hv:eI e L=true):(lgX e L R 0).hit (aB true):=by
 obtain⟨h4,h5⟩:=mM hv;have hs:(lM R (List.replicate L.length 0)).isSome=!R.any (KO e.prec.length):=by
  rw[An,acc,h5];rfl
 refine⟨⟨by omega,by omega,rfl,hR⟩,?_⟩;show(lgY e L R (jq e.prec.length R 0)).hit _;cases ha:R.any (KO e.prec.length) with
 | true=>
  rw[ha] at hs;have h1:uE e L R=4:=by unfold uE;rw[hv,hs];rfl
  have h2:po e L R=[]:=by unfold po;rw[hv,hs];rfl
  have h3:jq e.prec.length R 0=4:=by unfold jq;rw[ha];rfl
  rw[h3];refine bg (by rw[h1];rfl) (aX (by rw[h1];rfl) (aX rfl (aX (by rw[h1];rfl) ?_)));rw[h2];rfl
 | false=>
  rw[ha] at hs;have h1:uE e L R=0:=by unfold uE;rw[hv,hs];rfl
  have h2:po e L R=ii 0 L R:=by unfold po;rw[hv,hs];rfl
  have h3:jq e.prec.length R 0=0:=by unfold jq;rw[ha];rfl
  have h6:=zY 0 L R;rw[h3];unfold lgY;rw[h2,h1];exact bg rfl (bg rfl ⟨⟨by omega,by omega,by omega,by omega,rfl,fun a ha=>(h4 a ha).2⟩,bg (by simp) ⟨⟨by omega,by omega,rfl,by omega,rfl⟩,rfl⟩⟩)
theorem lawAGT_ok:av Tryz.prog 4 false (aU [(0,.st 5),(1,nP),(2,sD (.list (.st 13)))] fun((e:aa),(_:List ae),(_:List bV),_)=>.nd (cH e∧bC e) (.lf (aB true))):=
 bz (C:=Clg) (((nL _ _).add 0 _ YV).add 1 _ YU) false 99 [(0,.st 5),(1,nP),(2,sD (.list (.st 13)))] (fun((e:aa),(l:List ae),(rs:List bV),_)=>WF e l rs (ua l.length) (IQ rs.length))
  (fun⟨(e:aa),(l:List ae),(rs:List bV),_⟩ r _ ⟨h0,h⟩=>by
   obtain rfl:aB true=r:=h;refine⟨?_,.inr rfl⟩;obtain⟨n,hn⟩:∃n,ua l.length=n:=⟨_,rfl⟩;obtain⟨m,hm⟩:∃m,IQ rs.length=m:=⟨_,rfl⟩;have h1:0≤n∧n≤l.length∧n≤14:=by rw[←hn];unfold ua;split<;>omega
   have h2:0≤m∧m≤rs.length∧m≤30:=by rw[←hm];unfold IQ;split<;>omega
   show(WF e l rs (ua l.length) (IQ rs.length)).hit _;rw[hn,hm];refine⟨⟨by omega,h1.1,h1.2.1⟩,⟨by omega,h2.1,h2.2.1⟩,?_⟩;generalize hk:(l.take n.toNat).drop (Int.toNat 0)=L;generalize hq:(rs.take m.toNat).drop (Int.toNat 0)=R;have hL:L.length≤1000:=by rw[←hk,abW,abH];omega
   have hR:R.length≤1000:=by rw[←hq,abW,abH];omega
   refine⟨⟨h0.1,h0.2,hL,hR⟩,h0,?_⟩;have hv:=oW e L;rw[←valid_eq] at hv;cases h3:jT e with
   | false=>
    rw[h3,abS] at hv;exact aX rfl (OQ hR hv)
   | true=>
    rw[h3,abO] at hv;refine bg rfl ⟨by omega,?_⟩;cases h4:kW e L with
    | false=>rw[h4] at hv;exact aX rfl (OQ hR hv)
    | true=>rw[h4] at hv;exact bg rfl (Uf hL hR hv)) Tryz.func4
theorem lawAG_any {W:World} {B:Nat} (hT:Hh B W) (hB:B≤W.heap.size) {v:Value} {e:aa} {l:List ae} {rs:List bV} {A A2:Option Addr} {n c n2 c2:Nat} (h:SV W (fun b=>b<W.heap.size) v e) (he:cH e∧bC e) (hr:RS W (fun b=>b<W.heap.size) A n c l) (hq:RS W (fun b=>b<W.heap.size) A2 n2 c2 rs):Calls Tryz.prog 4 #[v,.slice A n c,.slice A2 n2 c2] W (jQ W (.bool true)):=
 lawAGT_ok.retV (xs:=[.agg (lJ (.st 5) e),.one (.list (.st 11) l false),.one (.list (.st 13) rs false)]) (vs:=[v,.slice A n c,.slice A2 n2 c2]) ⟨B,hB,hT⟩ (fun _ h=>h) (.cons (h.xr 5) (.cons (RS.xr (.st 11) hr) (.cons (RS.xr (.st 13) hq) .nil))) (⟨he,rfl⟩:(T.nd (cH e∧bC e) (.lf (aB true))).hit (aB true))
class Fits (α:Type) where
 fits:α→Prop
instance:Fits Int:=⟨fun x=>-9223372036854775808≤x∧x≤9223372036854775807⟩
instance:Fits Bool:=⟨fun _=>True⟩
instance:Fits UInt8:=⟨fun _=>True⟩
instance:Fits ByteArray:=⟨fun s=>s.size≤9223372036854775807⟩
instance instFitsL {α:Type} [Fits α]:Fits (List α):=⟨fun l=>l.length≤9223372036854775807∧∀x∈l,Fits.fits x⟩
theorem Ei {α:Type} (n:Nat) (p:Nat→α→Prop) (h:∀i,i<n→∃a,p i a):∃l:List α,l.length=n∧∀i a,l[i]?=some a→p i a:=by
 induction n with
 | zero=>exact⟨[],rfl,fun i a hi=>by simp at hi⟩
 | succ n ih=>
  obtain⟨l,hl,hp⟩:=ih (fun i hi=>h i (by omega));obtain⟨a,ha⟩:=h n (by omega);refine⟨l++[a],by simp[hl],fun i b hi=>?_⟩;rw[List.getElem?_append] at hi;split at hi
  ·exact hp i b hi
  ·have:i=n:=by
    rcases Nat.lt_or_ge (i-l.length) 1 with h|h
    ·omega
    ·rw[abE (by simpa using h)] at hi;cases hi
   subst this;rw[hl,Nat.sub_self] at hi;simp at hi;subst hi;exact ha
class be (α:Type) where
 bulk:α→Nat
 pos:∀a,1≤bulk a
instance:be Int:=⟨fun _=>1,fun _=>abi _⟩
instance:be Bool:=⟨fun _=>1,fun _=>abi _⟩
instance:be UInt8:=⟨fun _=>1,fun _=>abi _⟩
instance:be (BitVec 32):=⟨fun _=>1,fun _=>abi _⟩
instance:be ByteArray:=⟨fun s=>s.size+1,fun _=>acW _ _⟩
def jH {α:Type} [be α] (l:List α):Nat:=(l.map be.bulk).sum
instance {α:Type} [be α]:be (List α):=⟨fun l=>jH l+1,fun _=>acW _ _⟩
instance:Fits (BitVec 32):=⟨fun _=>True⟩
theorem EM {α:Type} [be α] (l:List α):l.length≤jH l:=by
 induction l with
 | nil=>exact abi _
 | cons a l ih=>
  have:=be.pos a;show l.length+1≤be.bulk a+jH l;omega
theorem EL {α:Type} [be α] {l:List α} {a:α} (h:a∈l):be.bulk a≤jH l:=by
 induction l with
 | nil=>cases h
 | cons b l ih=>
  show _≤be.bulk b+jH l;rcases abq.1 h with rfl|h
  ·omega
  ·have:=ih h;omega
def eC (P:Program) (t:TypeId) (α:Type) [aG α] [Fits α] [be α]:Prop:=
 ∀(H:Type) (enc:TypeId×Value→H) (w:World) (base:Nat) (spare:Nat→Bool) (held:Bool) (fuel:Nat) (cs:List Value) (x:DataW H×List MemPlace),
  DataW.trod enc P w base spare held fuel t cs=some x→∃a:α,aG.rep w (fun b=>b<w.heap.size) cs a∧Fits.fits a∧be.bulk a≤Rows.uptoBulk x.1
theorem Ga {P:Program} {t:TypeId} (ht:P.underlying t=some (.int .i64)):eC P t Int:=by
 intro H enc w base spare held fuel cs x h;obtain⟨n,rfl,rfl,hw⟩:=DataW.trod_int ht h;have hw':-9223372036854775808≤n∧n≤9223372036854775807:=by simpa[Lit.wf,IntKind.min,IntKind.max,IntKind.signed,IntKind.bits] using hw
 exact⟨n,rfl,hw',by simp[Rows.uptoBulk,be.bulk]⟩
theorem Dq {P:Program} {t:TypeId} (ht:P.underlying t=some .bool):eC P t Bool:=by
 intro H enc w base spare held fuel cs x h;obtain⟨n,rfl,rfl⟩:=DataW.trod_bool ht h;exact⟨n,rfl,trivial,by simp[Rows.uptoBulk,be.bulk]⟩
theorem yy {P:Program} {t:TypeId} (ht:P.underlying t=some .string):eC P t ByteArray:=by
 intro H enc w base spare held fuel cs x h;obtain⟨s,rfl,rfl,hs⟩:=DataW.trod_string ht h;exact⟨s,rfl,by unfold maxLen at hs;exact hs,by simp[Rows.uptoBulk,be.bulk]⟩
theorem Dp {P:Program} {t:TypeId} (ht:P.underlying t=some (.int .u32)):eC P t (BitVec 32):=by
 intro H enc w base spare held fuel cs x h;obtain⟨n,rfl,rfl,hw⟩:=DataW.trod_int ht h;have hb:0≤n∧n≤4294967295:=by simpa[Lit.wf,IntKind.min,IntKind.max,IntKind.signed,IntKind.bits] using hw
 refine⟨BitVec.ofNat 32 n.toNat,?_,trivial,by simp[Rows.uptoBulk,be.bulk]⟩;show[Value.int .u32 n]=[Value.int .u32 ((BitVec.ofNat 32 n.toNat).toNat:Int)];rw[adH];congr 2
 omega
theorem xU {α H:Type} [be α]:∀(n:Nat) (l:List α) (D:Nat→DataW H),l.length=n→(∀i a,l[i]?=some a→be.bulk a≤Rows.uptoBulk (D i))→jH l≤Rows.uptoBulkAll ((List.range n).map D)
 | 0,l,D,hl,_=>by
  have:=abs hl;subst this;exact abK _
 | n+1,l,D,hl,h=>by
  cases l with
  | nil=>cases hl
  | cons a l=>
   rw[List.range_succ_eq_map,abY,List.map_map];show be.bulk a+jH l≤Rows.uptoBulk (D 0)+Rows.uptoBulkAll ((List.range n).map (D∘Nat.succ));have h1:=h 0 a rfl;have h2:=xU n l (D∘Nat.succ) (by simpa using hl) (fun i b hb=>h (i+1) b (by simpa using hb));omega
theorem fi {P:Program} {t e:TypeId} {α:Type} [aG α] [Fits α] [be α] (ht:P.underlying t=some (.slice e)) (jN:P.cellsOf e=aG.sz α) (hp:0<aG.sz α) (he:eC P e α):eC P t (List α):=by
 intro H enc w base spare held fuel cs x h;rcases open_slice ht h with⟨rfl,rfl⟩|⟨a,len,cap,m,n,D,Pl,rfl,_,hl,hm,hmm,rfl,hi⟩
 ·exact⟨[],⟨none,0,0,rfl,RS.nil _ _⟩,⟨abK _,fun x hx=>by simp at hx⟩,by simp[Rows.uptoBulk,be.bulk,jH]⟩
 ·have hlm:len≤m:=by rw[hmm];split<;>omega
  obtain⟨l,bO,hl2⟩:=Ei (α:=α) len (fun i x=>(∃cs,aG.rep w (fun b=>b<w.heap.size) cs x∧cP w (a.add (i*aG.sz α)) cs∧Fits.fits x)∧be.bulk x≤Rows.uptoBulk (D i)) (fun i Mp=>by
   obtain⟨iR,hc,UC⟩:=hi i (by omega);obtain⟨x,hx,hf,rR⟩:=he H enc w base spare held n iR _ UC;rw[jN] at hc;obtain⟨_,uZ,lQ⟩:=World.cells?_some hc;refine⟨x,⟨iR,hx,fun j u hj=>?_,hf⟩,rR⟩;have ZH:j<aG.sz α:=by
    have:=o0 hj;omega
   rw[lQ j ZH];exact hj)
  refine⟨l,⟨some a,len,cap,rfl,bO.symm,hl,hm,fun hn=>?_⟩,⟨by unfold maxLen at hm;omega,fun x hx=>?_⟩,?_⟩
  ·obtain⟨x0,jk⟩:∃x0,l[0]?=some x0:=⟨l[0]'(by omega),aac (by omega)⟩;obtain⟨⟨u3,zQ,P0,_⟩,_⟩:=hl2 0 x0 jk;have aoI:=aG.len zQ;obtain⟨u,hu⟩:∃u,u3[0]?=some u:=⟨u3[0]'(by omega),aac (by omega)⟩;have fu:=P0 0 u hu;have PY:w.cell? a=some u:=by simpa[Addr.add] using fu
   have hs:=Kb PY;have hb:=World.block_lt_of_cell? w _ PY;obtain⟨b,o,s⟩:=a;simp at hs;subst hs;exact⟨b,o,rfl,hb,fun i x hx=>by obtain⟨⟨cs,h1,h2,_⟩,_⟩:=hl2 i x hx;exact⟨cs,h1,h2⟩⟩
  ·obtain⟨i,Mp,rfl⟩:=List.getElem_of_mem hx;obtain⟨⟨cs,_,_,hf⟩,_⟩:=hl2 i _ (aac Mp);exact hf
  ·have:=xU (H:=H) len l D bO (fun i a ha=>(hl2 i a ha).2);show jH l+1≤Rows.uptoBulkAll ((List.range len).map D)+Rows.uptoBulkAll _+1;omega
theorem bP {P:Program} {H:Type} {enc:TypeId×Value→H} {w:World} {base:Nat} {spare:Nat→Bool} {held:Bool} {n:Nat} {fs:Array Field} {cs:List Value} {xs:List (DataW H×List MemPlace)} (hf:∀(i:Nat) (f:Field),fs[i]?=some f→DataW.trod enc P w base spare held n f.type ((cs.drop f.offset).take (P.cellsOf f.type))=xs[i]?) (i:Nat) {f:Field} (hi:fs[i]?=some f) (k m:Nat) (ho:f.offset=k) (hc:P.cellsOf f.type=m) (l:List Value) (hl:(cs.drop k).take m=l) (y:DataW H×List MemPlace) (hy:xs[i]?=some y):DataW.trod enc P w base spare held n f.type l=some y:=by
 have h:=hf i f hi;rw[ho,hc,hl,hy] at h;exact h
theorem aH {α:Type} {n:Nat} {l:List α} (h:l.length=n+1):∃v m,l=v::m∧m.length=n:=by
 cases l with
 | nil=>cases h
 | cons v m=>exact⟨v,m,rfl,by simpa using h⟩
theorem Tryz.opbInt:eC Tryz.prog 3 Int:=Ga Tryz.underlying3
theorem Tryz.opbBool:eC Tryz.prog 4 Bool:=Dq Tryz.underlying4
theorem Tryz.opbStr:eC Tryz.prog 9 ByteArray:=yy Tryz.underlying9
theorem Tryz.opbLimb:eC Tryz.prog 98 (BitVec 32):=Dp Tryz.underlying98
theorem Tryz.opbInts:eC Tryz.prog 84 (List Int):=fi Tryz.underlying84 (by kernel_rfl) (by show 0<1;omega) Tryz.opbInt
theorem Tryz.opbStrs:eC Tryz.prog 22 (List ByteArray):=fi Tryz.underlying22 (by kernel_rfl) (by show 0<1;omega) Tryz.opbStr
theorem Tryz.opbNat:eC Tryz.prog 26 (List (BitVec 32)):=fi Tryz.underlying26 (by kernel_rfl) (by show 0<1;omega) Tryz.opbLimb
instance:Fits Raw:=⟨fun x=>Fits.fits x.neg∧Fits.fits x.num∧Fits.fits x.den⟩
instance:be Raw:=⟨fun x=>be.bulk x.neg+be.bulk x.num+be.bulk x.den+1,fun _=>acW _ _⟩
theorem Tryz.opbRisk:eC Tryz.prog 28 Raw:=by
 intro H enc w base spare held fuel cs x h;obtain⟨xs,n,_,rfl,hl,nA,hf⟩:=DataW.trod_struct Tryz.underlying28 h;have hC:Tryz.prog.cellsOf 28=3:=by kernel_rfl
 have Qe:xs.length=3:=nA;have Lm:cs.length=3:=hl.trans hC;clear nA hl hC;obtain⟨c0,cs,rfl,Qa⟩:=aH Lm;obtain⟨c1,cs,rfl,P9⟩:=aH Qa;obtain⟨c2,cs,rfl,P8⟩:=aH P9;obtain rfl:=abs P8;obtain⟨y0,xs,rfl,Qd⟩:=aH Qe;obtain⟨y1,xs,rfl,Qc⟩:=aH Qd;obtain⟨y2,xs,rfl,Qb⟩:=aH Qc;obtain rfl:=abs Qb;have Qi:=bP hf 0 rfl 0 1 rfl (by kernel_rfl) [c0] rfl y0 rfl;obtain⟨x0,e0,f0,b0⟩:=Tryz.opbBool _ _ _ _ _ _ _ _ _ Qi;obtain rfl:c0=.bool x0:=by injection e0
 have Qh:=bP hf 1 rfl 1 1 rfl (by kernel_rfl) [c1] rfl y1 rfl;obtain⟨x1,⟨A1,n1,k1,e1,r1⟩,f1,b1⟩:=Tryz.opbNat _ _ _ _ _ _ _ _ _ Qh;obtain rfl:c1=.slice A1 n1 k1:=by injection e1
 have Qg:=bP hf 2 rfl 2 1 rfl (by kernel_rfl) [c2] rfl y2 rfl;obtain⟨x2,⟨A2,n2,k2,e2,r2⟩,f2,b2⟩:=Tryz.opbNat _ _ _ _ _ _ _ _ _ Qg;obtain rfl:c2=.slice A2 n2 k2:=by injection e2
 refine⟨⟨x0,x1,x2⟩,⟨A1,n1,k1,A2,n2,k2,rfl,r1,r2⟩,⟨f0,f1,f2⟩,?_⟩;show be.bulk x0+be.bulk x1+be.bulk x2+1≤Rows.uptoBulkAll [y0.1,y1.1,y2.1]+1;simp only[Rows.uptoBulkAll];omega
instance:Fits ai:=⟨fun x=>Fits.fits x.name∧Fits.fits x.cands∧Fits.fits x.method∧Fits.fits x.seats∧Fits.fits x.ranks∧Fits.fits x.digits∧Fits.fits x.ties∧Fits.fits x.over∧Fits.fits x.skip⟩
instance:be ai:=⟨fun x=>be.bulk x.name+be.bulk x.cands+be.bulk x.method+be.bulk x.seats+be.bulk x.ranks+be.bulk x.digits+be.bulk x.ties+be.bulk x.over+be.bulk x.skip+1,fun _=>acW _ _⟩
theorem Tryz.opbCont:eC Tryz.prog 95 ai:=by
 intro H enc w base spare held fuel cs x h;obtain⟨xs,n,_,rfl,hl,nA,hf⟩:=DataW.trod_struct Tryz.underlying95 h;have hC:Tryz.prog.cellsOf 95=9:=by kernel_rfl
 have Qe:xs.length=9:=nA;have Lm:cs.length=9:=hl.trans hC;clear nA hl hC;obtain⟨c0,cs,rfl,Qa⟩:=aH Lm;obtain⟨c1,cs,rfl,P9⟩:=aH Qa;obtain⟨c2,cs,rfl,P8⟩:=aH P9;obtain⟨c3,cs,rfl,hY4⟩:=aH P8;obtain⟨c4,cs,rfl,hY5⟩:=aH hY4;obtain⟨c5,cs,rfl,hY6⟩:=aH hY5;obtain⟨c6,cs,rfl,hY7⟩:=aH hY6;obtain⟨c7,cs,rfl,hY8⟩:=aH hY7;obtain⟨c8,cs,rfl,hY9⟩:=aH hY8;obtain rfl:=abs hY9;obtain⟨y0,xs,rfl,Qd⟩:=aH Qe;obtain⟨y1,xs,rfl,Qc⟩:=aH Qd;obtain⟨y2,xs,rfl,Qb⟩:=aH Qc;obtain⟨y3,xs,rfl,hX4⟩:=aH Qb;obtain⟨y4,xs,rfl,hX5⟩:=aH hX4;obtain⟨y5,xs,rfl,hX6⟩:=aH hX5;obtain⟨y6,xs,rfl,hX7⟩:=aH hX6;obtain⟨y7,xs,rfl,hX8⟩:=aH hX7;obtain⟨y8,xs,rfl,hX9⟩:=aH hX8;obtain rfl:=abs hX9;have Qi:=bP hf 0 rfl 0 1 rfl (by kernel_rfl) [c0] rfl y0 rfl;obtain⟨x0,e0,f0,b0⟩:=Tryz.opbStr _ _ _ _ _ _ _ _ _ Qi;obtain rfl:c0=.string x0:=by injection e0
 have Qh:=bP hf 1 rfl 1 1 rfl (by kernel_rfl) [c1] rfl y1 rfl;obtain⟨x1,⟨A1,n1,k1,e1,r1⟩,f1,b1⟩:=Tryz.opbStrs _ _ _ _ _ _ _ _ _ Qh;obtain rfl:c1=.slice A1 n1 k1:=by injection e1
 have Qg:=bP hf 2 rfl 2 1 rfl (by kernel_rfl) [c2] rfl y2 rfl;obtain⟨x2,e2,f2,b2⟩:=Tryz.opbInt _ _ _ _ _ _ _ _ _ Qg;obtain rfl:c2=.int .i64 x2:=by injection e2
 have h3a:=bP hf 3 rfl 3 1 rfl (by kernel_rfl) [c3] rfl y3 rfl;obtain⟨x3,e3,f3,b3⟩:=Tryz.opbInt _ _ _ _ _ _ _ _ _ h3a;obtain rfl:c3=.int .i64 x3:=by injection e3
 have h4a:=bP hf 4 rfl 4 1 rfl (by kernel_rfl) [c4] rfl y4 rfl;obtain⟨x4,e4,f4,b4⟩:=Tryz.opbInt _ _ _ _ _ _ _ _ _ h4a;obtain rfl:c4=.int .i64 x4:=by injection e4
 have h5a:=bP hf 5 rfl 5 1 rfl (by kernel_rfl) [c5] rfl y5 rfl;obtain⟨x5,e5,f5,b5⟩:=Tryz.opbInt _ _ _ _ _ _ _ _ _ h5a;obtain rfl:c5=.int .i64 x5:=by injection e5
 have h6a:=bP hf 6 rfl 6 1 rfl (by kernel_rfl) [c6] rfl y6 rfl;obtain⟨x6,e6,f6,b6⟩:=Tryz.opbInt _ _ _ _ _ _ _ _ _ h6a;obtain rfl:c6=.int .i64 x6:=by injection e6
 have h7a:=bP hf 7 rfl 7 1 rfl (by kernel_rfl) [c7] rfl y7 rfl;obtain⟨x7,e7,f7,b7⟩:=Tryz.opbInt _ _ _ _ _ _ _ _ _ h7a;obtain rfl:c7=.int .i64 x7:=by injection e7
 have h8a:=bP hf 8 rfl 8 1 rfl (by kernel_rfl) [c8] rfl y8 rfl;obtain⟨x8,e8,f8,b8⟩:=Tryz.opbInt _ _ _ _ _ _ _ _ _ h8a;obtain rfl:c8=.int .i64 x8:=by injection e8
 refine⟨⟨x0,x1,x2,x3,x4,x5,x6,x7,x8⟩,⟨A1,n1,k1,rfl,r1⟩,⟨f0,f1,f2,f3,f4,f5,f6,f7,f8⟩,?_⟩;show be.bulk x0+be.bulk x1+be.bulk x2+be.bulk x3+be.bulk x4+be.bulk x5+be.bulk x6+be.bulk x7+be.bulk x8+1≤Rows.uptoBulkAll [y0.1,y1.1,y2.1,y3.1,y4.1,y5.1,y6.1,y7.1,y8.1]+1;simp only[Rows.uptoBulkAll];omega
instance:Fits ax:=⟨fun x=>Fits.fits x.name∧Fits.fits x.prec∧Fits.fits x.cont⟩
instance:be ax:=⟨fun x=>be.bulk x.name+be.bulk x.prec+be.bulk x.cont+1,fun _=>acW _ _⟩
theorem Tryz.opbStyl:eC Tryz.prog 97 ax:=by
 intro H enc w base spare held fuel cs x h;obtain⟨xs,n,_,rfl,hl,nA,hf⟩:=DataW.trod_struct Tryz.underlying97 h;have hC:Tryz.prog.cellsOf 97=3:=by kernel_rfl
 have Qe:xs.length=3:=nA;have Lm:cs.length=3:=hl.trans hC;clear nA hl hC;obtain⟨c0,cs,rfl,Qa⟩:=aH Lm;obtain⟨c1,cs,rfl,P9⟩:=aH Qa;obtain⟨c2,cs,rfl,P8⟩:=aH P9;obtain rfl:=abs P8;obtain⟨y0,xs,rfl,Qd⟩:=aH Qe;obtain⟨y1,xs,rfl,Qc⟩:=aH Qd;obtain⟨y2,xs,rfl,Qb⟩:=aH Qc;obtain rfl:=abs Qb;have Qi:=bP hf 0 rfl 0 1 rfl (by kernel_rfl) [c0] rfl y0 rfl;obtain⟨x0,e0,f0,b0⟩:=Tryz.opbStr _ _ _ _ _ _ _ _ _ Qi;obtain rfl:c0=.string x0:=by injection e0
 have Qh:=bP hf 1 rfl 1 1 rfl (by kernel_rfl) [c1] rfl y1 rfl;obtain⟨x1,⟨A1,n1,k1,e1,r1⟩,f1,b1⟩:=Tryz.opbInts _ _ _ _ _ _ _ _ _ Qh;obtain rfl:c1=.slice A1 n1 k1:=by injection e1
 have Qg:=bP hf 2 rfl 2 1 rfl (by kernel_rfl) [c2] rfl y2 rfl;obtain⟨x2,⟨A2,n2,k2,e2,r2⟩,f2,b2⟩:=Tryz.opbInts _ _ _ _ _ _ _ _ _ Qg;obtain rfl:c2=.slice A2 n2 k2:=by injection e2
 refine⟨⟨x0,x1,x2⟩,⟨A1,n1,k1,A2,n2,k2,rfl,r1,r2⟩,⟨f0,f1,f2⟩,?_⟩;show be.bulk x0+be.bulk x1+be.bulk x2+1≤Rows.uptoBulkAll [y0.1,y1.1,y2.1]+1;simp only[Rows.uptoBulkAll];omega
theorem Tryz.opbConts:eC Tryz.prog 23 (List ai):=fi Tryz.underlying23 (by kernel_rfl) (by show 0<9;omega) Tryz.opbCont
theorem Tryz.opbStyls:eC Tryz.prog 24 (List ax):=fi Tryz.underlying24 (by kernel_rfl) (by show 0<3;omega) Tryz.opbStyl
instance:Fits aa:=⟨fun x=>Fits.fits x.title∧Fits.fits x.dots∧Fits.fits x.blank∧Fits.fits x.marked∧Fits.fits x.prec∧Fits.fits x.cont∧Fits.fits x.styl∧Fits.fits x.scan∧Fits.fits x.batch∧Fits.fits x.risk∧Fits.fits x.cell∧Fits.fits x.seed⟩
instance:be aa:=⟨fun x=>be.bulk x.title+be.bulk x.dots+be.bulk x.blank+be.bulk x.marked+be.bulk x.prec+be.bulk x.cont+be.bulk x.styl+be.bulk x.scan+be.bulk x.batch+be.bulk x.risk+be.bulk x.cell+be.bulk x.seed+1,fun _=>acW _ _⟩
theorem Tryz.opbElec:eC Tryz.prog 30 aa:=by
 intro H enc w base spare held fuel cs x h;obtain⟨xs,n,_,rfl,hl,nA,hf⟩:=DataW.trod_struct Tryz.underlying30 h;have hC:Tryz.prog.cellsOf 30=14:=by kernel_rfl
 have Qe:xs.length=12:=nA;have Lm:cs.length=14:=hl.trans hC;clear nA hl hC;obtain⟨c0,cs,rfl,Qa⟩:=aH Lm;obtain⟨c1,cs,rfl,P9⟩:=aH Qa;obtain⟨c2,cs,rfl,P8⟩:=aH P9;obtain⟨c3,cs,rfl,hY4⟩:=aH P8;obtain⟨c4,cs,rfl,hY5⟩:=aH hY4;obtain⟨c5,cs,rfl,hY6⟩:=aH hY5;obtain⟨c6,cs,rfl,hY7⟩:=aH hY6;obtain⟨c7,cs,rfl,hY8⟩:=aH hY7;obtain⟨c8,cs,rfl,hY9⟩:=aH hY8;obtain⟨c9,cs,rfl,ak2⟩:=aH hY9;obtain⟨c10,cs,rfl,ak1⟩:=aH ak2;obtain⟨c11,cs,rfl,ak0⟩:=aH ak1;obtain⟨c12,cs,rfl,akZ⟩:=aH ak0;obtain⟨c13,cs,rfl,akY⟩:=aH akZ;obtain rfl:=abs akY;obtain⟨y0,xs,rfl,Qd⟩:=aH Qe;obtain⟨y1,xs,rfl,Qc⟩:=aH Qd;obtain⟨y2,xs,rfl,Qb⟩:=aH Qc;obtain⟨y3,xs,rfl,hX4⟩:=aH Qb;obtain⟨y4,xs,rfl,hX5⟩:=aH hX4;obtain⟨y5,xs,rfl,hX6⟩:=aH hX5;obtain⟨y6,xs,rfl,hX7⟩:=aH hX6;obtain⟨y7,xs,rfl,hX8⟩:=aH hX7;obtain⟨y8,xs,rfl,hX9⟩:=aH hX8;obtain⟨y9,xs,rfl,alb⟩:=aH hX9;obtain⟨y10,xs,rfl,ala⟩:=aH alb;obtain⟨y11,xs,rfl,ak9⟩:=aH ala;obtain rfl:=abs ak9;have Qi:=bP hf 0 rfl 0 1 rfl (by kernel_rfl) [c0] rfl y0 rfl;obtain⟨x0,e0,f0,b0⟩:=Tryz.opbStr _ _ _ _ _ _ _ _ _ Qi;obtain rfl:c0=.string x0:=by injection e0
 have Qh:=bP hf 1 rfl 1 1 rfl (by kernel_rfl) [c1] rfl y1 rfl;obtain⟨x1,e1,f1,b1⟩:=Tryz.opbInt _ _ _ _ _ _ _ _ _ Qh;obtain rfl:c1=.int .i64 x1:=by injection e1
 have Qg:=bP hf 2 rfl 2 1 rfl (by kernel_rfl) [c2] rfl y2 rfl;obtain⟨x2,e2,f2,b2⟩:=Tryz.opbInt _ _ _ _ _ _ _ _ _ Qg;obtain rfl:c2=.int .i64 x2:=by injection e2
 have h3a:=bP hf 3 rfl 3 1 rfl (by kernel_rfl) [c3] rfl y3 rfl;obtain⟨x3,e3,f3,b3⟩:=Tryz.opbInt _ _ _ _ _ _ _ _ _ h3a;obtain rfl:c3=.int .i64 x3:=by injection e3
 have h4a:=bP hf 4 rfl 4 1 rfl (by kernel_rfl) [c4] rfl y4 rfl;obtain⟨x4,⟨A4,n4,k4,e4,r4⟩,f4,b4⟩:=Tryz.opbStrs _ _ _ _ _ _ _ _ _ h4a;obtain rfl:c4=.slice A4 n4 k4:=by injection e4
 have h5a:=bP hf 5 rfl 5 1 rfl (by kernel_rfl) [c5] rfl y5 rfl;obtain⟨x5,⟨A5,n5,k5,e5,r5⟩,f5,b5⟩:=Tryz.opbConts _ _ _ _ _ _ _ _ _ h5a;obtain rfl:c5=.slice A5 n5 k5:=by injection e5
 have h6a:=bP hf 6 rfl 6 1 rfl (by kernel_rfl) [c6] rfl y6 rfl;obtain⟨x6,⟨A6,n6,k6,e6,r6⟩,f6,b6⟩:=Tryz.opbStyls _ _ _ _ _ _ _ _ _ h6a;obtain rfl:c6=.slice A6 n6 k6:=by injection e6
 have h7a:=bP hf 7 rfl 7 1 rfl (by kernel_rfl) [c7] rfl y7 rfl;obtain⟨x7,e7,f7,b7⟩:=Tryz.opbInt _ _ _ _ _ _ _ _ _ h7a;obtain rfl:c7=.int .i64 x7:=by injection e7
 have h8a:=bP hf 8 rfl 8 1 rfl (by kernel_rfl) [c8] rfl y8 rfl;obtain⟨x8,e8,f8,b8⟩:=Tryz.opbInt _ _ _ _ _ _ _ _ _ h8a;obtain rfl:c8=.int .i64 x8:=by injection e8
 have h9a:=bP hf 9 rfl 9 3 rfl (by kernel_rfl) [c9,c10,c11] rfl y9 rfl;obtain⟨x9,⟨A9,n9,k9,B9,m9,j9,e9,r9,s9⟩,f9,b9⟩:=Tryz.opbRisk _ _ _ _ _ _ _ _ _ h9a;obtain⟨rfl,rfl,rfl⟩:c9=.bool x9.neg∧c10=.slice A9 n9 k9∧c11=.slice B9 m9 j9:=by
  injection e9 with q1 q2
  injection q2 with q2 q3
  injection q3 with q3 q4
  exact⟨q1,q2,q3⟩
 have alo:=bP hf 10 rfl 12 1 rfl (by kernel_rfl) [c12] rfl y10 rfl;obtain⟨x10,e10,f10,b10⟩:=Tryz.opbInt _ _ _ _ _ _ _ _ _ alo;obtain rfl:c12=.int .i64 x10:=by injection e10
 have aln:=bP hf 11 rfl 13 1 rfl (by kernel_rfl) [c13] rfl y11 rfl;obtain⟨x11,e11,f11,b11⟩:=Tryz.opbStr _ _ _ _ _ _ _ _ _ aln;obtain rfl:c13=.string x11:=by injection e11
 refine⟨⟨x0,x1,x2,x3,x4,x5,x6,x7,x8,x9,x10,x11⟩,⟨A4,n4,k4,A5,n5,k5,A6,n6,k6,A9,n9,k9,B9,m9,j9,rfl,r4,r5,r6,r9,s9⟩,⟨f0,f1,f2,f3,f4,f5,f6,f7,f8,f9,f10,f11⟩,?_⟩;show be.bulk x0+be.bulk x1+be.bulk x2+be.bulk x3+be.bulk x4+be.bulk x5+be.bulk x6+be.bulk x7+be.bulk x8+be.bulk x9+be.bulk x10+be.bulk x11+1≤Rows.uptoBulkAll [y0.1,y1.1,y2.1,y3.1,y4.1,y5.1,y6.1,y7.1,y8.1,y9.1,y10.1,y11.1]+1;simp only[Rows.uptoBulkAll];omega
instance:Fits ae:=⟨fun x=>Fits.fits x.prec∧Fits.fits x.issued∧Fits.fits x.spoilt∧Fits.fits x.cast⟩
instance:be ae:=⟨fun x=>be.bulk x.prec+be.bulk x.issued+be.bulk x.spoilt+be.bulk x.cast+1,fun _=>acW _ _⟩
theorem Tryz.opbAcct:eC Tryz.prog 73 ae:=by
 intro H enc w base spare held fuel cs x h;obtain⟨xs,n,_,rfl,hl,nA,hf⟩:=DataW.trod_struct Tryz.underlying73 h;have hC:Tryz.prog.cellsOf 73=4:=by kernel_rfl
 have Qe:xs.length=4:=nA;have Lm:cs.length=4:=hl.trans hC;clear nA hl hC;obtain⟨c0,cs,rfl,Qa⟩:=aH Lm;obtain⟨c1,cs,rfl,P9⟩:=aH Qa;obtain⟨c2,cs,rfl,P8⟩:=aH P9;obtain⟨c3,cs,rfl,hY4⟩:=aH P8;obtain rfl:=abs hY4;obtain⟨y0,xs,rfl,Qd⟩:=aH Qe;obtain⟨y1,xs,rfl,Qc⟩:=aH Qd;obtain⟨y2,xs,rfl,Qb⟩:=aH Qc;obtain⟨y3,xs,rfl,hX4⟩:=aH Qb;obtain rfl:=abs hX4;have Qi:=bP hf 0 rfl 0 1 rfl (by kernel_rfl) [c0] rfl y0 rfl;obtain⟨x0,e0,f0,b0⟩:=Tryz.opbInt _ _ _ _ _ _ _ _ _ Qi;obtain rfl:c0=.int .i64 x0:=by injection e0
 have Qh:=bP hf 1 rfl 1 1 rfl (by kernel_rfl) [c1] rfl y1 rfl;obtain⟨x1,e1,f1,b1⟩:=Tryz.opbInt _ _ _ _ _ _ _ _ _ Qh;obtain rfl:c1=.int .i64 x1:=by injection e1
 have Qg:=bP hf 2 rfl 2 1 rfl (by kernel_rfl) [c2] rfl y2 rfl;obtain⟨x2,e2,f2,b2⟩:=Tryz.opbInt _ _ _ _ _ _ _ _ _ Qg;obtain rfl:c2=.int .i64 x2:=by injection e2
 have h3a:=bP hf 3 rfl 3 1 rfl (by kernel_rfl) [c3] rfl y3 rfl;obtain⟨x3,e3,f3,b3⟩:=Tryz.opbInt _ _ _ _ _ _ _ _ _ h3a;obtain rfl:c3=.int .i64 x3:=by injection e3
 refine⟨⟨x0,x1,x2,x3⟩,rfl,⟨f0,f1,f2,f3⟩,?_⟩;show be.bulk x0+be.bulk x1+be.bulk x2+be.bulk x3+1≤Rows.uptoBulkAll [y0.1,y1.1,y2.1,y3.1]+1;simp only[Rows.uptoBulkAll];omega
theorem Tryz.opbAccts:eC Tryz.prog 31 (List ae):=fi Tryz.underlying31 (by kernel_rfl) (by show 0<4;omega) Tryz.opbAcct
instance:Fits abd:=⟨fun _=>True⟩
instance:be abd:=⟨fun _=>1,fun _=>abi _⟩
theorem m0 {e:aa} (hf:Fits.fits e) (hb:be.bulk e≤1048576):cH e∧bC e:=by
 obtain⟨f1,f2,f3,f4,f5,f6,f7,f8,f9,f10,f11,f12⟩:=hf;have nN:be.bulk e.title+be.bulk e.dots+be.bulk e.blank+be.bulk e.marked+be.bulk e.prec+be.bulk e.cont+be.bulk e.styl+be.bulk e.scan+be.bulk e.batch+be.bulk e.risk+be.bulk e.cell+be.bulk e.seed+1≤1048576:=hb;have str:∀{s:ByteArray},be.bulk s≤1048576→dP s:=fun {s} h=>by
  have h':s.size+1≤1048576:=h;unfold dP;omega
 have lst:∀{α:Type} [be α] {l:List α},be.bulk l≤1048576→l.length≤1048576∧∀x∈l,be.bulk x≤1048576:=fun {α} _ {l} h=>by
  have h':jH l+1≤1048576:=h;have h1:=EM l;exact⟨by omega,fun x hx=>by have:=EL hx;omega⟩
 obtain⟨lp,mp⟩:=lst (l:=e.prec) (by omega);obtain⟨lc,mc⟩:=lst (l:=e.cont) (by omega);obtain⟨ls,ms⟩:=lst (l:=e.styl) (by omega);have hr:be.bulk e.risk.neg+be.bulk e.risk.num+be.bulk e.risk.den+1≤1048576:=by
  have:be.bulk e.risk=be.bulk e.risk.neg+be.bulk e.risk.num+be.bulk e.risk.den+1:=rfl;omega
 obtain⟨ln,_⟩:=lst (l:=e.risk.num) (by omega);obtain⟨ld,_⟩:=lst (l:=e.risk.den) (by omega);have W9:∀x∈e.cont,oS x∧dP x.name∧∀s∈x.cands,dP s:=fun x hx=>by
  obtain⟨g1,g2,g3,g4,g5,g6,g7,g8,g9⟩:=f6.2 x hx;have Xa:be.bulk x.name+be.bulk x.cands+be.bulk x.method+be.bulk x.seats+be.bulk x.ranks+be.bulk x.digits+be.bulk x.ties+be.bulk x.over+be.bulk x.skip+1≤1048576:=mc x hx;obtain⟨l1,m1⟩:=lst (l:=x.cands) (by omega);exact⟨⟨g3,g4,g5,g6,g7,g8,g9,by omega⟩,str (by omega),fun s hs=>str (m1 s hs)⟩
 have Pm:∀x∈e.styl,x.prec.length≤1048576∧x.cont.length≤1048576∧dP x.name:=fun x hx=>by
  have Xa:be.bulk x.name+be.bulk x.prec+be.bulk x.cont+1≤1048576:=ms x hx;obtain⟨l1,_⟩:=lst (l:=x.prec) (by omega);obtain⟨l2,_⟩:=lst (l:=x.cont) (by omega);exact⟨l1,l2,str (by omega)⟩
 exact⟨⟨f2,f3,f4,f8,f9,f11,fun x hx=>(W9 x hx).1,fun x hx=>⟨by have:=(Pm x hx).1;omega,by have:=(Pm x hx).2.1;omega⟩,by omega,by omega,by omega,⟨by omega,by omega⟩⟩,
  ⟨str (by omega),str (by omega),fun s hs=>str (mp s hs),fun x hx=>(W9 x hx).2,fun x hx=>(Pm x hx).2.2,by omega⟩⟩
instance:Fits bV:=⟨fun _=>True⟩
instance:be bV:=⟨fun _=>1,fun _=>abi _⟩
theorem Tryz.opbRecX:eC Tryz.prog 42 bV:=by
 intro H enc w base spare held fuel cs x h;obtain⟨xs,n,_,rfl,hl,nA,hf⟩:=DataW.trod_struct Tryz.underlying42 h;have hC:Tryz.prog.cellsOf 42=3:=by kernel_rfl
 have Qe:xs.length=3:=nA;have Lm:cs.length=3:=hl.trans hC;obtain⟨c0,cs,rfl,Qa⟩:=aH Lm;obtain⟨c1,cs,rfl,P9⟩:=aH Qa;obtain⟨c2,cs,rfl,P8⟩:=aH P9;obtain rfl:=abs P8;obtain⟨y0,xs,rfl,Qd⟩:=aH Qe;obtain⟨y1,xs,rfl,Qc⟩:=aH Qd;obtain⟨y2,xs,rfl,Qb⟩:=aH Qc;obtain rfl:=abs Qb;have Qi:=bP hf 0 rfl 0 1 rfl (by kernel_rfl) [c0] rfl y0 rfl;obtain⟨x0,e0,_,_⟩:=Tryz.opbInt _ _ _ _ _ _ _ _ _ Qi;obtain rfl:c0=.int .i64 x0:=by injection e0
 have Qh:=bP hf 1 rfl 1 1 rfl (by kernel_rfl) [c1] rfl y1 rfl;obtain⟨A,m,c,rfl⟩:∃A m c,c1=.slice A m c:=by
  rcases open_slice Tryz.underlying40 Qh with⟨e,_⟩|⟨a,len,cap,_,_,_,_,e,_⟩
  ·exact⟨none,0,0,by injection e⟩
  ·exact⟨some a,len,cap,by injection e⟩
 have Qg:=bP hf 2 rfl 2 1 rfl (by kernel_rfl) [c2] rfl y2 rfl;obtain⟨x2,e2,_,_⟩:=Tryz.opbBool _ _ _ _ _ _ _ _ _ Qg;obtain rfl:c2=.bool x2:=by injection e2
 exact⟨⟨x0,.slice A m c,x2⟩,⟨rfl,rfl⟩,trivial,by show 1≤Rows.uptoBulkAll _+1;omega⟩
theorem Tryz.opbRecXs:eC Tryz.prog 35 (List bV):=fi Tryz.underlying35 (by kernel_rfl) (by show 0<3;omega) Tryz.opbRecX
theorem Tryz.own':ownKnob Tryz.prog.godebug=none:=by kernel_rfl
theorem Tryz.laidOut:laidOutB Tryz.prog=true:=by kernel_rfl
theorem M7:Rows.laid_internal_strconv_uint64pow10=(Lib.tabData .u64 Lib.pow10Tab:DataW Unit):=rfl
theorem sY {W:World} (h:Lib.VarReads Tryz.prog W "internal/strconv.uint64pow10" Rows.laid_internal_strconv_uint64pow10):Hh W.heap.size W:=by
 have hT:Lib.TabIs Tryz.prog W "internal/strconv.uint64pow10" .u64 Lib.pow10Tab:=by
  obtain⟨g,t,cs,fuel,p,hg,hty,ajG,hd⟩:=h;obtain⟨g0,hg0,ht0⟩:∃g0,Tryz.prog.globalNamed "internal/strconv.uint64pow10" =some g0∧(Tryz.prog.globals[g0]?).map (·.type)=some 257:=⟨(Tryz.prog.globalNamed "internal/strconv.uint64pow10").getD 0,by kernel_rfl,by kernel_rfl⟩;obtain rfl:=aaZ (hg.symm.trans hg0);obtain rfl:=aaZ (hty.symm.trans ht0);rw[M7] at hd;unfold Lib.TabIs;rw[ajG,←Lib.cells_of_tab Tryz.underlying257 Tryz.underlying198 (by kernel_rfl) (by kernel_rfl) hd]
 exact Lib.tabBelow_of_tabIs hT
theorem im {H:Type} {enc:TypeId×Value→H} {C:Checked} {os:Os} {f:FuncId} {fn:Func} {s:OpenSpec} {conds:List PathCond} {apart:Bool} {laid:List (String×DataW Unit)} (modest:Bool) (w0:World) (args:Array Value) (hos:w0.os=os) (Se:(w0.forCall (fun _ _=>0) ⟨#[],args,[]⟩).Shaped C.prog) (oy:Input.okWideB C.prog (w0.forCall (fun _ _=>0) ⟨#[],args,[]⟩) f ⟨#[],args,[]⟩=true) (nK:s.preRow enc C.prog fn conds apart laid (w0.forCall (fun _ _=>0) ⟨#[],args,[]⟩).memory args) : ∃(w:World) (tape:Tape) (i:Input),w.os=os∧(w.forCall tape i).Shaped C.prog∧i.vars=[]∧Input.okWide C.prog (w.forCall tape i) .any w.heap.size f i∧ s.preRow enc C.prog fn conds apart laid (w.forCall tape i).memory i.args∧({ modest:=modest }:Assume).holds C.prog (lone (Frame.enter C.prog f i.args .normal) [] (w.forCall tape i)):=
 ⟨w0,fun _ _=>0,⟨#[],args,[]⟩,hos,Se,(Input.okWide_of_okWideB (base:=0) oy).1,(Input.okWide_of_okWideB oy).2,nK,by
  simp only[Assume.holds];exact⟨by simp,by simp,fun _=>Modest.zero,by simp,by simp⟩⟩
theorem mU {H:Type} {d:DataW H} {l:List (DataW H)} (h:d∈l):Rows.uptoBulk d≤Rows.uptoBulkAll l:=by
 induction l with
 | nil=>cases h
 | cons x r ih=>
  simp only[Rows.uptoBulkAll];rcases abq.1 h with e|e
  ·subst e;omega
  ·have:=ih e;omega
end Go.Proofs.YtjlhbfbdcfajfaaGreatDoor
