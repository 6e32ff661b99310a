/- Tc9 Tc10 Tc11 Tc12 OpnU -/
import Derived.Test.YtjlhbfbdcfajfaaGreatDoorW00
import Derived.Test.YtjlhbfbdcfajfaaGreatDoorW40
import Derived.Test.YtjlhbfbdcfajfaaGreatDoorW22
set_option maxHeartbeats 8000000
set_option maxRecDepth 100000
namespace Go.Proofs.YtjlhbfbdcfajfaaGreatDoor
open Go Go.RowKit Go.ChangeShapes Go.WideShapes Go.ChangeAt Go.WideMaps Go.WideElems Go.ChangeMaps Go.Deep
def BV (n:Int):List Int:=[n/256,n%256]
def BW (a:ae):List Int:=[a.issued,a.spoilt,a.cast].flatMap BV
def jB (l:List ae):List Int:=l.flatMap BW
def Wq (n:Int):Prop:=0≤n∧n≤400
theorem hiA {n:Int} (h:Wq n):IntKind.u8.wrap (Int.fdiv n (2^min (Int.toNat 8) IntKind.i64.bits))=n/256:=by
 obtain⟨h1,h2⟩:=h;rw[show(2:Int)^min (Int.toNat 8) IntKind.i64.bits=256 from rfl,Int.fdiv_eq_ediv_of_nonneg _ (by omega),IntKind.wrap_u8];omega
theorem loA {n:Int}:IntKind.u8.wrap n=n%256:=IntKind.wrap_u8 n
theorem hiB {n:Int} (h:Wq n):IntKind.u8.wrap (IntKind.i64.wrap (Int.tdiv n 256))=n/256:=by
 obtain⟨h1,h2⟩:=h;rw[Int.tdiv_eq_ediv_of_nonneg h1,IntKind.wrap_i64,IntKind.wrap_u8];omega
theorem loB {n:Int} (h:Wq n):IntKind.u8.wrap (Int.tmod n 256)=n%256:=by
 obtain⟨h1,h2⟩:=h;rw[Int.tmod_eq_emod_of_nonneg h1,IntKind.wrap_u8];omega
abbrev Km:SS:=sD (.list (.int .u8))
abbrev Ws:SS:=.c (.own (.int .u8) 5)
noncomputable def acH (t:TypeId):Option Ty:=List.lookup t [(3,tI),(5,.int .u8),(73,.st 11)]
noncomputable def Cte:hZ Tryz.prog:=dj acH [⟨_,_,_,ya⟩] []
noncomputable abbrev aeF:=Tryz.f20
noncomputable abbrev reF:=Tryz.f22
noncomputable abbrev afL:Rg Tryz.prog aeF.ntmps:=sG Cte aeF
noncomputable abbrev adb:Rg Tryz.prog reF.ntmps:=sG Cte reF
abbrev acC:List CS:=[.d tI,.d tI,.d tI,.d tI]
abbrev AcC:=eY acC
def enN (b q:List Int) (n j:Int):Prop:=0≤j∧j≤q.length∧n=q.length∧q.length≤1000∧(∀x∈q,Wq x)∧(b.length:Int)+2*(q.length-j)≤1000000
abbrev RA:List (Nat×SS):=[(5,Ws),(7,.box 73 acC),(14,nP),(15,sI),(16,sI),(26,.c (.own tI 3)),(27,sI),(28,sI)]
abbrev Rz:List (Nat×SS):=[(5,Ws),(14,nP),(15,sI),(16,sI)]
def aa5 (b:List Int) (a:AcC) (l:List ae) (n i:Int) (q:List Int) (m j:Int):T (LE RA Rz []):=.br (decide (j<m)) (.nd (0≤j∧j<q.length) (.nd ((b.length+2)*2≤140737488355328) (.nd (cN (j+1)) (.lf (.back (IntKind.u8.wrap (q.reverse.getD j.toNat 0)::IntKind.u8.wrap (Int.fdiv (q.reverse.getD j.toNat 0) (2^min (Int.toNat 8) IntKind.i64.bits))::b,a,l,n,i,q,m,j+1,())))))) (.lf (.out (b,l,n,i,())))
theorem Ry:eD afL 1 2 RA Rz [] fun((b:List Int),_,(l:List ae),(n:Int),(i:Int),(q:List Int),(m:Int),(j:Int),_)=>.nd (enN b q m j) (.lf (.out (((q.reverse.drop j.toNat).flatMap BV).reverse++b,l,n,i,()))):=by
 refine eG _ (nL _ _) 99 1 2 RA Rz [] (fun((b:List Int),(a:AcC),(l:List ae),(n:Int),(i:Int),(q:List Int),(m:Int),(j:Int),_)=>aa5 b a l n i q m j) (fun(_,_,_,_,_,(q:List Int),_,(j:Int),_)=>q.length-j.toNat) ?_;rintro⟨(b:List Int),(a:AcC),(l:List ae),(n:Int),(i:Int),(q:List Int),(m:Int),(j:Int),_⟩ r _ ⟨⟨h0,h1,rfl,h2,h3,h4⟩,hr⟩;obtain⟨k,rfl⟩:∃k:Nat,j=k:=⟨j.toNat,by omega⟩;obtain rfl:(LE.out (((q.reverse.drop k).flatMap BV).reverse++b,l,n,i,()):LE RA Rz [])=r:=hr;show∃z,(aa5 b a l n i q q.length k).hit z∧_;unfold aa5;rw[aaR];by_cases hk:k<q.length
 ·have hk3:k<q.reverse.length:=by rw[aa9];exact hk
  rw[getD_drop (0:Int) hk3];obtain⟨x,hx⟩:∃x,q.reverse.getD k 0=x:=⟨_,rfl⟩;have hn:=h3 x (by rw[←hx,aaQ,aac hk3];exact act.1 (abI _));rw[hx,hiA hn,loA];have eX:0≤(k:Int)∧(k:Int)<q.length:=⟨by omega,by omega⟩;refine⟨.back (x%256::x/256::b,a,l,n,i,q,(q.length:Int),(k:Int)+1,()),aX (decide_eq_true (by omega)) ⟨eX,by omega,⟨by omega,by omega⟩,rfl⟩,(by show q.length-(k+1)<q.length-k;omega),⟨by omega,by omega,rfl,h2,h3,?_⟩,?_⟩
  ·show((b.length+1+1:Nat):Int)+2*(q.length-((k:Int)+1))≤1000000;omega
  ·show(LE.out (((q.reverse.drop (k+1)).flatMap BV).reverse++x%256::x/256::b,l,n,i,()):LE RA Rz [])=.out (((x::q.reverse.drop (k+1)).flatMap BV).reverse++b,l,n,i,());rw[List.flatMap_cons,adh,abD];rfl
 ·rw[abg (by rw[aa9];omega)];exact⟨.out (b,l,n,i,()),bg (decide_eq_false (by omega)) rfl,rfl⟩
abbrev NQ:List (Nat×SS):=[(3,Ws),(5,.box 73 acC),(8,nP),(9,sI),(10,sI),(20,.c (.own tI 3)),(21,sI),(22,sI)]
abbrev NP:List (Nat×SS):=[(3,Ws),(8,nP),(9,sI),(10,sI)]
def Yc (b:List Int) (a:AcC) (l:List ae) (n i:Int) (q:List Int) (m j:Int):T (LE NQ NP []):=.br (decide (j<m)) (.nd (0≤j∧j<q.length) (.nd ((b.length+2)*2≤140737488355328) (.nd (cN (j+1)) (.lf (.back (IntKind.u8.wrap (Int.tmod (q.reverse.getD j.toNat 0) 256)::IntKind.u8.wrap (IntKind.i64.wrap (Int.tdiv (q.reverse.getD j.toNat 0) 256))::b,a,l,n,i,q,m,j+1,())))))) (.lf (.out (b,l,n,i,())))
theorem NO:eD adb 1 2 NQ NP [] fun((b:List Int),_,(l:List ae),(n:Int),(i:Int),(q:List Int),(m:Int),(j:Int),_)=>.nd (enN b q m j) (.lf (.out (((q.reverse.drop j.toNat).flatMap BV).reverse++b,l,n,i,()))):=by
 refine eG _ (nL _ _) 99 1 2 NQ NP [] (fun((b:List Int),(a:AcC),(l:List ae),(n:Int),(i:Int),(q:List Int),(m:Int),(j:Int),_)=>Yc b a l n i q m j) (fun(_,_,_,_,_,(q:List Int),_,(j:Int),_)=>q.length-j.toNat) ?_;rintro⟨(b:List Int),(a:AcC),(l:List ae),(n:Int),(i:Int),(q:List Int),(m:Int),(j:Int),_⟩ r _ ⟨⟨h0,h1,rfl,h2,h3,h4⟩,hr⟩;obtain⟨k,rfl⟩:∃k:Nat,j=k:=⟨j.toNat,by omega⟩;obtain rfl:(LE.out (((q.reverse.drop k).flatMap BV).reverse++b,l,n,i,()):LE NQ NP [])=r:=hr;show∃z,(Yc b a l n i q q.length k).hit z∧_;unfold Yc;rw[aaR];by_cases hk:k<q.length
 ·have hk3:k<q.reverse.length:=by rw[aa9];exact hk
  rw[getD_drop (0:Int) hk3];obtain⟨x,hx⟩:∃x,q.reverse.getD k 0=x:=⟨_,rfl⟩;have hn:=h3 x (by rw[←hx,aaQ,aac hk3];exact act.1 (abI _));rw[hx,hiB hn,loB hn];have eX:0≤(k:Int)∧(k:Int)<q.length:=⟨by omega,by omega⟩;refine⟨.back (x%256::x/256::b,a,l,n,i,q,(q.length:Int),(k:Int)+1,()),aX (decide_eq_true (by omega)) ⟨eX,by omega,⟨by omega,by omega⟩,rfl⟩,(by show q.length-(k+1)<q.length-k;omega),⟨by omega,by omega,rfl,h2,h3,?_⟩,?_⟩
  ·show((b.length+1+1:Nat):Int)+2*(q.length-((k:Int)+1))≤1000000;omega
  ·show(LE.out (((q.reverse.drop (k+1)).flatMap BV).reverse++x%256::x/256::b,l,n,i,()):LE NQ NP [])=.out (((x::q.reverse.drop (k+1)).flatMap BV).reverse++b,l,n,i,());rw[List.flatMap_cons,adh,abD];rfl
 ·rw[abg (by rw[aa9];omega)];exact⟨.out (b,l,n,i,()),bg (decide_eq_false (by omega)) rfl,rfl⟩
def okA (a:ae):Prop:=Wq a.issued∧Wq a.spoilt∧Wq a.cast
theorem IB {a:ae} (h:okA a):∀x∈[a.cast,a.spoilt,a.issued],Wq x:=by
 intro x hx;simp only[abq,abz,or_false] at hx;rcases hx with rfl|rfl|rfl
 ·exact h.2.2
 ·exact h.2.1
 ·exact h.1
def enM (b:List Int) (l:List ae) (n i:Int):Prop:=0≤i∧i≤l.length∧n=l.length∧l.length≤1000∧(∀a∈l,okA a)∧(b.length:Int)=6*i
abbrev Me:List (Nat×SS):=[(5,Ws),(14,nP),(15,sI),(16,sI)]
abbrev Md:List (Nat×SS):=[(5,Ws)]
def ama (b:List Int) (l:List ae) (n i:Int) (a:ae):T (LE Me Md []):=.nd (enN b [a.cast,a.spoilt,a.issued] 3 0) (.nd (cN (i+1)) (.lf (.back ((BW a).reverse++b,l,n,i+1,()))))
def aa6 (b:List Int) (l:List ae) (n i:Int):T (LE Me Md []):=.br (decide (i<n)) (.nd (0≤i∧i<l.length) (ama b l n i (l.getD i.toNat ae.z0))) (.lf (.out (b,())))
theorem aa4:eD afL 0 0 Me Md [] fun((b:List Int),(l:List ae),(n:Int),(i:Int),_)=>.nd (enM b l n i) (.lf (.out ((jB (l.drop i.toNat)).reverse++b,()))):=by
 refine eG _ ((nL _ _).add 1 _ Ry) 99 0 0 Me Md [] (fun((b:List Int),(l:List ae),(n:Int),(i:Int),_)=>aa6 b l n i) (fun(_,(l:List ae),_,(i:Int),_)=>l.length-i.toNat) ?_;rintro⟨(b:List Int),(l:List ae),(n:Int),(i:Int),_⟩ r _ ⟨⟨h0,h1,rfl,h2,h3,h4⟩,hr⟩;obtain⟨k,rfl⟩:∃k:Nat,i=k:=⟨i.toNat,by omega⟩;obtain rfl:(LE.out ((jB (l.drop k)).reverse++b,()):LE Me Md [])=r:=hr;show∃z,(aa6 b l l.length k).hit z∧_;unfold aa6;rw[aaR];by_cases hk:k<l.length
 ·rw[getD_drop ae.z0 hk];obtain⟨a,ha⟩:∃a,l.getD k ae.z0=a:=⟨_,rfl⟩;have hn:=h3 a (by rw[←ha,aaQ,aac hk];exact abI hk);rw[ha];refine⟨.back ((BW a).reverse++b,l,(l.length:Int),(k:Int)+1,()),aX (decide_eq_true (by omega)) ⟨⟨by omega,by omega⟩,⟨by omega,by simp,rfl,by simp,IB hn,?_⟩,⟨by omega,by omega⟩,rfl⟩,(by show l.length-(k+1)<l.length-k;omega),⟨by omega,by omega,rfl,h2,h3,?_⟩,?_⟩
  ·show(b.length:Int)+2*((3:Int)-0)≤1000000;omega
  ·show(((BW a).reverse++b).length:Int)=6*((k:Int)+1);rw[abm];show((6+b.length:Nat):Int)=_;omega
  ·show(LE.out ((jB (l.drop (k+1))).reverse++((BW a).reverse++b),()):LE Me Md [])=.out ((jB (a::l.drop (k+1))).reverse++b,());unfold jB;rw[List.flatMap_cons,adh,abD]
 ·rw[abg (by omega)];exact⟨.out (b,()),bg (decide_eq_false (by omega)) rfl,rfl⟩
abbrev KC:List (Nat×SS):=[(3,Ws),(8,nP),(9,sI),(10,sI)]
abbrev KB:List (Nat×SS):=[(3,Ws)]
def aiJ (b:List Int) (l:List ae) (n i:Int) (a:ae):T (LE KC KB []):=.nd (enN b [a.cast,a.spoilt,a.issued] 3 0) (.nd (cN (i+1)) (.lf (.back ((BW a).reverse++b,l,n,i+1,()))))
def Yd (b:List Int) (l:List ae) (n i:Int):T (LE KC KB []):=.br (decide (i<n)) (.nd (0≤i∧i<l.length) (aiJ b l n i (l.getD i.toNat ae.z0))) (.lf (.out (b,())))
theorem Yb:eD adb 0 0 KC KB [] fun((b:List Int),(l:List ae),(n:Int),(i:Int),_)=>.nd (enM b l n i) (.lf (.out ((jB (l.drop i.toNat)).reverse++b,()))):=by
 refine eG _ ((nL _ _).add 1 _ NO) 99 0 0 KC KB [] (fun((b:List Int),(l:List ae),(n:Int),(i:Int),_)=>Yd b l n i) (fun(_,(l:List ae),_,(i:Int),_)=>l.length-i.toNat) ?_;rintro⟨(b:List Int),(l:List ae),(n:Int),(i:Int),_⟩ r _ ⟨⟨h0,h1,rfl,h2,h3,h4⟩,hr⟩;obtain⟨k,rfl⟩:∃k:Nat,i=k:=⟨i.toNat,by omega⟩;obtain rfl:(LE.out ((jB (l.drop k)).reverse++b,()):LE KC KB [])=r:=hr;show∃z,(Yd b l l.length k).hit z∧_;unfold Yd;rw[aaR];by_cases hk:k<l.length
 ·rw[getD_drop ae.z0 hk];obtain⟨a,ha⟩:∃a,l.getD k ae.z0=a:=⟨_,rfl⟩;have hn:=h3 a (by rw[←ha,aaQ,aac hk];exact abI hk);rw[ha];refine⟨.back ((BW a).reverse++b,l,(l.length:Int),(k:Int)+1,()),aX (decide_eq_true (by omega)) ⟨⟨by omega,by omega⟩,⟨by omega,by simp,rfl,by simp,IB hn,?_⟩,⟨by omega,by omega⟩,rfl⟩,(by show l.length-(k+1)<l.length-k;omega),⟨by omega,by omega,rfl,h2,h3,?_⟩,?_⟩
  ·show(b.length:Int)+2*((3:Int)-0)≤1000000;omega
  ·show(((BW a).reverse++b).length:Int)=6*((k:Int)+1);rw[abm];show((6+b.length:Nat):Int)=_;omega
  ·show(LE.out ((jB (l.drop (k+1))).reverse++((BW a).reverse++b),()):LE KC KB [])=.out ((jB (a::l.drop (k+1))).reverse++b,());unfold jB;rw[List.flatMap_cons,adh,abD]
 ·rw[abg (by omega)];exact⟨.out (b,()),bg (decide_eq_false (by omega)) rfl,rfl⟩
def QE (l:List ae):XV:=.one (.list (.int .u8) ((jB (l.drop (Int.toNat 0))).reverse++[]).reverse !((jB (l.drop (Int.toNat 0))).reverse++[]).isEmpty)
theorem Jq (l:List ae):Ht (QE l)=.one (.list (.int .u8) (jB l) false):=by
 show XV.one (.list (.int .u8) ((jB l).reverse++[]).reverse false)=_;rw[abZ,aa7]
theorem NL:av Tryz.prog 22 true (aU [(0,nP)] fun((l:List ae),_)=>.nd (l.length≤1000∧∀a∈l,okA a) (.lf (.one (.list (.int .u8) (jB l) false)))):=
 (bz (C:=Cte) (((nL _ _).add 1 _ NO).add 0 _ Yb) true 99 [(0,nP)] (G:=fun((l:List ae),_)=>.nd (l.length≤1000∧∀a∈l,okA a) (.lf (QE l))) (fun((l:List ae),_)=>.nd (enM [] l l.length 0) (.lf (QE l)))
  (fun⟨(l:List ae),_⟩ _ _ h=>⟨⟨⟨by omega,by omega,rfl,h.1.1,h.1.2,rfl⟩,h.2⟩,.inl rfl⟩) Tryz.func22).wk fun⟨(l:List ae),_⟩ r hr=>by
  obtain⟨h0,rfl⟩:=hr;exact⟨_,⟨h0,rfl⟩,Jq l⟩
theorem Rx:av Tryz.prog 20 true (aU [(0,.st 5),(1,nP)] fun((e:aa),(l:List ae),_)=>.nd (cH e∧bC e∧l.length≤1000) (.lf (.one (.list (.int .u8) (if eI e l then jB l else[]) false)))):=
 (bz (C:=Cte) (((nL _ _).add 1 _ Ry).add 0 _ aa4) true 99 [(0,.st 5),(1,nP)] (G:=fun((e:aa),(l:List ae),_)=>.nd (cH e∧bC e) (.br (!eI e l) (.lf (.one (.val (.slice none 0 0)))) (.nd (enM [] l l.length 0) (.lf (QE l))))) (fun((e:aa),(l:List ae),_)=>.nd (cH e∧bC e) (.br (!eI e l) (.lf (.one (.val (.slice none 0 0)))) (.nd (enM [] l l.length 0) (.lf (QE l)))))
  (fun _ _ _ h=>⟨h,.inl rfl⟩) Tryz.func20).imp fun⟨(e:aa),(l:List ae),_⟩ r hr=>by
  obtain⟨⟨h0,h1,h2⟩,rfl⟩:=hr;cases hv:eI e l with
  | false=>exact⟨_,⟨⟨h0,h1⟩,aX (by rw[hv];rfl) rfl⟩,fun w S v h=>⟨none,0,0,h.1,RS.nil _ _,fun e=>by cases e⟩⟩
  | true=>
   obtain⟨h4,h5⟩:=mM hv;exact⟨_,⟨⟨h0,h1⟩,bg (by rw[hv];rfl) ⟨⟨by omega,by omega,rfl,h2,fun a ha=>h4 a ha,rfl⟩,rfl⟩⟩,fun w S v h=>by have h:=sP h;rw[Jq] at h;exact h⟩
def okB (b:List Int):Prop:=∀x∈b,0≤x∧x≤255
theorem ri {b:List Int} (h:okB b) (k:Nat):0≤b.getD k 0∧b.getD k 0≤255:=by
 rw[aaQ];cases e:b[k]? with
 | none=>exact⟨by show(0:Int)≤0;omega,by show(0:Int)≤255;omega⟩
 | some x=>exact h x (ab9 e)
def orW (x y:Int):Int:=IntKind.i64.wrap ↑(BitVec.ofInt IntKind.i64.bits (IntKind.i64.wrap (IntKind.i64.wrap x*2^min (Int.toNat 8) IntKind.i64.bits))||| BitVec.ofInt IntKind.i64.bits (IntKind.i64.wrap y)).toNat
theorem Yw {x y:Int} (hx:0≤x∧x≤255) (hy:0≤y∧y≤255):orW x y=256*x+y:=by
 obtain⟨a,rfl⟩:∃a:Nat,x=a:=⟨x.toNat,by omega⟩;obtain⟨b,rfl⟩:∃b:Nat,y=b:=⟨y.toNat,by omega⟩;unfold orW;have e1:IntKind.i64.wrap (IntKind.i64.wrap (a:Int)*2^min (Int.toNat 8) IntKind.i64.bits)=((a*256:Nat):Int):=by
  rw[show(2:Int)^min (Int.toNat 8) IntKind.i64.bits=256 from rfl,IntKind.wrap_i64,IntKind.wrap_i64];omega
 have e2:IntKind.i64.wrap (b:Int)=(b:Int):=by rw[IntKind.wrap_i64];omega
 rw[e1,e2];have e3:(BitVec.ofInt IntKind.i64.bits ((a*256:Nat):Int)||| BitVec.ofInt IntKind.i64.bits (b:Int)).toNat=a*256+b:=by
  rw[BitVec.toNat_or,BitVec.ofInt_natCast,BitVec.ofInt_natCast,adH,adH,show 2^IntKind.i64.bits=18446744073709551616 from rfl,Nat.mod_eq_of_lt (by omega),Nat.mod_eq_of_lt (by omega)];have:=Nat.shiftLeft_add_eq_or_of_lt (i:=8) (show b<2^8 by omega) a;rw[Nat.shiftLeft_eq] at this;exact this.symm
 rw[e3,IntKind.wrap_i64];omega
noncomputable def CH (t:TypeId):Option Ty:=List.lookup t [(3,tI),(5,.int .u8),(73,.st 11),(49,.st 16)]
noncomputable def ang:hZ Tryz.prog:=dj CH [] []
theorem aaC:av Tryz.prog 34 false (aU [(0,sI),(1,.rf 16)] fun((i:Int),(b:T16),_)=>.nd (okB b.1∧0≤i∧i+1<b.1.length∧i≤1000) (.lf (aI (256*b.1.getD i.toNat 0+b.1.getD (i+1).toNat 0)))):=
 bz (C:=ang) (nL _ _) false 99 [(0,sI),(1,.rf 16)] (fun((i:Int),(b:T16),_)=>.nd (0≤i∧i<b.1.length) (.nd (cN (i+1)) (.nd (0≤i+1∧i+1<b.1.length) (.lf (aI (orW (b.1.getD i.toNat 0) (b.1.getD (i+1).toNat 0)))))))
  (fun⟨(i:Int),(b:T16),_⟩ r _ ⟨⟨h0,h1,h2,h3⟩,h⟩=>by
   obtain rfl:aI (256*b.1.getD i.toNat 0+b.1.getD (i+1).toNat 0)=r:=h;refine⟨⟨⟨h1,by omega⟩,⟨by omega,by omega⟩,⟨by omega,h2⟩,?_⟩,.inr rfl⟩;show aI (orW (b.1.getD i.toNat 0) (b.1.getD (i+1).toNat 0))=_;rw[Yw (ri h0 _) (ri h0 _)]) Tryz.func34
def eZ:Nat→List Int→List ae
 | i,a::b::c::d::e::f::l=>⟨i,256*a+b,256*c+d,256*e+f⟩::eZ (i+1) l
 | _,_=>[]
def oH:List Int→List Int
 | _::_::_::_::_::_::l=>oH l
 | l=>l
theorem Am:∀{i:Nat} {l:List Int},l.length<6→eZ i l=[]∧oH l=l
 | _,[],_|_,[_],_|_,[_,_],_|_,[_,_,_],_|_,[_,_,_,_],_|_,[_,_,_,_,_],_=>⟨rfl,rfl⟩
 | _,_::_::_::_::_::_::_,h=>by simp only[abp] at h;omega
theorem six {l:List Int} (h:6≤l.length):∃a b c d e f m,l=a::b::c::d::e::f::m:=by
 match l,h with
 | a::b::c::d::e::f::m,_=>exact⟨a,b,c,d,e,f,m,rfl⟩
theorem vp:∀(i:Nat) (l:List Int),(eZ i l).length=l.length/6∧(oH l).length=l.length%6
 | i,l=>by
  by_cases h:6≤l.length
  ·obtain⟨a,b,c,d,e,f,m,hm⟩:=six h;have hl:m.length<l.length:=by rw[hm];simp only[abp];omega
   obtain⟨h1,h2⟩:=vp (i+1) m;rw[hm,eZ,oH,abp,h1,h2];simp only[abp];omega
  ·obtain⟨h1,h2⟩:=Am (i:=i) (show l.length<6 by omega);rw[h1,h2,abJ];omega
termination_by _ l=>l.length
noncomputable abbrev dcF:=Tryz.f17
noncomputable def Ctd:hZ Tryz.prog:=dj CH [⟨_,_,_,aaC⟩,⟨_,_,_,ya⟩] []
noncomputable abbrev alB:Rg Tryz.prog dcF.ntmps:=sG Ctd dcF
abbrev byC:List CS:=[.d (.list (.int .u8))]
abbrev Fa:=eY byC
def Fa.of (b:List Int):Fa:=(b,())
def Fa.b (b:Fa):List Int:=b.1
abbrev oAc:SS:=.c (.own (.st 11) 73)
abbrev LL:List (Nat×SS):=[(2,SK),(3,.box 49 byC),(6,oAc)]
abbrev Mg:=LE LL LL []
def dcK (b:List Int) (i:Int) (t:T Mg):T Mg:=.nd (okB b∧0≤i∧i+1<b.length∧i≤1000) t
def dcA (i:Nat) (b:List Int):ae:=⟨i,256*b.getD (Int.toNat 0) 0+b.getD (Int.toNat (0+1)) 0,256*b.getD (Int.toNat 2) 0+b.getD (Int.toNat (2+1)) 0,256*b.getD (Int.toNat 4) 0+b.getD (Int.toNat (4+1)) 0⟩
def aaF (e:qI) (b:List Int) (o:List ae):T Mg:=.br (decide ((b.length:Int)≥6)) (dcK b 0 (dcK b 2 (dcK b 4 (.nd ((o.length+1)*33≤140737488355328) (.nd ((0:Int)≤6∧(6:Int)≤b.length∧(b.length:Int)≤b.length) (.lf (.back (e,Fa.of ((b.take (b.length:Int).toNat).drop (Int.toNat 6)),dcA o.length b::o,())))))))) (.lf (.out (e,Fa.of b,o,())))
theorem aaE:eD alB 0 0 LL LL [] fun((e:qI),(b:Fa),(o:List ae),_)=>.nd (okB b.b∧b.b.length≤1000∧o.length+b.b.length≤1000) (.lf (.out (e,Fa.of (oH b.b),(eZ o.length b.b).reverse++o,()))):=by
 refine eG _ (nL _ _) 99 0 0 LL LL [] (fun((e:qI),(b:Fa),(o:List ae),_)=>aaF e b.b o) (fun(_,(b:Fa),_,_)=>b.b.length) ?_;rintro⟨(e:qI),(b:Fa),(o:List ae),_⟩ r _ ⟨⟨h0,h1,h2⟩,hr⟩;obtain⟨b0,u⟩:=b;obtain⟨b,rfl⟩:∃b:List Int,b=b0:=⟨b0,rfl⟩;have h0:okB b:=h0;have h1:b.length≤1000:=h1;have h2:o.length+b.length≤1000:=h2;obtain rfl:(LE.out (e,Fa.of (oH b),(eZ o.length b).reverse++o,()):Mg)=r:=hr;show∃q,(aaF e b o).hit q∧_;unfold aaF;by_cases hk:6≤b.length
 ·obtain⟨x0,x1,x2,x3,x4,x5,m,hb⟩:=six hk;have hm:∀x∈m,0≤x∧x≤255:=fun x hx=>h0 x (by rw[hb];simp[hx]);have hl:b.length=m.length+6:=by rw[hb];rfl
  refine⟨.back (e,Fa.of m,dcA o.length b::o,()),aX (decide_eq_true (by omega)) ⟨⟨h0,by omega,by omega,by omega⟩,⟨h0,by omega,by omega,by omega⟩,⟨h0,by omega,by omega,by omega⟩,by omega,⟨by omega,by omega,by omega⟩,?_⟩,?_,⟨hm,?_,?_⟩,?_⟩
  ·show(LE.back (e,Fa.of ((b.take b.length).drop 6),dcA o.length b::o,()):Mg)=_;rw[List.take_length,hb];rfl
  ·show m.length<b.length;omega
  ·show m.length≤1000;omega
  ·show o.length+1+m.length≤1000;omega
  ·subst hb;show(LE.out (e,Fa.of (oH m),(eZ (o.length+1) m).reverse++dcA o.length (x0::x1::x2::x3::x4::x5::m)::o,()):Mg)=.out (e,Fa.of (oH m),((⟨o.length,256*x0+x1,256*x2+x3,256*x4+x5⟩:ae)::eZ (o.length+1) m).reverse++o,());rw[abL,abD];rfl
 ·obtain⟨e1,e2⟩:=Am (i:=o.length) (show b.length<6 by omega);rw[e1,e2];exact⟨.out (e,Fa.of b,o,()),bg (decide_eq_false (by omega)) rfl,rfl⟩
section
variable {w:World} {S:Nat→Prop} {v u:Value} {t:Ty}
theorem u9 (h:XR [] w S (.tup [(false,[.val (.slice none 0 0)]),(false,[.sym u])]) v):XR [] w S (.tup [(false,[.list t [] false]),(false,[.sym u])]) v:=by
 obtain⟨vs,e,h⟩:=h;cases h with
 | cons h1 h2=>
  obtain⟨a,ha,h1⟩:=h1;obtain rfl:=List.singleton_inj.1 ha;exact⟨_,e,.cons ⟨_,rfl,none,0,0,h1.1,RS.nil _ _,fun e=>by cases e⟩ h2⟩
end
def afn (ok:Bool) (l:List ae):XV:=.tup [(false,[.list (.st 11) l false]),(false,[.sym (.bool ok)])]
def IF:XV:=.tup [(false,[.val (.slice none 0 0)]),(false,[.sym (.bool false)])]
def SD (o:List ae):XV:=.tup [(false,[.list (.st 11) o.reverse !o.isEmpty]),(false,[.sym (.bool true)])]
def tR (e:aa) (b:List Int):Bool:=(oH b).isEmpty&&eI e (eZ 0 b)
def Jw (e:aa) (b:List Int):T XV:=.nd (okB b∧b.length≤1000∧0+b.length≤1000) (.br (decide (((oH b).length:Int)>0)) (.lf IF) (.nd (cH e∧bC e) (.br (!eI e ((eZ 0 b).reverse++[]).reverse) (.lf IF) (.lf (SD ((eZ 0 b).reverse++[]))))))
theorem RB:av Tryz.prog 17 true (aU [(0,.st 5),(1,Km)] fun((e:aa),(b:List Int),_)=>.nd (cH e∧bC e∧okB b∧b.length≤1000) (.lf (afn (tR e b) (if tR e b then eZ 0 b else[])))):=
 (bz (C:=Ctd) ((nL _ _).add 0 _ aaE) true 99 [(0,.st 5),(1,Km)] (G:=fun((e:aa),(b:List Int),_)=>Jw e b) (fun((e:aa),(b:List Int),_)=>Jw e b) (fun _ _ _ h=>⟨h,.inl rfl⟩) Tryz.func17).imp fun⟨(e:aa),(b:List Int),_⟩ r hr=>by
  obtain⟨⟨h0,h1,h2,h3⟩,rfl⟩:=hr;unfold tR;show∃q,(Jw e b).hit q∧_;unfold Jw;rw[abZ,aa7];by_cases hq:(oH b).length=0
  ·have Cs:oH b=[]:=abs hq;rw[Cs,List.isEmpty_nil,abO];cases hv:eI e (eZ 0 b) with
   | false=>exact⟨_,⟨⟨h2,h3,by omega⟩,bg rfl ⟨⟨h0,h1⟩,aX rfl rfl⟩⟩,fun w S v h=>u9 h⟩
   | true=>exact⟨_,⟨⟨h2,h3,by omega⟩,bg rfl ⟨⟨h0,h1⟩,bg rfl rfl⟩⟩,fun w S v h=>by
    have h:=sP h;rw[show Ht (SD (eZ 0 b).reverse)=.tup [(false,[.list (.st 11) (eZ 0 b).reverse.reverse false]),(false,[.sym (.bool true)])] from rfl,aa7] at h;exact h⟩
  ·have Cs:(oH b).isEmpty=false:=by cases h:oH b with|nil=>rw[h] at hq;exact absurd rfl hq|cons a l=>rfl
   rw[Cs,abS];exact⟨_,⟨⟨h2,h3,by omega⟩,aX (decide_eq_true (by omega)) rfl⟩,fun w S v h=>u9 h⟩
noncomputable abbrev e4F:=Tryz.f21
noncomputable abbrev afm:=Tryz.f19
noncomputable def Ceq:hZ Tryz.prog:=dj CH [] []
noncomputable abbrev alz:Rg Tryz.prog e4F.ntmps:=sG Ceq e4F
noncomputable abbrev afl:Rg Tryz.prog afm.ntmps:=sG Ceq afm
abbrev e4L:List (Nat×SS):=[(0,Km),(1,Km),(5,sI)]
def e4T (a b:List Int) (i:Int):T (LE e4L [] []):=.br (decide (i<a.length)) (.nd (0≤i∧i<a.length) (.nd (0≤i∧i<b.length) (.br (!(a.getD i.toNat 0==b.getD i.toNat 0)) (.lf (.ret (.one (.val (.bool false))) ())) (.nd (cN (i+1)) (.lf (.back (a,b,i+1,()))))))) (.lf (.out ()))
theorem aaz:eD alz 0 0 e4L [] [] fun((a:List Int),(b:List Int),(i:Int),_)=>.nd (0≤i∧i≤a.length∧a.length≤1099511627776∧b=a) (.lf (.out ())):=by
 refine eG _ (nL _ _) 99 0 0 e4L [] [] (fun((a:List Int),(b:List Int),(i:Int),_)=>e4T a b i) (fun((a:List Int),_,(i:Int),_)=>a.length-i.toNat) ?_;rintro⟨(a:List Int),(b:List Int),(i:Int),_⟩ r _ ⟨⟨h0,h1,h2,rfl⟩,hr⟩;obtain⟨k,rfl⟩:∃k:Nat,i=k:=⟨i.toNat,by omega⟩;obtain rfl:(LE.out ():LE e4L [] [])=r:=hr;show∃q,(e4T b b k).hit q∧_;unfold e4T;rw[beq_self_eq_true];by_cases hk:k<b.length
 ·have eX:0≤(k:Int)∧(k:Int)<b.length:=⟨by omega,by omega⟩;exact⟨.back (b,b,(k:Int)+1,()),aX (decide_eq_true (by omega)) ⟨eX,eX,bg rfl ⟨⟨by omega,by omega⟩,rfl⟩⟩,(by show b.length-(k+1)<b.length-k;omega),⟨by omega,by omega,h2,rfl⟩,rfl⟩
 ·exact⟨.out (),bg (decide_eq_false (by omega)) rfl,rfl⟩
theorem Vd:av Tryz.prog 21 false (aU [(0,Km),(1,Km)] fun((a:List Int),(b:List Int),_)=>.nd (a.length≤1099511627776∧b=a) (.lf (aB true))):=
 bz (C:=Ceq) ((nL _ _).add 0 _ aaz) false 99 [(0,Km),(1,Km)] (fun((a:List Int),(b:List Int),_)=>.br (!((a.length:Int)==b.length)) (.lf (aB false)) (.nd ((0:Int)≤0∧(0:Int)≤a.length∧a.length≤1099511627776∧b=a) (.lf (aB true))))
  (fun⟨(a:List Int),(b:List Int),_⟩ r _ ⟨⟨h0,h1⟩,h⟩=>by
   obtain rfl:aB true=r:=h;obtain rfl:b=a:=h1;exact⟨bg (by simp) ⟨⟨by omega,by omega,h0,rfl⟩,rfl⟩,.inr rfl⟩) Tryz.func21
def QC (a b:ae):Bool:=a.prec==b.prec&&(a.issued==b.issued&&(a.spoilt==b.spoilt&&(a.cast==b.cast&&true)))
theorem GK (a:ae):QC a a=true:=by unfold QC;simp
abbrev Vg:List (Nat×SS):=[(0,nP),(1,nP),(12,sI),(13,sI)]
def aaA (a b:List ae) (n i:Int):T (LE Vg [] []):=.br (decide (i<n)) (.nd (0≤i∧i<a.length) (.nd (0≤i∧i<b.length) (.br (true ^^ QC (a.getD i.toNat ae.z0) (b.getD i.toNat ae.z0)) (.lf (.ret (.one (.val (.bool false))) ())) (.nd (cN (i+1)) (.lf (.back (a,b,n,i+1,()))))))) (.lf (.out ()))
theorem Vf:eD afl 0 0 Vg [] [] fun((a:List ae),(b:List ae),(n:Int),(i:Int),_)=>.nd (0≤i∧i≤a.length∧n=a.length∧a.length≤1099511627776∧b=a) (.lf (.out ())):=by
 refine eG _ (nL _ _) 99 0 0 Vg [] [] (fun((a:List ae),(b:List ae),(n:Int),(i:Int),_)=>aaA a b n i) (fun((a:List ae),_,_,(i:Int),_)=>a.length-i.toNat) ?_;rintro⟨(a:List ae),(b:List ae),(n:Int),(i:Int),_⟩ r _ ⟨⟨h0,h1,rfl,h2,rfl⟩,hr⟩;obtain⟨k,rfl⟩:∃k:Nat,i=k:=⟨i.toNat,by omega⟩;obtain rfl:(LE.out ():LE Vg [] [])=r:=hr;show∃q,(aaA b b b.length k).hit q∧_;unfold aaA;rw[GK];by_cases hk:k<b.length
 ·have eX:0≤(k:Int)∧(k:Int)<b.length:=⟨by omega,by omega⟩;exact⟨.back (b,b,(b.length:Int),(k:Int)+1,()),aX (decide_eq_true (by omega)) ⟨eX,eX,bg rfl ⟨⟨by omega,by omega⟩,rfl⟩⟩,(by show b.length-(k+1)<b.length-k;omega),⟨by omega,by omega,rfl,h2,rfl⟩,rfl⟩
 ·exact⟨.out (),bg (decide_eq_false (by omega)) rfl,rfl⟩
theorem QD:av Tryz.prog 19 false (aU [(0,nP),(1,nP)] fun((a:List ae),(b:List ae),_)=>.nd (a.length≤1099511627776∧b=a) (.lf (aB true))):=
 bz (C:=Ceq) ((nL _ _).add 0 _ Vf) false 99 [(0,nP),(1,nP)] (fun((a:List ae),(b:List ae),_)=>.br (!((a.length:Int)==b.length)) (.lf (aB false)) (.nd ((0:Int)≤0∧(0:Int)≤a.length∧(a.length:Int)=a.length∧a.length≤1099511627776∧b=a) (.lf (aB true))))
  (fun⟨(a:List ae),(b:List ae),_⟩ r _ ⟨⟨h0,h1⟩,h⟩=>by
   obtain rfl:aB true=r:=h;obtain rfl:b=a:=h1;exact⟨bg (by simp) ⟨⟨by omega,by omega,rfl,h0,rfl⟩,rfl⟩,.inr rfl⟩) Tryz.func19
noncomputable abbrev rdF:=Tryz.f18
noncomputable def Crd:hZ Tryz.prog:=dj CH [⟨_,_,_,wv⟩] []
noncomputable abbrev aiK:Rg Tryz.prog rdF.ntmps:=sG Crd rdF
abbrev Yn:List (Nat×SS):=[(1,Km),(2,SK),(6,oAc),(7,sI)]
abbrev Ym:List (Nat×SS):=[(2,SK),(6,oAc)]
abbrev E4:=LE Yn Ym []
def wI (x:Int):Int:=IntKind.i64.wrap x
def pT (x:List Int) (k k1:Int) (t:T E4):T E4:=.nd (0≤k∧k<x.length) (.nd (cN (256*wI (x.getD k.toNat 0))) (.nd (0≤k1∧k1<x.length) (.nd (cN (256*wI (x.getD k.toNat 0)+wI (x.getD k1.toNat 0))) t)))
def bW (x:List Int) (k k1:Int):Int:=256*wI (x.getD k.toNat 0)+wI (x.getD k1.toNat 0)
theorem CB {x:List Int} (h:okB x) (k:Nat):wI (x.getD k 0)=x.getD k 0:=by
 have:=ri h k;unfold wI;rw[IntKind.wrap_i64];omega
theorem F9 {x:List Int} (h:okB x) {k k1:Int} (h1:0≤k∧k<x.length) (h2:0≤k1∧k1<x.length) {t:T E4} {r:E4} (ht:t.hit r):(pT x k k1 t).hit r:=by
 have g1:=ri h k.toNat;have g2:=ri h k1.toNat;unfold pT;rw[CB h,CB h];exact⟨h1,⟨by omega,by omega⟩,h2,⟨by omega,by omega⟩,ht⟩
def aiL (b:List Int) (e:qI) (o:List ae) (i:Int) (x:List Int):T E4:=pT x 0 1 (pT x 2 3 (pT x 4 5 (.nd ((o.length+1)*33≤140737488355328) (.nd (cN (i+1)) (.lf (.back (b,e,(⟨i,bW x 0 1,bW x 2 3,bW x 4 5⟩:ae)::o,i+1,())))))))
def Yl (b:List Int) (e:qI) (o:List ae) (i:Int):T E4:=.br (decide (i<e.pr.length)) (.nd (cN (6*i)) (.nd (cN (6*i)) (.nd (cN (6*i+6)) (.nd (0≤6*i∧6*i≤6*i+6∧6*i+6≤b.length) (aiL b e o i ((b.take (6*i+6).toNat).drop (6*i).toNat)))))) (.lf (.out (e,o,())))
def wz (b:List Int) (e:qI) (o:List ae) (k:Nat):E4:=.out (e,(eZ k (b.drop (6*k))).reverse++o,())
theorem Ye:eD aiK 0 0 Yn Ym [] fun((b:List Int),(e:qI),(o:List ae),(i:Int),_)=>.nd (okB b∧b.length=6*e.pr.length∧b.length≤1000∧0≤i∧i≤e.pr.length∧(o.length:Int)=i) (.lf (wz b e o i.toNat)):=by
 refine eG _ (nL _ _) 99 0 0 Yn Ym [] (fun((b:List Int),(e:qI),(o:List ae),(i:Int),_)=>Yl b e o i) (fun(_,(e:qI),_,(i:Int),_)=>e.pr.length-i.toNat) ?_;rintro⟨(b:List Int),(e:qI),(o:List ae),(i:Int),_⟩ r _ ⟨⟨h0,h1,h2,h3,h4,h5⟩,hr⟩;obtain⟨k,rfl⟩:∃k:Nat,i=k:=⟨i.toNat,by omega⟩;obtain rfl:wz b e o k=r:=hr;show∃q,(Yl b e o k).hit q∧_;unfold Yl;by_cases hk:k<e.pr.length
 ·obtain⟨x0,x1,x2,x3,x4,x5,m,hm⟩:=six (l:=b.drop (6*k)) (by rw[abW];omega);have hd:b.drop (6*(k+1))=m:=by
   rw[show 6*(k+1)=6*k+6 by omega,←ad5,hm];rfl
  have hx:(b.take (6*(k:Int)+6).toNat).drop (6*(k:Int)).toNat=[x0,x1,x2,x3,x4,x5]:=by
   rw[show(6*(k:Int)+6).toNat=6*k+6 by omega,show(6*(k:Int)).toNat=6*k by omega,List.drop_take,hm,show 6*k+6-6*k=6 by omega];rfl
  have oy:okB [x0,x1,x2,x3,x4,x5]:=fun x hx'=>h0 x (List.mem_of_mem_drop (i:=6*k) (by rw[hm];simp only[abq,abz,or_false] at hx' ⊢;rcases hx' with h|h|h|h|h|h<;>simp[h]));rw[hx];refine⟨.back (b,e,(⟨k,bW [x0,x1,x2,x3,x4,x5] 0 1,bW [x0,x1,x2,x3,x4,x5] 2 3,bW [x0,x1,x2,x3,x4,x5] 4 5⟩:ae)::o,(k:Int)+1,()),aX (decide_eq_true (by omega)) ⟨⟨by omega,by omega⟩,⟨by omega,by omega⟩,⟨by omega,by omega⟩,⟨by omega,by omega,by omega⟩,F9 oy (by simp) (by simp) (F9 oy (by simp) (by simp) (F9 oy (by simp) (by simp) ⟨by omega,⟨by omega,by omega⟩,rfl⟩))⟩,(by show e.pr.length-(k+1)<e.pr.length-k;omega),⟨h0,h1,h2,by omega,by omega,(show((o.length+1:Nat):Int)=(k:Int)+1 by omega)⟩,?_⟩;show wz b e (_::o) (k+1)=wz b e o k;unfold wz bW;rw[CB oy,CB oy,CB oy,CB oy,CB oy,CB oy,hd,hm,eZ,abL,abD];rfl
 ·refine⟨.out (e,o,()),bg (decide_eq_false (by omega)) rfl,?_⟩;show(LE.out (e,o,()):E4)=wz b e o k;unfold wz;rw[abg (by omega)];rfl
def F5 (e:aa) (b:List Int):Bool:=decide (b.length=6*e.prec.length)&&kW e (eZ 0 b)
def rdQ (b:List Int):List ae:=(eZ (Int.toNat 0) (b.drop (6*Int.toNat 0))).reverse++[]
theorem NS (b:List Int):(rdQ b).reverse=eZ 0 b:=by
 show((eZ 0 b).reverse++[]).reverse=_;rw[abZ,aa7]
def Io (e:aa) (b:List Int):T XV:=.nd (cN (6*e.prec.length)) (.br (!((b.length:Int)==6*e.prec.length)) (.lf IF) (.nd (okB b∧b.length=6*e.prec.length∧b.length≤1000∧(0:Int)≤0∧(0:Int)≤e.prec.length∧(([]:List ae).length:Int)=0) (.nd ((rdQ b).reverse.length≤1099511627776) (.br (!kW e (rdQ b).reverse) (.lf IF) (.lf (SD (rdQ b)))))))
theorem NR:av Tryz.prog 18 true (aU [(0,.st 5),(1,Km)] fun((e:aa),(b:List Int),_)=>.nd (cH e∧okB b∧b.length≤1000) (.lf (afn (F5 e b) (if F5 e b then eZ 0 b else[])))):=
 (bz (C:=Crd) ((nL _ _).add 0 _ Ye) true 99 [(0,.st 5),(1,Km)] (G:=fun((e:aa),(b:List Int),_)=>Io e b) (fun((e:aa),(b:List Int),_)=>Io e b) (fun _ _ _ h=>⟨h,.inl rfl⟩) Tryz.func18).imp fun⟨(e:aa),(b:List Int),_⟩ r hr=>by
  obtain⟨⟨h0,h2,h3⟩,rfl⟩:=hr;have hlp:=h0.lp;unfold F5;show∃q,(Io e b).hit q∧_;unfold Io;rw[NS];have hi:cN (6*e.prec.length):=⟨by omega,by omega⟩;by_cases hl:b.length=6*e.prec.length
  ·rw[decide_eq_true hl,abO];have hn:=(vp 0 b).1;have hc:(eZ 0 b).length≤1099511627776:=by omega
   have hb:(!((b.length:Int)==6*e.prec.length))=false:=by rw[hl];simp
   cases hv:kW e (eZ 0 b) with
   | false=>exact⟨_,⟨hi,bg hb ⟨⟨h2,hl,h3,by omega,by omega,rfl⟩,hc,aX rfl rfl⟩⟩,fun w S v h=>u9 h⟩
   | true=>exact⟨_,⟨hi,bg hb ⟨⟨h2,hl,h3,by omega,by omega,rfl⟩,hc,bg rfl rfl⟩⟩,fun w S v h=>by
    have h:=sP h;rw[show Ht (SD (rdQ b))=.tup [(false,[.list (.st 11) (rdQ b).reverse false]),(false,[.sym (.bool true)])] from rfl,NS] at h;exact h⟩
  ·rw[decide_eq_false hl,abS];have hb:(!((b.length:Int)==6*e.prec.length))=true:=by
    have:¬(b.length:Int)=6*e.prec.length:=by omega
    simp[this]
   exact⟨_,⟨hi,aX hb rfl⟩,fun w S v h=>u9 h⟩
noncomputable def Cld:hZ Tryz.prog:=dj CH [⟨_,_,_,AC⟩,⟨_,_,_,RB⟩,⟨_,_,_,NR⟩,⟨_,_,_,QD⟩,⟨_,_,_,Vd⟩,⟨_,_,_,yO⟩,⟨_,_,_,wv⟩,⟨_,_,_,Rx⟩,⟨_,_,_,NL⟩] []
def Sx (e:aa) (B:List Int):List ae:=if tR e B then eZ 0 B else[]
def NT (e:aa) (B:List Int):List ae:=if F5 e B then eZ 0 B else[]
def ldZ (e:aa) (B:List Int):T XV:=.nd (cH e∧bC e∧okB B∧B.length≤1000) (.nd (cH e∧bC e) (.br (!jT e) (.br true (.br (!tR e B) (.lf (aB (((Sx e B).length:Int)==0))) (.lf (aB false))) (.lf (aB false))) (.nd (cH e∧okB B∧B.length≤1000) (.br true (.br (tR e B==F5 e B) (.nd ((Sx e B).length≤1099511627776∧NT e B=Sx e B) (.lf (aB true))) (.lf (aB false))) (.lf (aB false))))))
def IP (n:Nat):Int:=if 80<(n:Int) then 80 else n
def WG (e:aa) (b:List Int) (n:Int):T XV:=.nd ((0:Int)≤0∧0≤n∧n≤b.length) (ldZ e ((b.take n.toNat).drop (Int.toNat 0)))
theorem Vo {e:aa} {B:List Int} (hv:iV e=true):tR e B=F5 e B:=by
 unfold tR F5;rw[oW,hv,abO];obtain⟨h1,h2⟩:=vp 0 B;cases hr:kW e (eZ 0 B) with
 | false=>rw[adz,adz]
 | true=>
  rw[acq,acq];have h3:(eZ 0 B).length=e.prec.length:=by
   unfold kW at hr;rw[aba,decide_eq_true_eq] at hr;exact hr.1
  by_cases hl:B.length=6*e.prec.length
  ·rw[decide_eq_true hl];have:(oH B).length=0:=by omega
   rw[abs this];rfl
  ·rw[decide_eq_false hl];cases hq:oH B with
   | nil=>rw[hq,abJ] at h2;omega
   | cons a l=>rfl
theorem lawADT_ok:av Tryz.prog 7 false (aU [(0,.st 5),(1,Km)] fun((e:aa),(b:List Int),_)=>.nd (cH e∧bC e∧okB b) (.lf (aB true))):=
 bz (C:=Cld) (nL _ _) false 99 [(0,.st 5),(1,Km)] (fun((e:aa),(b:List Int),_)=>WG e b (IP b.length))
  (fun⟨(e:aa),(b:List Int),_⟩ r _ ⟨⟨h0,h1,h2⟩,h⟩=>by
   obtain rfl:aB true=r:=h;refine⟨?_,.inr rfl⟩;obtain⟨n,hn⟩:∃n,IP b.length=n:=⟨_,rfl⟩;have h3:0≤n∧n≤b.length∧n≤80:=by rw[←hn];unfold IP;split<;>omega
   show(WG e b (IP b.length)).hit _;rw[hn];refine⟨⟨by omega,h3.1,h3.2.1⟩,?_⟩;have hB:okB ((b.take n.toNat).drop (Int.toNat 0)):=fun x hx=>h2 x (List.mem_of_mem_take (List.mem_of_mem_drop hx));have hL:((b.take n.toNat).drop (Int.toNat 0)).length≤80:=by rw[abW,abH];omega
   generalize (b.take n.toNat).drop (Int.toNat 0)=B at hB hL;refine⟨⟨h0,h1,hB,by omega⟩,⟨h0,h1⟩,?_⟩;cases hv:jT e with
   | false=>
    have hd:tR e B=false:=by unfold tR;rw[oW,←valid_eq,hv,abS,adz]
    refine aX rfl (aX rfl (aX (by rw[hd];rfl) ?_));unfold Sx;rw[hd];rfl
   | true=>
    have hd:=Vo (B:=B) (by rw[←valid_eq];exact hv);have hl:=(vp 0 B).1;refine bg rfl ⟨⟨h0,hB,by omega⟩,aX rfl (aX (by rw[hd,beq_self_eq_true]) ⟨⟨?_,?_⟩,rfl⟩)⟩
    ·unfold Sx;split
     ·omega
     ·exact abK _
    ·unfold Sx NT;rw[hd]) Tryz.func7
def xG (e:aa) (L:List ae):List Int:=if eI e L then jB L else[]
def lcN (e:aa) (L:List ae):T XV:=.br true (.lf (aB (((xG e L).length:Int)==0))) (.lf (aB false))
def lcY (e:aa) (L:List ae):T XV:=.nd (cH e∧bC e∧okB (xG e L)∧(xG e L).length≤1000) (.br true (.nd (L.length≤1000∧∀a∈L,okA a) (.nd ((xG e L).length≤1099511627776∧jB L=xG e L) (.br true (.br (tR e (xG e L)) (.nd ((Sx e (xG e L)).length≤1099511627776∧L=Sx e (xG e L)) (.lf (aB true))) (.lf (aB false))) (.lf (aB false))))) (.lf (aB false)))
def lcZ (e:aa) (L:List ae):T XV:=.nd (cH e∧bC e∧L.length≤1000) (.nd (cH e∧bC e) (.br (!jT e) (lcN e L) (.nd (L.length≤1099511627776) (.br (!kW e L) (lcN e L) (lcY e L)))))
def WJ (e:aa) (l:List ae) (n:Int):T XV:=.nd ((0:Int)≤0∧0≤n∧n≤l.length) (lcZ e ((l.take n.toNat).drop (Int.toNat 0)))
theorem Jv:∀{i:Nat} {L:List ae},gW i L=true→eZ i (jB L)=L∧oH (jB L)=[]∧okB (jB L)∧(jB L).length=6*L.length
 | _,[],_=>⟨rfl,rfl,(fun x hx=>by cases hx),rfl⟩
 | i,a::L,h=>by
  simp only[gW,aba,gP,decide_eq_true_eq] at h;obtain⟨h1,h2,h3,h4,h5⟩:=h;obtain⟨k1,k2,k3,k4⟩:=Jv h5;have e1:jB (a::L)=a.issued/256::a.issued%256::a.spoilt/256::a.spoilt%256::a.cast/256::a.cast%256::jB L:=rfl;rw[e1];refine⟨?_,k2,?_,?_⟩
  ·rw[eZ,k1,show 256*(a.issued/256)+a.issued%256=a.issued by omega,show 256*(a.spoilt/256)+a.spoilt%256=a.spoilt by omega,show 256*(a.cast/256)+a.cast%256=a.cast by omega,←h1]
  ·intro x hx;simp only[abq] at hx;rcases hx with rfl|rfl|rfl|rfl|rfl|rfl|hx
   ·omega
   ·omega
   ·omega
   ·omega
   ·omega
   ·omega
   ·exact k3 x hx
  ·simp only[abp];omega
theorem lawACT_ok:av Tryz.prog 8 false (aU [(0,.st 5),(1,nP)] fun((e:aa),(_:List ae),_)=>.nd (cH e∧bC e) (.lf (aB true))):=
 bz (C:=Cld) (nL _ _) false 99 [(0,.st 5),(1,nP)] (fun((e:aa),(l:List ae),_)=>WJ e l (ua l.length))
  (fun⟨(e:aa),(l:List ae),_⟩ r _ ⟨⟨h0,h1⟩,h⟩=>by
   obtain rfl:aB true=r:=h;refine⟨?_,.inr rfl⟩;obtain⟨n,hn⟩:∃n,ua l.length=n:=⟨_,rfl⟩;have h3:0≤n∧n≤l.length∧n≤14:=by rw[←hn];unfold ua;split<;>omega
   show(WJ e l (ua l.length)).hit _;rw[hn];refine⟨⟨by omega,h3.1,h3.2.1⟩,?_⟩;have hL:((l.take n.toNat).drop (Int.toNat 0)).length≤14:=by rw[abW,abH];omega
   generalize (l.take n.toNat).drop (Int.toNat 0)=L at hL;have BC:=oW e L;rw[←valid_eq] at BC;have Fh:eI e L=false→(lcN e L).hit (aB true):=fun hv=>by
    refine aX rfl ?_;unfold xG;rw[hv];rfl
   refine⟨⟨h0,h1,by omega⟩,⟨h0,h1⟩,?_⟩;cases hv:jT e with
   | false=>exact aX rfl (Fh (by rw[BC,hv,abS]))
   | true=>
    refine bg rfl ⟨by omega,?_⟩;cases hr:kW e L with
    | false=>exact aX rfl (Fh (by rw[BC,hr,adz]))
    | true=>
     rw[hv,hr,acq] at BC;have hac:gW 0 L=true:=by
      unfold eI at BC;simp only[aba] at BC;exact BC.2.2.1
     obtain⟨k1,k2,k3,k4⟩:=Jv hac;have he:xG e L=jB L:=by unfold xG;rw[BC];rfl
     have hd:tR e (jB L)=true:=by unfold tR;rw[k1,k2,BC];rfl
     have hdo:Sx e (jB L)=L:=by unfold Sx;rw[hd,k1];rfl
     refine bg rfl ?_;unfold lcY;rw[he,hdo];exact⟨⟨h0,h1,k3,by omega⟩,aX rfl ⟨⟨by omega,fun a ha=>(mM BC).1 a ha⟩,⟨by omega,rfl⟩,aX rfl (aX hd ⟨⟨by omega,rfl⟩,rfl⟩)⟩⟩) Tryz.func8
theorem lawAD_any {W:World} {B:Nat} (hT:Hh B W) (hB:B≤W.heap.size) {v:Value} {e:aa} {b:List Int} {A:Option Addr} {n c:Nat} (h:SV W (fun b=>b<W.heap.size) v e) (he:cH e∧bC e) (hb:okB b) (hr:@RS Int (qh .u8) W (fun b=>b<W.heap.size) A n c b):Calls Tryz.prog 7 #[v,.slice A n c] W (jQ W (.bool true)):=
 lawADT_ok.retV (xs:=[.agg (lJ (.st 5) e),.one (.list (.int .u8) b false)]) (vs:=[v,.slice A n c]) ⟨B,hB,hT⟩ (fun _ h=>h) (.cons (h.xr 5) (.cons (RS.xr (.int .u8) hr) .nil)) (⟨⟨he.1,he.2,hb⟩,rfl⟩:(T.nd (cH e∧bC e∧okB b) (.lf (aB true))).hit (aB true))
theorem lawAC_any {W:World} {B:Nat} (hT:Hh B W) (hB:B≤W.heap.size) {v:Value} {e:aa} {l:List ae} {A:Option Addr} {n c:Nat} (h:SV W (fun b=>b<W.heap.size) v e) (he:cH e∧bC e) (hr:RS W (fun b=>b<W.heap.size) A n c l):Calls Tryz.prog 8 #[v,.slice A n c] W (jQ W (.bool true)):=
 lawACT_ok.retV (xs:=[.agg (lJ (.st 5) e),.one (.list (.st 11) l false)]) (vs:=[v,.slice A n c]) ⟨B,hB,hT⟩ (fun _ h=>h) (.cons (h.xr 5) (.cons (RS.xr (.st 11) hr) .nil)) (⟨he,rfl⟩:(T.nd (cH e∧bC e) (.lf (aB true))).hit (aB true))
abbrev Qr:Fits Int:=⟨fun x=>0≤x∧x≤255⟩
theorem Tryz.opbU8:@eC Tryz.prog 5 Int (qh .u8) Qr inferInstance:=by
 intro H enc w base spare held fuel cs x h;obtain⟨n,rfl,rfl,hw⟩:=DataW.trod_int Tryz.underlying5 h;have hw':0≤n∧n≤255:=by simpa[Lit.wf,IntKind.min,IntKind.max,IntKind.signed,IntKind.bits] using hw
 exact⟨n,rfl,hw',by simp[Rows.uptoBulk,be.bulk]⟩
theorem Tryz.opbU8s:@eC Tryz.prog 49 (List Int) (@instRepList Int (qh .u8)) (@instFitsL Int Qr) inferInstance:=@fi _ _ _ Int (qh .u8) Qr inferInstance Tryz.underlying49 (by kernel_rfl) (by show 0<1;omega) Tryz.opbU8
end Go.Proofs.YtjlhbfbdcfajfaaGreatDoor
