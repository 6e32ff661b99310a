/- Sb1 Open OpnB OpnW -/
import Derived.Test.YtdbpbfglhbiadaaGreatDoorH00
import Derived.Test.YtdbpbfglhbiadaaGreatDoorH35
import Derived.Test.YtdbpbfglhbiadaaGreatDoorH40
import Derived.Test.YtdbpbfglhbiadaaGreatDoorH01
import Derived.ProofKit
import Derived.Deep.Slices
import Derived.Deep.Fields
import Derived.ChangeSame
import Derived.Test.YtdbpbfglhbiadaaGreatDoorRows
import Derived.Test.YtdbpbfglhbiadaaGreatDoorH22
import Derived.Test.YtdbpbfglhbiadaaGreatDoorH15
import Derived.LaidMore
import Derived.OpenShut
import Derived.Stop.Joined
import Derived.SevenTiedAt
import Derived.Lay
import Derived.LaidOnce
import Derived.LaidLaws
import Derived.Lib.LaidU8
import Derived.Lib.AppendIntMem
import Derived.Carry
import Derived.ShutString
import Derived.ChangeOld
import Derived.Deep.DeepHandedRow
set_option maxHeartbeats 4000000
set_option maxRecDepth 100000
namespace Go.Proofs.YtdbpbfglhbiadaaGreatDoor
open Go Go.RowKit Go.ChangeShapes Go.WideShapes Go.Deep Go.ChangeAt Go.WideMaps Go.WideElems Go.ChangeMaps
theorem lv {e:aa} (h:fH e=true):Ew e:=by
 unfold fH at h;rw[lM] at h;simp only[aav,decide_eq_true_eq] at h;obtain⟨_,h1,h2⟩:=h;have hg:=lL h1;rw[Gk h2] at hg;exact hg
theorem tB {a:aa} (h:Ew a):gd a a=true:=by
 obtain⟨A,B,hB,_,_,hr⟩:=h.risk;unfold gd;rw[hr,xU hB,gv lA,gv lz];simp
theorem wC (a:aa):EJ a a=true:=by
 unfold EJ;rw[gv lA,gv lz];simp
theorem QC {a b:aa} (ha:Ew a) (hb:Ew b):gd a b=EJ a b:=by
 rw[acD];refine⟨λh=>?_,λh=>by rw[Gk h];exact tB hb⟩;unfold gd at h;simp only[aav,decide_eq_true_eq] at h;obtain⟨a1,a2,a3,a4,a5,a6,a7,a8,a9,SI,SH,SG⟩:=h;have b1:=lV uZ a6;have b2:=lV uW a7;obtain⟨A,B,hB,_,_,hr⟩:=ha.risk;obtain⟨C,D,hD,_,_,hs⟩:=hb.risk;rw[hr] at SI;have b3:=xV hB (by rw[hs];exact u6 hD) SI;rw[<-hr] at b3;obtain⟨t,d,bl,m,p,c,s,sc,ba,r,ce,se⟩:=a;obtain⟨t',d',bl',m',p',c',s',sc',ba',r',ce',se'⟩:=b;simp only at a1 a2 a3 a4 a5 a8 a9 SH SG b1 b2 b3;subst a1 a2 a3 a4 a5 a8 a9 SH SG b1 b2 b3;exact wC _
noncomputable def Cse:eP Tryz.prog:=bA xM [⟨_,_,_,od⟩,⟨_,_,_,rp⟩,⟨_,_,_,yQ⟩,⟨_,_,_,Gh⟩] []
abbrev tT:T XV:=.lf (aB true)
def MA (e:aa):Prop:=dP e/\di e
def seT (a b:aa):T XV:=.nd (dP a/\di a) (.br (!fH a) tT (.nd (dP b/\di b) (.br (!fH b) tT (.br true (.nd (a.risk.short 67108864/\b.risk.short 67108864) (.br (gd a b==EJ a b) (.nd (a.risk.short 67108864/\a.risk.short 67108864) (.lf (aB (gd a a)))) fF)) fF))))
theorem lawSE_ok:ao Tryz.prog 5 false (az [(0,.st 5),(1,.st 5)] λ((a:aa),(b:aa),_)=>.nd (MA a/\MA b) (.lf (aB true))):=
 aN (C:=Cse) (nL _ _) false 99 [(0,.st 5),(1,.st 5)] (λ((a:aa),(b:aa),_)=>seT a b)
  (λ⟨(a:aa),(b:aa),_⟩ r _ ⟨⟨h1,h2⟩,h⟩=>by
   obtain rfl:aB true=r:=h;refine⟨?_,.inr rfl⟩;show(seT a b).hit _;refine⟨h1,?_⟩;cases ha:fH a with
   | false=>exact aC rfl rfl
   | true=>
    refine aK rfl ⟨h2,?_⟩;cases hb:fH b with
    | false=>exact aC rfl rfl
    | true=>
     refine aK rfl (aC rfl ⟨⟨h1.1.short,h2.1.short⟩,?_⟩);rw[QC (lv ha) (lv hb),beq_self_eq_true];exact aC rfl ⟨⟨h1.1.short,h1.1.short⟩,by rw[tB (lv ha)];rfl⟩) Tryz.func5
theorem lawSE_any {W:World} {B:Nat} (hT:Ei B W) (hB:B<=W.heap.size) {u v:Value} {a b:aa} (h1:SV W (λb=>b<W.heap.size) u a) (h2:SV W (λb=>b<W.heap.size) v b) (ha:dP a/\di a) (hb:dP b/\di b):Calls Tryz.prog 5 #[u,v] W (kB W (.bool true)):=
 lawSE_ok.retVL (xs:=[.agg (jS (.st 5) a),.agg (jS (.st 5) b)]) (vs:=[u,v]) ⟨B,hB,hT⟩ (λ_ h=>h) (.cons (h1.xr 5) (.cons (h2.xr 5) .nil)) (⟨⟨ha,hb⟩,rfl⟩:(T.nd (MA a/\MA b) (.lf (aB true))).hit (aB true))
class Fits (α:Type) where
 fits:α->Prop
instance:Fits Int:=⟨λx=>-9223372036854775808<=x/\x<=9223372036854775807⟩
instance:Fits Bool:=⟨λ_=>True⟩
instance:Fits UInt8:=⟨λ_=>True⟩
instance:Fits ByteArray:=⟨λs=>s.size<=9223372036854775807⟩
instance instFitsL {α:Type} [Fits α]:Fits (List α):=⟨λl=>l.length<=9223372036854775807/\∀x∈l,Fits.fits x⟩
theorem Ds {α:Type} (n:Nat) (p:Nat->α->Prop) (h:∀i,i<n->∃a,p i a):∃l:List α,l.length=n/\∀i a,l[i]?=some a->p i a:=by
 induction n with
 | zero=>exact⟨[],rfl,λi a hi=>by simp at hi⟩
 | succ n ih=>
  obtain⟨l,hl,hp⟩:=ih (λi hi=>h i (by omega));obtain⟨a,ha⟩:=h n (by omega);refine⟨l++[a],by simp[hl],λi b hi=>?_⟩;rw[List.getElem?_append] at hi;split at hi
  ·exact hp i b hi
  ·have:i=n:=by
    rcases Nat.lt_or_ge (i-l.length) 1 with h|h
    ·omega
    ·rw[abC (by simpa using h)] at hi;cases hi
   subst this;rw[hl,adR] at hi;simp at hi;subst hi;exact ha
class aM (α:Type) where
 bulk:α->Nat
 pos:∀a,1<=bulk a
instance:aM Int:=⟨λ_=>1,λ_=>aaG _⟩
instance:aM Bool:=⟨λ_=>1,λ_=>aaG _⟩
instance:aM UInt8:=⟨λ_=>1,λ_=>aaG _⟩
instance:aM (BitVec 32):=⟨λ_=>1,λ_=>aaG _⟩
instance:aM ByteArray:=⟨λs=>s.size+1,λ_=>acN _ _⟩
def iZ {α:Type} [aM α] (l:List α):Nat:=(l.map aM.bulk).sum
instance {α:Type} [aM α]:aM (List α):=⟨λl=>iZ l+1,λ_=>acN _ _⟩
instance:Fits (BitVec 32):=⟨λ_=>True⟩
theorem D3 {α:Type} [aM α] (l:List α):l.length<=iZ l:=by
 induction l with
 | nil=>exact aaG _
 | cons a l ih=>
  have:=aM.pos a;show l.length+1<=aM.bulk a+iZ l;omega
theorem D2 {α:Type} [aM α] {l:List α} {a:α} (h:a∈l):aM.bulk a<=iZ l:=by
 induction l with
 | nil=>cases h
 | cons b l ih=>
  show _<=aM.bulk b+iZ l;rcases abs.1 h with rfl|h
  ·omega
  ·have:=ih h;omega
def dX (P:Program) (t:TypeId) (α:Type) [aA α] [Fits α] [aM α]:Prop:=
 ∀(H:Type) (enc:TypeId×Value->H) (w:World) (base:Nat) (spare:Nat->Bool) (held:Bool) (fuel:Nat) (cs:List Value) (x:DataW H×List MemPlace),
  DataW.trod enc P w base spare held fuel t cs=some x->∃a:α,aA.rep w (λb=>b<w.heap.size) cs a/\Fits.fits a/\aM.bulk a<=Rows.uptoBulk x.1
theorem FC {P:Program} {t:TypeId} (ht:P.underlying t=some (.int .i64)):dX P t Int:=by
 intro H enc w base spare held fuel cs x h;obtain⟨n,rfl,rfl,hw⟩:=DataW.trod_int ht h;have hw':-9223372036854775808<=n/\n<=9223372036854775807:=by simpa[Lit.wf,IntKind.min,IntKind.max,IntKind.signed,IntKind.bits] using hw
 exact⟨n,rfl,hw',by simp[Rows.uptoBulk,aM.bulk]⟩
theorem Cp {P:Program} {t:TypeId} (ht:P.underlying t=some .bool):dX P t Bool:=by
 intro H enc w base spare held fuel cs x h;obtain⟨n,rfl,rfl⟩:=DataW.trod_bool ht h;exact⟨n,rfl,trivial,by simp[Rows.uptoBulk,aM.bulk]⟩
theorem xx {P:Program} {t:TypeId} (ht:P.underlying t=some .string):dX P t ByteArray:=by
 intro H enc w base spare held fuel cs x h;obtain⟨s,rfl,rfl,hs⟩:=DataW.trod_string ht h;exact⟨s,rfl,by unfold maxLen at hs;exact hs,by simp[Rows.uptoBulk,aM.bulk]⟩
theorem Co {P:Program} {t:TypeId} (ht:P.underlying t=some (.int .u32)):dX P t (BitVec 32):=by
 intro H enc w base spare held fuel cs x h;obtain⟨n,rfl,rfl,hw⟩:=DataW.trod_int ht h;have hb:0<=n/\n<=4294967295:=by simpa[Lit.wf,IntKind.min,IntKind.max,IntKind.signed,IntKind.bits] using hw
 refine⟨BitVec.ofNat 32 n.toNat,?_,trivial,by simp[Rows.uptoBulk,aM.bulk]⟩;show[Value.int .u32 n]=[Value.int .u32 ((BitVec.ofNat 32 n.toNat).toNat:Int)];rw[BitVec.toNat_ofNat];congr 2
 omega
theorem wS {α H:Type} [aM α]:∀(n:Nat) (l:List α) (D:Nat->DataW H),l.length=n->(∀i a,l[i]?=some a->aM.bulk a<=Rows.uptoBulk (D i))->iZ l<=Rows.uptoBulkAll ((List.range n).map D)
 | 0,l,D,hl,_=>by
  have:=aaY hl;subst this;exact abz _
 | n+1,l,D,hl,h=>by
  cases l with
  | nil=>cases hl
  | cons a l=>
   rw[List.range_succ_eq_map,aco,List.map_map];show aM.bulk a+iZ l<=Rows.uptoBulk (D 0)+Rows.uptoBulkAll ((List.range n).map (D∘Nat.succ));have h1:=h 0 a rfl;have h2:=wS n l (D∘Nat.succ) (by simpa using hl) (λi b hb=>h (i+1) b (by simpa using hb));omega
theorem fk {P:Program} {t e:TypeId} {α:Type} [aA α] [Fits α] [aM α] (ht:P.underlying t=some (.slice e)) (jb:P.cellsOf e=aA.sz α) (hp:0<aA.sz α) (he:dX P e α):dX P t (List α):=by
 intro H enc w base spare held fuel cs x h;rcases open_slice ht h with⟨rfl,rfl⟩|⟨a,len,cap,m,n,D,Pl,rfl,_,hl,hm,hmm,rfl,hi⟩
 ·exact⟨[],⟨none,0,0,rfl,RS.nil _ _⟩,⟨abz _,λx hx=>by simp at hx⟩,by simp[Rows.uptoBulk,aM.bulk,iZ]⟩
 ·have hlm:len<=m:=by rw[hmm];split<;>omega
  obtain⟨l,bJ,hl2⟩:=Ds (α:=α) len (λi x=>(∃cs,aA.rep w (λb=>b<w.heap.size) cs x/\cf w (a.add (i*aA.sz α)) cs/\Fits.fits x)/\aM.bulk x<=Rows.uptoBulk (D i)) (λi Mu=>by
   obtain⟨hZ,hc,U4⟩:=hi i (by omega);obtain⟨x,hx,hf,qu⟩:=he H enc w base spare held n hZ _ U4;rw[jb] at hc;obtain⟨_,tU,nU⟩:=World.cells?_some hc;refine⟨x,⟨hZ,hx,λj u hj=>?_,hf⟩,qu⟩;have hjl:j<aA.sz α:=by
    have:=nO hj;omega
   rw[nU j hjl];exact hj)
  refine⟨l,⟨some a,len,cap,rfl,bJ.symm,hl,hm,λhn=>?_⟩,⟨by unfold maxLen at hm;omega,λx hx=>?_⟩,?_⟩
  ·obtain⟨x0,iF⟩:∃x0,l[0]?=some x0:=⟨l[0]'(by omega),aac (by omega)⟩;obtain⟨⟨so,xk,Qd,_⟩,_⟩:=hl2 0 x0 iF;have aqK:=aA.len xk;obtain⟨u,hu⟩:∃u,so[0]?=some u:=⟨so[0]'(by omega),aac (by omega)⟩;have eO:=Qd 0 u hu;have Qb:w.cell? a=some u:=by simpa[Addr.add] using eO
   have hs:=J3 Qb;have hb:=World.block_lt_of_cell? w _ Qb;obtain⟨b,o,s⟩:=a;simp at hs;subst hs;exact⟨b,o,rfl,hb,λi x hx=>by obtain⟨⟨cs,h1,h2,_⟩,_⟩:=hl2 i x hx;exact⟨cs,h1,h2⟩⟩
  ·obtain⟨i,Mu,rfl⟩:=List.getElem_of_mem hx;obtain⟨⟨cs,_,_,hf⟩,_⟩:=hl2 i _ (aac Mu);exact hf
  ·have:=wS (H:=H) len l D bJ (λi a ha=>(hl2 i a ha).2);show iZ l+1<=Rows.uptoBulkAll ((List.range len).map D)+Rows.uptoBulkAll _+1;omega
theorem bp {P:Program} {H:Type} {enc:TypeId×Value->H} {w:World} {base:Nat} {spare:Nat->Bool} {held:Bool} {n:Nat} {fs:Array Field} {cs:List Value} {xs:List (DataW H×List MemPlace)} (hf:∀(i:Nat) (f:Field),fs[i]?=some f->DataW.trod enc P w base spare held n f.type ((cs.drop f.offset).take (P.cellsOf f.type))=xs[i]?) (i:Nat) {f:Field} (hi:fs[i]?=some f) (k m:Nat) (ho:f.offset=k) (hc:P.cellsOf f.type=m) (l:List Value) (hl:(cs.drop k).take m=l) (y:DataW H×List MemPlace) (hy:xs[i]?=some y):DataW.trod enc P w base spare held n f.type l=some y:=by
 have h:=hf i f hi;rw[ho,hc,hl,hy] at h;exact h
theorem ax {α:Type} {n:Nat} {l:List α} (h:l.length=n+1):∃v m,l=v::m/\m.length=n:=by
 cases l with
 | nil=>cases h
 | cons v m=>exact⟨v,m,rfl,by simpa using h⟩
theorem Tryz.opbInt:dX Tryz.prog 3 Int:=FC Tryz.underlying3
theorem Tryz.opbBool:dX Tryz.prog 4 Bool:=Cp Tryz.underlying4
theorem Tryz.opbStr:dX Tryz.prog 9 ByteArray:=xx Tryz.underlying9
theorem Tryz.opbLimb:dX Tryz.prog 172 (BitVec 32):=Co Tryz.underlying172
theorem Tryz.opbInts:dX Tryz.prog 40 (List Int):=fk Tryz.underlying40 (by kernel_rfl) (by show 0<1;omega) Tryz.opbInt
theorem Tryz.opbStrs:dX Tryz.prog 22 (List ByteArray):=fk Tryz.underlying22 (by kernel_rfl) (by show 0<1;omega) Tryz.opbStr
theorem Tryz.opbNat:dX Tryz.prog 26 (List (BitVec 32)):=fk Tryz.underlying26 (by kernel_rfl) (by show 0<1;omega) Tryz.opbLimb
instance:Fits Raw:=⟨λx=>Fits.fits x.neg/\Fits.fits x.num/\Fits.fits x.den⟩
instance:aM Raw:=⟨λx=>aM.bulk x.neg+aM.bulk x.num+aM.bulk x.den+1,λ_=>acN _ _⟩
theorem Tryz.opbRisk:dX Tryz.prog 28 Raw:=by
 intro H enc w base spare held fuel cs x h;obtain⟨xs,n,_,rfl,hl,kC,hf⟩:=DataW.trod_struct Tryz.underlying28 h;have hC:Tryz.prog.cellsOf 28=3:=by kernel_rfl
 have Lt:xs.length=3:=kC;have Gd:cs.length=3:=hl.trans hC;clear kC hl hC;obtain⟨c0,cs,rfl,Lq⟩:=ax Gd;obtain⟨c1,cs,rfl,Lp⟩:=ax Lq;obtain⟨c2,cs,rfl,Qi⟩:=ax Lp;obtain rfl:=aaY Qi;obtain⟨y0,xs,rfl,Ls⟩:=ax Lt;obtain⟨y1,xs,rfl,Lr⟩:=ax Ls;obtain⟨y2,xs,rfl,Qj⟩:=ax Lr;obtain rfl:=aaY Qj;have Lx:=bp hf 0 rfl 0 1 rfl (by kernel_rfl) [c0] rfl y0 rfl;obtain⟨x0,e0,f0,b0⟩:=Tryz.opbBool _ _ _ _ _ _ _ _ _ Lx;obtain rfl:c0=.bool x0:=by injection e0
 have Lw:=bp hf 1 rfl 1 1 rfl (by kernel_rfl) [c1] rfl y1 rfl;obtain⟨x1,⟨A1,n1,k1,e1,r1⟩,f1,b1⟩:=Tryz.opbNat _ _ _ _ _ _ _ _ _ Lw;obtain rfl:c1=.slice A1 n1 k1:=by injection e1
 have Ql:=bp hf 2 rfl 2 1 rfl (by kernel_rfl) [c2] rfl y2 rfl;obtain⟨x2,⟨A2,n2,k2,e2,r2⟩,f2,b2⟩:=Tryz.opbNat _ _ _ _ _ _ _ _ _ Ql;obtain rfl:c2=.slice A2 n2 k2:=by injection e2
 refine⟨⟨x0,x1,x2⟩,⟨A1,n1,k1,A2,n2,k2,rfl,r1,r2⟩,⟨f0,f1,f2⟩,?_⟩;show aM.bulk x0+aM.bulk x1+aM.bulk x2+1<=Rows.uptoBulkAll [y0.1,y1.1,y2.1]+1;simp only[Rows.uptoBulkAll];omega
instance:Fits ae:=⟨λx=>Fits.fits x.name/\Fits.fits x.cands/\Fits.fits x.method/\Fits.fits x.seats/\Fits.fits x.ranks/\Fits.fits x.digits/\Fits.fits x.ties/\Fits.fits x.over/\Fits.fits x.skip⟩
instance:aM ae:=⟨λx=>aM.bulk x.name+aM.bulk x.cands+aM.bulk x.method+aM.bulk x.seats+aM.bulk x.ranks+aM.bulk x.digits+aM.bulk x.ties+aM.bulk x.over+aM.bulk x.skip+1,λ_=>acN _ _⟩
theorem Tryz.opbCont:dX Tryz.prog 87 ae:=by
 intro H enc w base spare held fuel cs x h;obtain⟨xs,n,_,rfl,hl,kC,hf⟩:=DataW.trod_struct Tryz.underlying87 h;have hC:Tryz.prog.cellsOf 87=9:=by kernel_rfl
 have Lt:xs.length=9:=kC;have Gd:cs.length=9:=hl.trans hC;clear kC hl hC;obtain⟨c0,cs,rfl,Lq⟩:=ax Gd;obtain⟨c1,cs,rfl,Lp⟩:=ax Lq;obtain⟨c2,cs,rfl,Qi⟩:=ax Lp;obtain⟨c3,cs,rfl,hY4⟩:=ax Qi;obtain⟨c4,cs,rfl,hY5⟩:=ax hY4;obtain⟨c5,cs,rfl,hY6⟩:=ax hY5;obtain⟨c6,cs,rfl,hY7⟩:=ax hY6;obtain⟨c7,cs,rfl,hY8⟩:=ax hY7;obtain⟨c8,cs,rfl,hY9⟩:=ax hY8;obtain rfl:=aaY hY9;obtain⟨y0,xs,rfl,Ls⟩:=ax Lt;obtain⟨y1,xs,rfl,Lr⟩:=ax Ls;obtain⟨y2,xs,rfl,Qj⟩:=ax Lr;obtain⟨y3,xs,rfl,hX4⟩:=ax Qj;obtain⟨y4,xs,rfl,hX5⟩:=ax hX4;obtain⟨y5,xs,rfl,hX6⟩:=ax hX5;obtain⟨y6,xs,rfl,hX7⟩:=ax hX6;obtain⟨y7,xs,rfl,hX8⟩:=ax hX7;obtain⟨y8,xs,rfl,hX9⟩:=ax hX8;obtain rfl:=aaY hX9;have Lx:=bp hf 0 rfl 0 1 rfl (by kernel_rfl) [c0] rfl y0 rfl;obtain⟨x0,e0,f0,b0⟩:=Tryz.opbStr _ _ _ _ _ _ _ _ _ Lx;obtain rfl:c0=.string x0:=by injection e0
 have Lw:=bp hf 1 rfl 1 1 rfl (by kernel_rfl) [c1] rfl y1 rfl;obtain⟨x1,⟨A1,n1,k1,e1,r1⟩,f1,b1⟩:=Tryz.opbStrs _ _ _ _ _ _ _ _ _ Lw;obtain rfl:c1=.slice A1 n1 k1:=by injection e1
 have Ql:=bp hf 2 rfl 2 1 rfl (by kernel_rfl) [c2] rfl y2 rfl;obtain⟨x2,e2,f2,b2⟩:=Tryz.opbInt _ _ _ _ _ _ _ _ _ Ql;obtain rfl:c2=.int .i64 x2:=by injection e2
 have h3a:=bp hf 3 rfl 3 1 rfl (by kernel_rfl) [c3] rfl y3 rfl;obtain⟨x3,e3,f3,b3⟩:=Tryz.opbInt _ _ _ _ _ _ _ _ _ h3a;obtain rfl:c3=.int .i64 x3:=by injection e3
 have h4a:=bp hf 4 rfl 4 1 rfl (by kernel_rfl) [c4] rfl y4 rfl;obtain⟨x4,e4,f4,b4⟩:=Tryz.opbInt _ _ _ _ _ _ _ _ _ h4a;obtain rfl:c4=.int .i64 x4:=by injection e4
 have h5a:=bp hf 5 rfl 5 1 rfl (by kernel_rfl) [c5] rfl y5 rfl;obtain⟨x5,e5,f5,b5⟩:=Tryz.opbInt _ _ _ _ _ _ _ _ _ h5a;obtain rfl:c5=.int .i64 x5:=by injection e5
 have h6a:=bp hf 6 rfl 6 1 rfl (by kernel_rfl) [c6] rfl y6 rfl;obtain⟨x6,e6,f6,b6⟩:=Tryz.opbInt _ _ _ _ _ _ _ _ _ h6a;obtain rfl:c6=.int .i64 x6:=by injection e6
 have h7a:=bp hf 7 rfl 7 1 rfl (by kernel_rfl) [c7] rfl y7 rfl;obtain⟨x7,e7,f7,b7⟩:=Tryz.opbInt _ _ _ _ _ _ _ _ _ h7a;obtain rfl:c7=.int .i64 x7:=by injection e7
 have h8a:=bp hf 8 rfl 8 1 rfl (by kernel_rfl) [c8] rfl y8 rfl;obtain⟨x8,e8,f8,b8⟩:=Tryz.opbInt _ _ _ _ _ _ _ _ _ h8a;obtain rfl:c8=.int .i64 x8:=by injection e8
 refine⟨⟨x0,x1,x2,x3,x4,x5,x6,x7,x8⟩,⟨A1,n1,k1,rfl,r1⟩,⟨f0,f1,f2,f3,f4,f5,f6,f7,f8⟩,?_⟩;show aM.bulk x0+aM.bulk x1+aM.bulk x2+aM.bulk x3+aM.bulk x4+aM.bulk x5+aM.bulk x6+aM.bulk x7+aM.bulk x8+1<=Rows.uptoBulkAll [y0.1,y1.1,y2.1,y3.1,y4.1,y5.1,y6.1,y7.1,y8.1]+1;simp only[Rows.uptoBulkAll];omega
instance:Fits aj:=⟨λx=>Fits.fits x.name/\Fits.fits x.prec/\Fits.fits x.cont⟩
instance:aM aj:=⟨λx=>aM.bulk x.name+aM.bulk x.prec+aM.bulk x.cont+1,λ_=>acN _ _⟩
theorem Tryz.opbStyl:dX Tryz.prog 42 aj:=by
 intro H enc w base spare held fuel cs x h;obtain⟨xs,n,_,rfl,hl,kC,hf⟩:=DataW.trod_struct Tryz.underlying42 h;have hC:Tryz.prog.cellsOf 42=3:=by kernel_rfl
 have Lt:xs.length=3:=kC;have Gd:cs.length=3:=hl.trans hC;clear kC hl hC;obtain⟨c0,cs,rfl,Lq⟩:=ax Gd;obtain⟨c1,cs,rfl,Lp⟩:=ax Lq;obtain⟨c2,cs,rfl,Qi⟩:=ax Lp;obtain rfl:=aaY Qi;obtain⟨y0,xs,rfl,Ls⟩:=ax Lt;obtain⟨y1,xs,rfl,Lr⟩:=ax Ls;obtain⟨y2,xs,rfl,Qj⟩:=ax Lr;obtain rfl:=aaY Qj;have Lx:=bp hf 0 rfl 0 1 rfl (by kernel_rfl) [c0] rfl y0 rfl;obtain⟨x0,e0,f0,b0⟩:=Tryz.opbStr _ _ _ _ _ _ _ _ _ Lx;obtain rfl:c0=.string x0:=by injection e0
 have Lw:=bp hf 1 rfl 1 1 rfl (by kernel_rfl) [c1] rfl y1 rfl;obtain⟨x1,⟨A1,n1,k1,e1,r1⟩,f1,b1⟩:=Tryz.opbInts _ _ _ _ _ _ _ _ _ Lw;obtain rfl:c1=.slice A1 n1 k1:=by injection e1
 have Ql:=bp hf 2 rfl 2 1 rfl (by kernel_rfl) [c2] rfl y2 rfl;obtain⟨x2,⟨A2,n2,k2,e2,r2⟩,f2,b2⟩:=Tryz.opbInts _ _ _ _ _ _ _ _ _ Ql;obtain rfl:c2=.slice A2 n2 k2:=by injection e2
 refine⟨⟨x0,x1,x2⟩,⟨A1,n1,k1,A2,n2,k2,rfl,r1,r2⟩,⟨f0,f1,f2⟩,?_⟩;show aM.bulk x0+aM.bulk x1+aM.bulk x2+1<=Rows.uptoBulkAll [y0.1,y1.1,y2.1]+1;simp only[Rows.uptoBulkAll];omega
theorem Tryz.opbConts:dX Tryz.prog 23 (List ae):=fk Tryz.underlying23 (by kernel_rfl) (by show 0<9;omega) Tryz.opbCont
theorem Tryz.opbStyls:dX Tryz.prog 24 (List aj):=fk Tryz.underlying24 (by kernel_rfl) (by show 0<3;omega) Tryz.opbStyl
instance:Fits aa:=⟨λx=>Fits.fits x.title/\Fits.fits x.dots/\Fits.fits x.blank/\Fits.fits x.marked/\Fits.fits x.prec/\Fits.fits x.cont/\Fits.fits x.styl/\Fits.fits x.scan/\Fits.fits x.batch/\Fits.fits x.risk/\Fits.fits x.cell/\Fits.fits x.seed⟩
instance:aM aa:=⟨λx=>aM.bulk x.title+aM.bulk x.dots+aM.bulk x.blank+aM.bulk x.marked+aM.bulk x.prec+aM.bulk x.cont+aM.bulk x.styl+aM.bulk x.scan+aM.bulk x.batch+aM.bulk x.risk+aM.bulk x.cell+aM.bulk x.seed+1,λ_=>acN _ _⟩
theorem Tryz.opbElec:dX Tryz.prog 30 aa:=by
 intro H enc w base spare held fuel cs x h;obtain⟨xs,n,_,rfl,hl,kC,hf⟩:=DataW.trod_struct Tryz.underlying30 h;have hC:Tryz.prog.cellsOf 30=14:=by kernel_rfl
 have Lt:xs.length=12:=kC;have Gd:cs.length=14:=hl.trans hC;clear kC hl hC;obtain⟨c0,cs,rfl,Lq⟩:=ax Gd;obtain⟨c1,cs,rfl,Lp⟩:=ax Lq;obtain⟨c2,cs,rfl,Qi⟩:=ax Lp;obtain⟨c3,cs,rfl,hY4⟩:=ax Qi;obtain⟨c4,cs,rfl,hY5⟩:=ax hY4;obtain⟨c5,cs,rfl,hY6⟩:=ax hY5;obtain⟨c6,cs,rfl,hY7⟩:=ax hY6;obtain⟨c7,cs,rfl,hY8⟩:=ax hY7;obtain⟨c8,cs,rfl,hY9⟩:=ax hY8;obtain⟨c9,cs,rfl,amr⟩:=ax hY9;obtain⟨c10,cs,rfl,amq⟩:=ax amr;obtain⟨c11,cs,rfl,amo⟩:=ax amq;obtain⟨c12,cs,rfl,amn⟩:=ax amo;obtain⟨c13,cs,rfl,amm⟩:=ax amn;obtain rfl:=aaY amm;obtain⟨y0,xs,rfl,Ls⟩:=ax Lt;obtain⟨y1,xs,rfl,Lr⟩:=ax Ls;obtain⟨y2,xs,rfl,Qj⟩:=ax Lr;obtain⟨y3,xs,rfl,hX4⟩:=ax Qj;obtain⟨y4,xs,rfl,hX5⟩:=ax hX4;obtain⟨y5,xs,rfl,hX6⟩:=ax hX5;obtain⟨y6,xs,rfl,hX7⟩:=ax hX6;obtain⟨y7,xs,rfl,hX8⟩:=ax hX7;obtain⟨y8,xs,rfl,hX9⟩:=ax hX8;obtain⟨y9,xs,rfl,amA⟩:=ax hX9;obtain⟨y10,xs,rfl,amz⟩:=ax amA;obtain⟨y11,xs,rfl,amy⟩:=ax amz;obtain rfl:=aaY amy;have Lx:=bp hf 0 rfl 0 1 rfl (by kernel_rfl) [c0] rfl y0 rfl;obtain⟨x0,e0,f0,b0⟩:=Tryz.opbStr _ _ _ _ _ _ _ _ _ Lx;obtain rfl:c0=.string x0:=by injection e0
 have Lw:=bp hf 1 rfl 1 1 rfl (by kernel_rfl) [c1] rfl y1 rfl;obtain⟨x1,e1,f1,b1⟩:=Tryz.opbInt _ _ _ _ _ _ _ _ _ Lw;obtain rfl:c1=.int .i64 x1:=by injection e1
 have Ql:=bp hf 2 rfl 2 1 rfl (by kernel_rfl) [c2] rfl y2 rfl;obtain⟨x2,e2,f2,b2⟩:=Tryz.opbInt _ _ _ _ _ _ _ _ _ Ql;obtain rfl:c2=.int .i64 x2:=by injection e2
 have h3a:=bp hf 3 rfl 3 1 rfl (by kernel_rfl) [c3] rfl y3 rfl;obtain⟨x3,e3,f3,b3⟩:=Tryz.opbInt _ _ _ _ _ _ _ _ _ h3a;obtain rfl:c3=.int .i64 x3:=by injection e3
 have h4a:=bp hf 4 rfl 4 1 rfl (by kernel_rfl) [c4] rfl y4 rfl;obtain⟨x4,⟨A4,n4,k4,e4,r4⟩,f4,b4⟩:=Tryz.opbStrs _ _ _ _ _ _ _ _ _ h4a;obtain rfl:c4=.slice A4 n4 k4:=by injection e4
 have h5a:=bp hf 5 rfl 5 1 rfl (by kernel_rfl) [c5] rfl y5 rfl;obtain⟨x5,⟨A5,n5,k5,e5,r5⟩,f5,b5⟩:=Tryz.opbConts _ _ _ _ _ _ _ _ _ h5a;obtain rfl:c5=.slice A5 n5 k5:=by injection e5
 have h6a:=bp hf 6 rfl 6 1 rfl (by kernel_rfl) [c6] rfl y6 rfl;obtain⟨x6,⟨A6,n6,k6,e6,r6⟩,f6,b6⟩:=Tryz.opbStyls _ _ _ _ _ _ _ _ _ h6a;obtain rfl:c6=.slice A6 n6 k6:=by injection e6
 have h7a:=bp hf 7 rfl 7 1 rfl (by kernel_rfl) [c7] rfl y7 rfl;obtain⟨x7,e7,f7,b7⟩:=Tryz.opbInt _ _ _ _ _ _ _ _ _ h7a;obtain rfl:c7=.int .i64 x7:=by injection e7
 have h8a:=bp hf 8 rfl 8 1 rfl (by kernel_rfl) [c8] rfl y8 rfl;obtain⟨x8,e8,f8,b8⟩:=Tryz.opbInt _ _ _ _ _ _ _ _ _ h8a;obtain rfl:c8=.int .i64 x8:=by injection e8
 have h9a:=bp hf 9 rfl 9 3 rfl (by kernel_rfl) [c9,c10,c11] rfl y9 rfl;obtain⟨x9,⟨A9,n9,k9,B9,m9,j9,e9,r9,s9⟩,f9,b9⟩:=Tryz.opbRisk _ _ _ _ _ _ _ _ _ h9a;obtain⟨rfl,rfl,rfl⟩:c9=.bool x9.neg/\c10=.slice A9 n9 k9/\c11=.slice B9 m9 j9:=by
  injection e9 with q1 q2
  injection q2 with q2 q3
  injection q3 with q3 q4
  exact⟨q1,q2,q3⟩
 have amM:=bp hf 10 rfl 12 1 rfl (by kernel_rfl) [c12] rfl y10 rfl;obtain⟨x10,e10,f10,b10⟩:=Tryz.opbInt _ _ _ _ _ _ _ _ _ amM;obtain rfl:c12=.int .i64 x10:=by injection e10
 have amL:=bp hf 11 rfl 13 1 rfl (by kernel_rfl) [c13] rfl y11 rfl;obtain⟨x11,e11,f11,b11⟩:=Tryz.opbStr _ _ _ _ _ _ _ _ _ amL;obtain rfl:c13=.string x11:=by injection e11
 refine⟨⟨x0,x1,x2,x3,x4,x5,x6,x7,x8,x9,x10,x11⟩,⟨A4,n4,k4,A5,n5,k5,A6,n6,k6,A9,n9,k9,B9,m9,j9,rfl,r4,r5,r6,r9,s9⟩,⟨f0,f1,f2,f3,f4,f5,f6,f7,f8,f9,f10,f11⟩,?_⟩;show aM.bulk x0+aM.bulk x1+aM.bulk x2+aM.bulk x3+aM.bulk x4+aM.bulk x5+aM.bulk x6+aM.bulk x7+aM.bulk x8+aM.bulk x9+aM.bulk x10+aM.bulk x11+1<=Rows.uptoBulkAll [y0.1,y1.1,y2.1,y3.1,y4.1,y5.1,y6.1,y7.1,y8.1,y9.1,y10.1,y11.1]+1;simp only[Rows.uptoBulkAll];omega
instance:Fits ab4:=⟨λ_=>True⟩
instance:aM ab4:=⟨λ_=>1,λ_=>aaG _⟩
theorem jB {e:aa} (hf:Fits.fits e) (hb:aM.bulk e<=1048576):dP e/\di e:=by
 obtain⟨f1,f2,f3,f4,f5,f6,f7,f8,f9,f10,f11,f12⟩:=hf;have mz:aM.bulk e.title+aM.bulk e.dots+aM.bulk e.blank+aM.bulk e.marked+aM.bulk e.prec+aM.bulk e.cont+aM.bulk e.styl+aM.bulk e.scan+aM.bulk e.batch+aM.bulk e.risk+aM.bulk e.cell+aM.bulk e.seed+1<=1048576:=hb;have str:∀{s:ByteArray},aM.bulk s<=1048576->cU s:=λ{s} h=>by
  have h':s.size+1<=1048576:=h;unfold cU;omega
 have lst:∀{α:Type} [aM α] {l:List α},aM.bulk l<=1048576->l.length<=1048576/\∀x∈l,aM.bulk x<=1048576:=λ{α} _ {l} h=>by
  have h':iZ l+1<=1048576:=h;have h1:=D3 l;exact⟨by omega,λx hx=>by have:=D2 hx;omega⟩
 obtain⟨lp,mp⟩:=lst (l:=e.prec) (by omega);obtain⟨lc,mc⟩:=lst (l:=e.cont) (by omega);obtain⟨ls,ms⟩:=lst (l:=e.styl) (by omega);have hr:aM.bulk e.risk.neg+aM.bulk e.risk.num+aM.bulk e.risk.den+1<=1048576:=by
  have:aM.bulk e.risk=aM.bulk e.risk.neg+aM.bulk e.risk.num+aM.bulk e.risk.den+1:=rfl;omega
 obtain⟨ln,_⟩:=lst (l:=e.risk.num) (by omega);obtain⟨ld,_⟩:=lst (l:=e.risk.den) (by omega);have Xy:∀x∈e.cont,nC x/\cU x.name/\∀s∈x.cands,cU s:=λx hx=>by
  obtain⟨g1,g2,g3,g4,g5,g6,g7,g8,g9⟩:=f6.2 x hx;have Xz:aM.bulk x.name+aM.bulk x.cands+aM.bulk x.method+aM.bulk x.seats+aM.bulk x.ranks+aM.bulk x.digits+aM.bulk x.ties+aM.bulk x.over+aM.bulk x.skip+1<=1048576:=mc x hx;obtain⟨l1,m1⟩:=lst (l:=x.cands) (by omega);exact⟨⟨g3,g4,g5,g6,g7,g8,g9,by omega⟩,str (by omega),λs hs=>str (m1 s hs)⟩
 have Px:∀x∈e.styl,x.prec.length<=1048576/\x.cont.length<=1048576/\cU x.name:=λx hx=>by
  have Xz:aM.bulk x.name+aM.bulk x.prec+aM.bulk x.cont+1<=1048576:=ms x hx;obtain⟨l1,_⟩:=lst (l:=x.prec) (by omega);obtain⟨l2,_⟩:=lst (l:=x.cont) (by omega);exact⟨l1,l2,str (by omega)⟩
 exact⟨⟨f2,f3,f4,f8,f9,f11,λx hx=>(Xy x hx).1,λx hx=>⟨by have:=(Px x hx).1;omega,by have:=(Px x hx).2.1;omega⟩,by omega,by omega,by omega,⟨by omega,by omega⟩⟩,
  ⟨str (by omega),str (by omega),λs hs=>str (mp s hs),λx hx=>(Xy x hx).2,λx hx=>(Px x hx).2.2,by omega⟩⟩
theorem Tryz.own':ownKnob Tryz.prog.godebug=none:=by kernel_rfl
theorem Tryz.laidOut:laidOutB Tryz.prog=true:=by kernel_rfl
theorem Ni:Rows.laid_internal_strconv_uint64pow10=(Lib.tabData .u64 Lib.pow10Tab:DataW Unit):=rfl
theorem nI {W:World} (h:Lib.VarReads Tryz.prog W "internal/strconv.uint64pow10" Rows.laid_internal_strconv_uint64pow10):Ei W.heap.size W:=by
 have hT:Lib.TabIs Tryz.prog W "internal/strconv.uint64pow10" .u64 Lib.pow10Tab:=by
  obtain⟨g,t,cs,fuel,p,hg,hty,akW,hd⟩:=h;obtain⟨g0,hg0,ht0⟩:∃g0,Tryz.prog.globalNamed "internal/strconv.uint64pow10" =some g0/\(Tryz.prog.globals[g0]?).map (·.type)=some 309:=⟨(Tryz.prog.globalNamed "internal/strconv.uint64pow10").getD 0,by kernel_rfl,by kernel_rfl⟩;obtain rfl:=aaj (hg.symm.trans hg0);obtain rfl:=aaj (hty.symm.trans ht0);rw[Ni] at hd;unfold Lib.TabIs;rw[akW,<-Lib.cells_of_tab Tryz.underlying309 Tryz.underlying242 (by kernel_rfl) (by kernel_rfl) hd]
 exact Lib.tabBelow_of_tabIs hT
theorem fj {H:Type} {enc:TypeId×Value->H} {C:Checked} {os:Os} {f:FuncId} {fn:Func} {s:OpenSpec} {conds:List PathCond} {apart:Bool} {laid:List (String×DataW Unit)} (modest:Bool) (w0:World) (args:Array Value) (hos:w0.os=os) (Sk:(w0.forCall (λ_ _=>0) ⟨#[],args,[]⟩).Shaped C.prog) (tQ:Input.okWideB C.prog (w0.forCall (λ_ _=>0) ⟨#[],args,[]⟩) f ⟨#[],args,[]⟩=true) (mn:s.preRow enc C.prog fn conds apart laid (w0.forCall (λ_ _=>0) ⟨#[],args,[]⟩).memory args) : ∃(w:World) (tape:Tape) (i:Input),w.os=os/\(w.forCall tape i).Shaped C.prog/\i.vars=[]/\Input.okWide C.prog (w.forCall tape i) .any w.heap.size f i/\ s.preRow enc C.prog fn conds apart laid (w.forCall tape i).memory i.args/\({ modest:=modest }:Assume).holds C.prog (lone (Frame.enter C.prog f i.args .normal) [] (w.forCall tape i)):=
 ⟨w0,λ_ _=>0,⟨#[],args,[]⟩,hos,Sk,(Input.okWide_of_okWideB (base:=0) tQ).1,(Input.okWide_of_okWideB tQ).2,mn,by
  simp only[Assume.holds];exact⟨by simp,by simp,λ_=>Modest.zero,by simp,by simp⟩⟩
theorem nJ {H:Type} {d:DataW H} {l:List (DataW H)} (h:d∈l):Rows.uptoBulk d<=Rows.uptoBulkAll l:=by
 induction l with
 | nil=>cases h
 | cons x r ih=>
  simp only[Rows.uptoBulkAll];rcases abs.1 h with e|e
  ·subst e;omega
  ·have:=ih e;omega
end Go.Proofs.YtdbpbfglhbiadaaGreatDoor
