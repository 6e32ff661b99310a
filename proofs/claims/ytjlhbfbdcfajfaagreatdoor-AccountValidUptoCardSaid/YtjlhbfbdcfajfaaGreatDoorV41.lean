/- OpnB OpnW -/
import Derived.Test.YtjlhbfbdcfajfaaGreatDoorV00
import Derived.Test.YtjlhbfbdcfajfaaGreatDoorRows
import Derived.Test.YtjlhbfbdcfajfaaGreatDoorV40
import Derived.Test.YtjlhbfbdcfajfaaGreatDoorV38
import Derived.Test.YtjlhbfbdcfajfaaGreatDoorV23
import Derived.Test.YtjlhbfbdcfajfaaGreatDoorV18
import Derived.ProofKit
import Derived.LaidMore
import Derived.OpenShut
import Derived.Stop.Joined
import Derived.SevenTiedAt
import Derived.Lay
import Derived.LaidOnce
import Derived.LaidLaws
import Derived.Lib.LaidU8
import Derived.Lib.AppendIntMem
import Derived.Carry
import Derived.ShutString
import Derived.ChangeOld
import Derived.Deep.DeepHandedRow
set_option maxHeartbeats 8000000
set_option maxRecDepth 100000
namespace Go.Proofs.YtjlhbfbdcfajfaaGreatDoor
open Go.RowKit Go.ChangeShapes Go.WideShapes Go.Deep Go.ChangeAt Go.WideMaps Go.WideElems Go.ChangeMaps
class be (α:Type) where
 bulk:α→Nat
 pos:∀a,1≤bulk a
instance:be Int:=⟨fun _=>1,fun _=>aaW _⟩
instance:be Bool:=⟨fun _=>1,fun _=>aaW _⟩
instance:be UInt8:=⟨fun _=>1,fun _=>aaW _⟩
instance:be (BitVec 32):=⟨fun _=>1,fun _=>aaW _⟩
instance:be ByteArray:=⟨fun s=>s.size+1,fun _=>adq _ _⟩
def ju {α:Type} [be α] (l:List α):Nat:=(l.map be.bulk).sum
instance {α:Type} [be α]:be (List α):=⟨fun l=>ju l+1,fun _=>adq _ _⟩
instance:Fits (BitVec 32):=⟨fun _=>True⟩
theorem Dt {α:Type} [be α] (l:List α):l.length≤ju l:=by
 induction l with
 | nil=>exact aaW _
 | cons a l ih=>
  have:=be.pos a;show l.length+1≤be.bulk a+ju l;omega
theorem Ds {α:Type} [be α] {l:List α} {a:α} (h:a∈l):be.bulk a≤ju l:=by
 induction l with
 | nil=>cases h
 | cons b l ih=>
  show _≤be.bulk b+ju l;rcases aba.1 h with rfl|h
  ·omega
  ·have:=ih h;omega
def fb (P:Program) (t:TypeId) (α:Type) [aK α] [Fits α] [be α]:Prop:=
 ∀(H:Type) (enc:TypeId×Value→H) (w:World) (base:Nat) (spare:Nat→Bool) (held:Bool) (fuel:Nat) (cs:List Value) (x:DataW H×List MemPlace),
  DataW.trod enc P w base spare held fuel t cs=some x→∃a:α,aK.rep w (fun b=>b<w.heap.size) cs a∧Fits.fits a∧be.bulk a≤Rows.uptoBulk x.1
theorem EW {P:Program} {t:TypeId} (ht:P.underlying t=some (.int .i64)):fb P t Int:=by
 intro H enc w base spare held fuel cs x h;obtain⟨n,rfl,rfl,hw⟩:=DataW.trod_int ht h;have hw':-9223372036854775808≤n∧n≤9223372036854775807:=by simpa[Lit.wf,IntKind.min,IntKind.max,IntKind.signed,IntKind.bits] using hw
 exact⟨n,rfl,hw',by simp[Rows.uptoBulk,be.bulk]⟩
theorem BV {P:Program} {t:TypeId} (ht:P.underlying t=some .bool):fb P t Bool:=by
 intro H enc w base spare held fuel cs x h;obtain⟨n,rfl,rfl⟩:=DataW.trod_bool ht h;exact⟨n,rfl,trivial,by simp[Rows.uptoBulk,be.bulk]⟩
theorem xx {P:Program} {t:TypeId} (ht:P.underlying t=some .string):fb P t ByteArray:=by
 intro H enc w base spare held fuel cs x h;obtain⟨s,rfl,rfl,hs⟩:=DataW.trod_string ht h;exact⟨s,rfl,by unfold maxLen at hs;exact hs,by simp[Rows.uptoBulk,be.bulk]⟩
theorem BU {P:Program} {t:TypeId} (ht:P.underlying t=some (.int .u32)):fb P t (BitVec 32):=by
 intro H enc w base spare held fuel cs x h;obtain⟨n,rfl,rfl,hw⟩:=DataW.trod_int ht h;have hb:0≤n∧n≤4294967295:=by simpa[Lit.wf,IntKind.min,IntKind.max,IntKind.signed,IntKind.bits] using hw
 refine⟨BitVec.ofNat 32 n.toNat,?_,trivial,by simp[Rows.uptoBulk,be.bulk]⟩;show[Value.int .u32 n]=[Value.int .u32 ((BitVec.ofNat 32 n.toNat).toNat:Int)];rw[BitVec.toNat_ofNat];congr 2
 omega
theorem wU {α H:Type} [be α]:∀(n:Nat) (l:List α) (D:Nat→DataW H),l.length=n→(∀i a,l[i]?=some a→be.bulk a≤Rows.uptoBulk (D i))→ju l≤Rows.uptoBulkAll ((List.range n).map D)
 | 0,l,D,hl,_=>by
  have:=abv hl;subst this;exact abS _
 | n+1,l,D,hl,h=>by
  cases l with
  | nil=>cases hl
  | cons a l=>
   rw[List.range_succ_eq_map,acq,List.map_map];show be.bulk a+ju l≤Rows.uptoBulk (D 0)+Rows.uptoBulkAll ((List.range n).map (D∘Nat.succ));have h1:=h 0 a rfl;have h2:=wU n l (D∘Nat.succ) (by simpa using hl) (fun i b hb=>h (i+1) b (by simpa using hb));omega
theorem gG {P:Program} {t e:TypeId} {α:Type} [aK α] [Fits α] [be α] (ht:P.underlying t=some (.slice e)) (jB:P.cellsOf e=aK.sz α) (hp:0<aK.sz α) (he:fb P e α):fb P t (List α):=by
 intro H enc w base spare held fuel cs x h;rcases open_slice ht h with⟨rfl,rfl⟩|⟨a,len,cap,m,n,D,Pl,rfl,_,hl,hm,hmm,rfl,hi⟩
 ·exact⟨[],⟨none,0,0,rfl,RS.nil _ _⟩,⟨abS _,fun x hx=>by simp at hx⟩,by simp[Rows.uptoBulk,be.bulk,ju]⟩
 ·have hlm:len≤m:=by rw[hmm];split<;>omega
  obtain⟨l,bM,hl2⟩:=CO (α:=α) len (fun i x=>(∃cs,aK.rep w (fun b=>b<w.heap.size) cs x∧cK w (a.add (i*aK.sz α)) cs∧Fits.fits x)∧be.bulk x≤Rows.uptoBulk (D i)) (fun i KZ=>by
   obtain⟨iG,hc,Sg⟩:=hi i (by omega);obtain⟨x,hx,hf,qQ⟩:=he H enc w base spare held n iG _ Sg;rw[jB] at hc;obtain⟨_,uh,lz⟩:=World.cells?_some hc;refine⟨x,⟨iG,hx,fun j u hj=>?_,hf⟩,qQ⟩;have Xj:j<aK.sz α:=by
    have:=oD hj;omega
   rw[lz j Xj];exact hj)
  refine⟨l,⟨some a,len,cap,rfl,bM.symm,hl,hm,fun hn=>?_⟩,⟨by unfold maxLen at hm;omega,fun x hx=>?_⟩,?_⟩
  ·obtain⟨x0,i7⟩:∃x0,l[0]?=some x0:=⟨l[0]'(by omega),aac (by omega)⟩;obtain⟨⟨xK,D3,Om,_⟩,_⟩:=hl2 0 x0 i7;have ak2:=aK.len D3;obtain⟨u,hu⟩:∃u,xK[0]?=some u:=⟨xK[0]'(by omega),aac (by omega)⟩;have fg:=Om 0 u hu;have Oj:w.cell? a=some u:=by simpa[Addr.add] using fg
   have hs:=I0 Oj;have hb:=World.block_lt_of_cell? w _ Oj;obtain⟨b,o,s⟩:=a;simp at hs;subst hs;exact⟨b,o,rfl,hb,fun i x hx=>by obtain⟨⟨cs,h1,h2,_⟩,_⟩:=hl2 i x hx;exact⟨cs,h1,h2⟩⟩
  ·obtain⟨i,KZ,rfl⟩:=List.getElem_of_mem hx;obtain⟨⟨cs,_,_,hf⟩,_⟩:=hl2 i _ (aac KZ);exact hf
  ·have:=wU (H:=H) len l D bM (fun i a ha=>(hl2 i a ha).2);show ju l+1≤Rows.uptoBulkAll ((List.range len).map D)+Rows.uptoBulkAll _+1;omega
theorem bX {P:Program} {H:Type} {enc:TypeId×Value→H} {w:World} {base:Nat} {spare:Nat→Bool} {held:Bool} {n:Nat} {fs:Array Field} {cs:List Value} {xs:List (DataW H×List MemPlace)} (hf:∀(i:Nat) (f:Field),fs[i]?=some f→DataW.trod enc P w base spare held n f.type ((cs.drop f.offset).take (P.cellsOf f.type))=xs[i]?) (i:Nat) {f:Field} (hi:fs[i]?=some f) (k m:Nat) (ho:f.offset=k) (hc:P.cellsOf f.type=m) (l:List Value) (hl:(cs.drop k).take m=l) (y:DataW H×List MemPlace) (hy:xs[i]?=some y):DataW.trod enc P w base spare held n f.type l=some y:=by
 have h:=hf i f hi;rw[ho,hc,hl,hy] at h;exact h
theorem aN {α:Type} {n:Nat} {l:List α} (h:l.length=n+1):∃v m,l=v::m∧m.length=n:=by
 cases l with
 | nil=>cases h
 | cons v m=>exact⟨v,m,rfl,by simpa using h⟩
theorem Tryz.opbInt:fb Tryz.prog 3 Int:=EW Tryz.underlying3
theorem Tryz.opbBool:fb Tryz.prog 4 Bool:=BV Tryz.underlying4
theorem Tryz.opbStr:fb Tryz.prog 9 ByteArray:=xx Tryz.underlying9
theorem Tryz.opbLimb:fb Tryz.prog 98 (BitVec 32):=BU Tryz.underlying98
theorem Tryz.opbInts:fb Tryz.prog 84 (List Int):=gG Tryz.underlying84 (by kernel_rfl) (by show 0<1;omega) Tryz.opbInt
theorem Tryz.opbStrs:fb Tryz.prog 22 (List ByteArray):=gG Tryz.underlying22 (by kernel_rfl) (by show 0<1;omega) Tryz.opbStr
theorem Tryz.opbNat:fb Tryz.prog 26 (List (BitVec 32)):=gG Tryz.underlying26 (by kernel_rfl) (by show 0<1;omega) Tryz.opbLimb
instance:Fits Raw:=⟨fun x=>Fits.fits x.neg∧Fits.fits x.num∧Fits.fits x.den⟩
instance:be Raw:=⟨fun x=>be.bulk x.neg+be.bulk x.num+be.bulk x.den+1,fun _=>adq _ _⟩
theorem Tryz.opbRisk:fb Tryz.prog 28 Raw:=by
 intro H enc w base spare held fuel cs x h;obtain⟨xs,n,_,rfl,hl,nl,hf⟩:=DataW.trod_struct Tryz.underlying28 h;have hC:Tryz.prog.cellsOf 28=3:=by kernel_rfl
 have SJ:xs.length=3:=nl;have Ov:cs.length=3:=hl.trans hC;clear nl hl hC;obtain⟨c0,cs,rfl,SF⟩:=aN Ov;obtain⟨c1,cs,rfl,SE⟩:=aN SF;obtain⟨c2,cs,rfl,SD⟩:=aN SE;obtain rfl:=abv SD;obtain⟨y0,xs,rfl,SI⟩:=aN SJ;obtain⟨y1,xs,rfl,SH⟩:=aN SI;obtain⟨y2,xs,rfl,SG⟩:=aN SH;obtain rfl:=abv SG;have SO:=bX hf 0 rfl 0 1 rfl (by kernel_rfl) [c0] rfl y0 rfl;obtain⟨x0,e0,f0,b0⟩:=Tryz.opbBool _ _ _ _ _ _ _ _ _ SO;obtain rfl:c0=.bool x0:=by injection e0
 have SN:=bX hf 1 rfl 1 1 rfl (by kernel_rfl) [c1] rfl y1 rfl;obtain⟨x1,⟨A1,n1,k1,e1,r1⟩,f1,b1⟩:=Tryz.opbNat _ _ _ _ _ _ _ _ _ SN;obtain rfl:c1=.slice A1 n1 k1:=by injection e1
 have SL:=bX hf 2 rfl 2 1 rfl (by kernel_rfl) [c2] rfl y2 rfl;obtain⟨x2,⟨A2,n2,k2,e2,r2⟩,f2,b2⟩:=Tryz.opbNat _ _ _ _ _ _ _ _ _ SL;obtain rfl:c2=.slice A2 n2 k2:=by injection e2
 refine⟨⟨x0,x1,x2⟩,⟨A1,n1,k1,A2,n2,k2,rfl,r1,r2⟩,⟨f0,f1,f2⟩,?_⟩;show be.bulk x0+be.bulk x1+be.bulk x2+1≤Rows.uptoBulkAll [y0.1,y1.1,y2.1]+1;simp only[Rows.uptoBulkAll];omega
instance:Fits ah:=⟨fun x=>Fits.fits x.name∧Fits.fits x.cands∧Fits.fits x.method∧Fits.fits x.seats∧Fits.fits x.ranks∧Fits.fits x.digits∧Fits.fits x.ties∧Fits.fits x.over∧Fits.fits x.skip⟩
instance:be ah:=⟨fun x=>be.bulk x.name+be.bulk x.cands+be.bulk x.method+be.bulk x.seats+be.bulk x.ranks+be.bulk x.digits+be.bulk x.ties+be.bulk x.over+be.bulk x.skip+1,fun _=>adq _ _⟩
theorem Tryz.opbCont:fb Tryz.prog 95 ah:=by
 intro H enc w base spare held fuel cs x h;obtain⟨xs,n,_,rfl,hl,nl,hf⟩:=DataW.trod_struct Tryz.underlying95 h;have hC:Tryz.prog.cellsOf 95=9:=by kernel_rfl
 have SJ:xs.length=9:=nl;have Ov:cs.length=9:=hl.trans hC;clear nl hl hC;obtain⟨c0,cs,rfl,SF⟩:=aN Ov;obtain⟨c1,cs,rfl,SE⟩:=aN SF;obtain⟨c2,cs,rfl,SD⟩:=aN SE;obtain⟨c3,cs,rfl,hY4⟩:=aN SD;obtain⟨c4,cs,rfl,hY5⟩:=aN hY4;obtain⟨c5,cs,rfl,hY6⟩:=aN hY5;obtain⟨c6,cs,rfl,hY7⟩:=aN hY6;obtain⟨c7,cs,rfl,hY8⟩:=aN hY7;obtain⟨c8,cs,rfl,hY9⟩:=aN hY8;obtain rfl:=abv hY9;obtain⟨y0,xs,rfl,SI⟩:=aN SJ;obtain⟨y1,xs,rfl,SH⟩:=aN SI;obtain⟨y2,xs,rfl,SG⟩:=aN SH;obtain⟨y3,xs,rfl,hX4⟩:=aN SG;obtain⟨y4,xs,rfl,hX5⟩:=aN hX4;obtain⟨y5,xs,rfl,hX6⟩:=aN hX5;obtain⟨y6,xs,rfl,hX7⟩:=aN hX6;obtain⟨y7,xs,rfl,hX8⟩:=aN hX7;obtain⟨y8,xs,rfl,hX9⟩:=aN hX8;obtain rfl:=abv hX9;have SO:=bX hf 0 rfl 0 1 rfl (by kernel_rfl) [c0] rfl y0 rfl;obtain⟨x0,e0,f0,b0⟩:=Tryz.opbStr _ _ _ _ _ _ _ _ _ SO;obtain rfl:c0=.string x0:=by injection e0
 have SN:=bX hf 1 rfl 1 1 rfl (by kernel_rfl) [c1] rfl y1 rfl;obtain⟨x1,⟨A1,n1,k1,e1,r1⟩,f1,b1⟩:=Tryz.opbStrs _ _ _ _ _ _ _ _ _ SN;obtain rfl:c1=.slice A1 n1 k1:=by injection e1
 have SL:=bX hf 2 rfl 2 1 rfl (by kernel_rfl) [c2] rfl y2 rfl;obtain⟨x2,e2,f2,b2⟩:=Tryz.opbInt _ _ _ _ _ _ _ _ _ SL;obtain rfl:c2=.int .i64 x2:=by injection e2
 have h3a:=bX hf 3 rfl 3 1 rfl (by kernel_rfl) [c3] rfl y3 rfl;obtain⟨x3,e3,f3,b3⟩:=Tryz.opbInt _ _ _ _ _ _ _ _ _ h3a;obtain rfl:c3=.int .i64 x3:=by injection e3
 have h4a:=bX hf 4 rfl 4 1 rfl (by kernel_rfl) [c4] rfl y4 rfl;obtain⟨x4,e4,f4,b4⟩:=Tryz.opbInt _ _ _ _ _ _ _ _ _ h4a;obtain rfl:c4=.int .i64 x4:=by injection e4
 have h5a:=bX hf 5 rfl 5 1 rfl (by kernel_rfl) [c5] rfl y5 rfl;obtain⟨x5,e5,f5,b5⟩:=Tryz.opbInt _ _ _ _ _ _ _ _ _ h5a;obtain rfl:c5=.int .i64 x5:=by injection e5
 have h6a:=bX hf 6 rfl 6 1 rfl (by kernel_rfl) [c6] rfl y6 rfl;obtain⟨x6,e6,f6,b6⟩:=Tryz.opbInt _ _ _ _ _ _ _ _ _ h6a;obtain rfl:c6=.int .i64 x6:=by injection e6
 have h7a:=bX hf 7 rfl 7 1 rfl (by kernel_rfl) [c7] rfl y7 rfl;obtain⟨x7,e7,f7,b7⟩:=Tryz.opbInt _ _ _ _ _ _ _ _ _ h7a;obtain rfl:c7=.int .i64 x7:=by injection e7
 have h8a:=bX hf 8 rfl 8 1 rfl (by kernel_rfl) [c8] rfl y8 rfl;obtain⟨x8,e8,f8,b8⟩:=Tryz.opbInt _ _ _ _ _ _ _ _ _ h8a;obtain rfl:c8=.int .i64 x8:=by injection e8
 refine⟨⟨x0,x1,x2,x3,x4,x5,x6,x7,x8⟩,⟨A1,n1,k1,rfl,r1⟩,⟨f0,f1,f2,f3,f4,f5,f6,f7,f8⟩,?_⟩;show be.bulk x0+be.bulk x1+be.bulk x2+be.bulk x3+be.bulk x4+be.bulk x5+be.bulk x6+be.bulk x7+be.bulk x8+1≤Rows.uptoBulkAll [y0.1,y1.1,y2.1,y3.1,y4.1,y5.1,y6.1,y7.1,y8.1]+1;simp only[Rows.uptoBulkAll];omega
instance:Fits aw:=⟨fun x=>Fits.fits x.name∧Fits.fits x.prec∧Fits.fits x.cont⟩
instance:be aw:=⟨fun x=>be.bulk x.name+be.bulk x.prec+be.bulk x.cont+1,fun _=>adq _ _⟩
theorem Tryz.opbStyl:fb Tryz.prog 97 aw:=by
 intro H enc w base spare held fuel cs x h;obtain⟨xs,n,_,rfl,hl,nl,hf⟩:=DataW.trod_struct Tryz.underlying97 h;have hC:Tryz.prog.cellsOf 97=3:=by kernel_rfl
 have SJ:xs.length=3:=nl;have Ov:cs.length=3:=hl.trans hC;clear nl hl hC;obtain⟨c0,cs,rfl,SF⟩:=aN Ov;obtain⟨c1,cs,rfl,SE⟩:=aN SF;obtain⟨c2,cs,rfl,SD⟩:=aN SE;obtain rfl:=abv SD;obtain⟨y0,xs,rfl,SI⟩:=aN SJ;obtain⟨y1,xs,rfl,SH⟩:=aN SI;obtain⟨y2,xs,rfl,SG⟩:=aN SH;obtain rfl:=abv SG;have SO:=bX hf 0 rfl 0 1 rfl (by kernel_rfl) [c0] rfl y0 rfl;obtain⟨x0,e0,f0,b0⟩:=Tryz.opbStr _ _ _ _ _ _ _ _ _ SO;obtain rfl:c0=.string x0:=by injection e0
 have SN:=bX hf 1 rfl 1 1 rfl (by kernel_rfl) [c1] rfl y1 rfl;obtain⟨x1,⟨A1,n1,k1,e1,r1⟩,f1,b1⟩:=Tryz.opbInts _ _ _ _ _ _ _ _ _ SN;obtain rfl:c1=.slice A1 n1 k1:=by injection e1
 have SL:=bX hf 2 rfl 2 1 rfl (by kernel_rfl) [c2] rfl y2 rfl;obtain⟨x2,⟨A2,n2,k2,e2,r2⟩,f2,b2⟩:=Tryz.opbInts _ _ _ _ _ _ _ _ _ SL;obtain rfl:c2=.slice A2 n2 k2:=by injection e2
 refine⟨⟨x0,x1,x2⟩,⟨A1,n1,k1,A2,n2,k2,rfl,r1,r2⟩,⟨f0,f1,f2⟩,?_⟩;show be.bulk x0+be.bulk x1+be.bulk x2+1≤Rows.uptoBulkAll [y0.1,y1.1,y2.1]+1;simp only[Rows.uptoBulkAll];omega
theorem Tryz.opbConts:fb Tryz.prog 23 (List ah):=gG Tryz.underlying23 (by kernel_rfl) (by show 0<9;omega) Tryz.opbCont
theorem Tryz.opbStyls:fb Tryz.prog 24 (List aw):=gG Tryz.underlying24 (by kernel_rfl) (by show 0<3;omega) Tryz.opbStyl
instance:Fits aa:=⟨fun x=>Fits.fits x.title∧Fits.fits x.dots∧Fits.fits x.blank∧Fits.fits x.marked∧Fits.fits x.prec∧Fits.fits x.cont∧Fits.fits x.styl∧Fits.fits x.scan∧Fits.fits x.batch∧Fits.fits x.risk∧Fits.fits x.cell∧Fits.fits x.seed⟩
instance:be aa:=⟨fun x=>be.bulk x.title+be.bulk x.dots+be.bulk x.blank+be.bulk x.marked+be.bulk x.prec+be.bulk x.cont+be.bulk x.styl+be.bulk x.scan+be.bulk x.batch+be.bulk x.risk+be.bulk x.cell+be.bulk x.seed+1,fun _=>adq _ _⟩
theorem Tryz.opbElec:fb Tryz.prog 30 aa:=by
 intro H enc w base spare held fuel cs x h;obtain⟨xs,n,_,rfl,hl,nl,hf⟩:=DataW.trod_struct Tryz.underlying30 h;have hC:Tryz.prog.cellsOf 30=14:=by kernel_rfl
 have SJ:xs.length=12:=nl;have Ov:cs.length=14:=hl.trans hC;clear nl hl hC;obtain⟨c0,cs,rfl,SF⟩:=aN Ov;obtain⟨c1,cs,rfl,SE⟩:=aN SF;obtain⟨c2,cs,rfl,SD⟩:=aN SE;obtain⟨c3,cs,rfl,hY4⟩:=aN SD;obtain⟨c4,cs,rfl,hY5⟩:=aN hY4;obtain⟨c5,cs,rfl,hY6⟩:=aN hY5;obtain⟨c6,cs,rfl,hY7⟩:=aN hY6;obtain⟨c7,cs,rfl,hY8⟩:=aN hY7;obtain⟨c8,cs,rfl,hY9⟩:=aN hY8;obtain⟨c9,cs,rfl,ahL⟩:=aN hY9;obtain⟨c10,cs,rfl,ahK⟩:=aN ahL;obtain⟨c11,cs,rfl,ahJ⟩:=aN ahK;obtain⟨c12,cs,rfl,ahI⟩:=aN ahJ;obtain⟨c13,cs,rfl,ahH⟩:=aN ahI;obtain rfl:=abv ahH;obtain⟨y0,xs,rfl,SI⟩:=aN SJ;obtain⟨y1,xs,rfl,SH⟩:=aN SI;obtain⟨y2,xs,rfl,SG⟩:=aN SH;obtain⟨y3,xs,rfl,hX4⟩:=aN SG;obtain⟨y4,xs,rfl,hX5⟩:=aN hX4;obtain⟨y5,xs,rfl,hX6⟩:=aN hX5;obtain⟨y6,xs,rfl,hX7⟩:=aN hX6;obtain⟨y7,xs,rfl,hX8⟩:=aN hX7;obtain⟨y8,xs,rfl,hX9⟩:=aN hX8;obtain⟨y9,xs,rfl,ahU⟩:=aN hX9;obtain⟨y10,xs,rfl,ahT⟩:=aN ahU;obtain⟨y11,xs,rfl,ahS⟩:=aN ahT;obtain rfl:=abv ahS;have SO:=bX hf 0 rfl 0 1 rfl (by kernel_rfl) [c0] rfl y0 rfl;obtain⟨x0,e0,f0,b0⟩:=Tryz.opbStr _ _ _ _ _ _ _ _ _ SO;obtain rfl:c0=.string x0:=by injection e0
 have SN:=bX hf 1 rfl 1 1 rfl (by kernel_rfl) [c1] rfl y1 rfl;obtain⟨x1,e1,f1,b1⟩:=Tryz.opbInt _ _ _ _ _ _ _ _ _ SN;obtain rfl:c1=.int .i64 x1:=by injection e1
 have SL:=bX hf 2 rfl 2 1 rfl (by kernel_rfl) [c2] rfl y2 rfl;obtain⟨x2,e2,f2,b2⟩:=Tryz.opbInt _ _ _ _ _ _ _ _ _ SL;obtain rfl:c2=.int .i64 x2:=by injection e2
 have h3a:=bX hf 3 rfl 3 1 rfl (by kernel_rfl) [c3] rfl y3 rfl;obtain⟨x3,e3,f3,b3⟩:=Tryz.opbInt _ _ _ _ _ _ _ _ _ h3a;obtain rfl:c3=.int .i64 x3:=by injection e3
 have h4a:=bX hf 4 rfl 4 1 rfl (by kernel_rfl) [c4] rfl y4 rfl;obtain⟨x4,⟨A4,n4,k4,e4,r4⟩,f4,b4⟩:=Tryz.opbStrs _ _ _ _ _ _ _ _ _ h4a;obtain rfl:c4=.slice A4 n4 k4:=by injection e4
 have h5a:=bX hf 5 rfl 5 1 rfl (by kernel_rfl) [c5] rfl y5 rfl;obtain⟨x5,⟨A5,n5,k5,e5,r5⟩,f5,b5⟩:=Tryz.opbConts _ _ _ _ _ _ _ _ _ h5a;obtain rfl:c5=.slice A5 n5 k5:=by injection e5
 have h6a:=bX hf 6 rfl 6 1 rfl (by kernel_rfl) [c6] rfl y6 rfl;obtain⟨x6,⟨A6,n6,k6,e6,r6⟩,f6,b6⟩:=Tryz.opbStyls _ _ _ _ _ _ _ _ _ h6a;obtain rfl:c6=.slice A6 n6 k6:=by injection e6
 have h7a:=bX hf 7 rfl 7 1 rfl (by kernel_rfl) [c7] rfl y7 rfl;obtain⟨x7,e7,f7,b7⟩:=Tryz.opbInt _ _ _ _ _ _ _ _ _ h7a;obtain rfl:c7=.int .i64 x7:=by injection e7
 have h8a:=bX hf 8 rfl 8 1 rfl (by kernel_rfl) [c8] rfl y8 rfl;obtain⟨x8,e8,f8,b8⟩:=Tryz.opbInt _ _ _ _ _ _ _ _ _ h8a;obtain rfl:c8=.int .i64 x8:=by injection e8
 have h9a:=bX hf 9 rfl 9 3 rfl (by kernel_rfl) [c9,c10,c11] rfl y9 rfl;obtain⟨x9,⟨A9,n9,k9,B9,m9,j9,e9,r9,s9⟩,f9,b9⟩:=Tryz.opbRisk _ _ _ _ _ _ _ _ _ h9a;obtain⟨rfl,rfl,rfl⟩:c9=.bool x9.neg∧c10=.slice A9 n9 k9∧c11=.slice B9 m9 j9:=by
  injection e9 with q1 q2
  injection q2 with q2 q3
  injection q3 with q3 q4
  exact⟨q1,q2,q3⟩
 have ah6:=bX hf 10 rfl 12 1 rfl (by kernel_rfl) [c12] rfl y10 rfl;obtain⟨x10,e10,f10,b10⟩:=Tryz.opbInt _ _ _ _ _ _ _ _ _ ah6;obtain rfl:c12=.int .i64 x10:=by injection e10
 have ah5:=bX hf 11 rfl 13 1 rfl (by kernel_rfl) [c13] rfl y11 rfl;obtain⟨x11,e11,f11,b11⟩:=Tryz.opbStr _ _ _ _ _ _ _ _ _ ah5;obtain rfl:c13=.string x11:=by injection e11
 refine⟨⟨x0,x1,x2,x3,x4,x5,x6,x7,x8,x9,x10,x11⟩,⟨A4,n4,k4,A5,n5,k5,A6,n6,k6,A9,n9,k9,B9,m9,j9,rfl,r4,r5,r6,r9,s9⟩,⟨f0,f1,f2,f3,f4,f5,f6,f7,f8,f9,f10,f11⟩,?_⟩;show be.bulk x0+be.bulk x1+be.bulk x2+be.bulk x3+be.bulk x4+be.bulk x5+be.bulk x6+be.bulk x7+be.bulk x8+be.bulk x9+be.bulk x10+be.bulk x11+1≤Rows.uptoBulkAll [y0.1,y1.1,y2.1,y3.1,y4.1,y5.1,y6.1,y7.1,y8.1,y9.1,y10.1,y11.1]+1;simp only[Rows.uptoBulkAll];omega
instance:Fits aj:=⟨fun x=>Fits.fits x.prec∧Fits.fits x.issued∧Fits.fits x.spoilt∧Fits.fits x.cast⟩
instance:be aj:=⟨fun x=>be.bulk x.prec+be.bulk x.issued+be.bulk x.spoilt+be.bulk x.cast+1,fun _=>adq _ _⟩
theorem Tryz.opbAcct:fb Tryz.prog 73 aj:=by
 intro H enc w base spare held fuel cs x h;obtain⟨xs,n,_,rfl,hl,nl,hf⟩:=DataW.trod_struct Tryz.underlying73 h;have hC:Tryz.prog.cellsOf 73=4:=by kernel_rfl
 have SJ:xs.length=4:=nl;have Ov:cs.length=4:=hl.trans hC;clear nl hl hC;obtain⟨c0,cs,rfl,SF⟩:=aN Ov;obtain⟨c1,cs,rfl,SE⟩:=aN SF;obtain⟨c2,cs,rfl,SD⟩:=aN SE;obtain⟨c3,cs,rfl,hY4⟩:=aN SD;obtain rfl:=abv hY4;obtain⟨y0,xs,rfl,SI⟩:=aN SJ;obtain⟨y1,xs,rfl,SH⟩:=aN SI;obtain⟨y2,xs,rfl,SG⟩:=aN SH;obtain⟨y3,xs,rfl,hX4⟩:=aN SG;obtain rfl:=abv hX4;have SO:=bX hf 0 rfl 0 1 rfl (by kernel_rfl) [c0] rfl y0 rfl;obtain⟨x0,e0,f0,b0⟩:=Tryz.opbInt _ _ _ _ _ _ _ _ _ SO;obtain rfl:c0=.int .i64 x0:=by injection e0
 have SN:=bX hf 1 rfl 1 1 rfl (by kernel_rfl) [c1] rfl y1 rfl;obtain⟨x1,e1,f1,b1⟩:=Tryz.opbInt _ _ _ _ _ _ _ _ _ SN;obtain rfl:c1=.int .i64 x1:=by injection e1
 have SL:=bX hf 2 rfl 2 1 rfl (by kernel_rfl) [c2] rfl y2 rfl;obtain⟨x2,e2,f2,b2⟩:=Tryz.opbInt _ _ _ _ _ _ _ _ _ SL;obtain rfl:c2=.int .i64 x2:=by injection e2
 have h3a:=bX hf 3 rfl 3 1 rfl (by kernel_rfl) [c3] rfl y3 rfl;obtain⟨x3,e3,f3,b3⟩:=Tryz.opbInt _ _ _ _ _ _ _ _ _ h3a;obtain rfl:c3=.int .i64 x3:=by injection e3
 refine⟨⟨x0,x1,x2,x3⟩,rfl,⟨f0,f1,f2,f3⟩,?_⟩;show be.bulk x0+be.bulk x1+be.bulk x2+be.bulk x3+1≤Rows.uptoBulkAll [y0.1,y1.1,y2.1,y3.1]+1;simp only[Rows.uptoBulkAll];omega
theorem Tryz.opbAccts:fb Tryz.prog 31 (List aj):=gG Tryz.underlying31 (by kernel_rfl) (by show 0<4;omega) Tryz.opbAcct
instance:Fits YC:=⟨fun _=>True⟩
instance:be YC:=⟨fun _=>1,fun _=>aaW _⟩
theorem AI {e:aa} (hf:Fits.fits e) (hb:be.bulk e≤1048576):ga e∧eJ e:=by
 obtain⟨f1,f2,f3,f4,f5,f6,f7,f8,f9,f10,f11,f12⟩:=hf;have ni:be.bulk e.title+be.bulk e.dots+be.bulk e.blank+be.bulk e.marked+be.bulk e.prec+be.bulk e.cont+be.bulk e.styl+be.bulk e.scan+be.bulk e.batch+be.bulk e.risk+be.bulk e.cell+be.bulk e.seed+1≤1048576:=hb;have str:∀{s:ByteArray},be.bulk s≤1048576→dI s:=fun {s} h=>by
  have h':s.size+1≤1048576:=h;unfold dI;omega
 have lst:∀{α:Type} [be α] {l:List α},be.bulk l≤1048576→l.length≤1048576∧∀x∈l,be.bulk x≤1048576:=fun {α} _ {l} h=>by
  have h':ju l+1≤1048576:=h;have h1:=Dt l;exact⟨by omega,fun x hx=>by have:=Ds hx;omega⟩
 obtain⟨lp,mp⟩:=lst (l:=e.prec) (by omega);obtain⟨lc,mc⟩:=lst (l:=e.cont) (by omega);obtain⟨ls,ms⟩:=lst (l:=e.styl) (by omega);have hr:be.bulk e.risk.neg+be.bulk e.risk.num+be.bulk e.risk.den+1≤1048576:=by
  have:be.bulk e.risk=be.bulk e.risk.neg+be.bulk e.risk.num+be.bulk e.risk.den+1:=rfl;omega
 obtain⟨ln,_⟩:=lst (l:=e.risk.num) (by omega);obtain⟨ld,_⟩:=lst (l:=e.risk.den) (by omega);have UY:∀x∈e.cont,ow x∧dI x.name∧∀s∈x.cands,dI s:=fun x hx=>by
  obtain⟨g1,g2,g3,g4,g5,g6,g7,g8,g9⟩:=f6.2 x hx;have UZ:be.bulk x.name+be.bulk x.cands+be.bulk x.method+be.bulk x.seats+be.bulk x.ranks+be.bulk x.digits+be.bulk x.ties+be.bulk x.over+be.bulk x.skip+1≤1048576:=mc x hx;obtain⟨l1,m1⟩:=lst (l:=x.cands) (by omega);exact⟨⟨g3,g4,g5,g6,g7,g8,g9,by omega⟩,str (by omega),fun s hs=>str (m1 s hs)⟩
 have NG:∀x∈e.styl,x.prec.length≤1048576∧x.cont.length≤1048576∧dI x.name:=fun x hx=>by
  have UZ:be.bulk x.name+be.bulk x.prec+be.bulk x.cont+1≤1048576:=ms x hx;obtain⟨l1,_⟩:=lst (l:=x.prec) (by omega);obtain⟨l2,_⟩:=lst (l:=x.cont) (by omega);exact⟨l1,l2,str (by omega)⟩
 exact⟨⟨f2,f3,f4,f8,f9,f11,fun x hx=>(UY x hx).1,fun x hx=>⟨by have:=(NG x hx).1;omega,by have:=(NG x hx).2.1;omega⟩,by omega,by omega,by omega,⟨by omega,by omega⟩⟩,
  ⟨str (by omega),str (by omega),fun s hs=>str (mp s hs),fun x hx=>(UY x hx).2,fun x hx=>(NG x hx).2.2,by omega⟩⟩
theorem Tryz.own':ownKnob Tryz.prog.godebug=none:=by kernel_rfl
theorem Tryz.laidOut:laidOutB Tryz.prog=true:=by kernel_rfl
theorem LH:Rows.laid_internal_strconv_uint64pow10=(Lib.tabData .u64 Lib.pow10Tab:DataW Unit):=rfl
theorem IV {W:World} (h:Lib.VarReads Tryz.prog W "internal/strconv.uint64pow10" Rows.laid_internal_strconv_uint64pow10):PD W.heap.size W:=by
 have hT:Lib.TabIs Tryz.prog W "internal/strconv.uint64pow10" .u64 Lib.pow10Tab:=by
  obtain⟨g,t,cs,fuel,p,hg,hty,ago,hd⟩:=h;obtain⟨g0,hg0,ht0⟩:∃g0,Tryz.prog.globalNamed "internal/strconv.uint64pow10" =some g0∧(Tryz.prog.globals[g0]?).map (·.type)=some 257:=⟨(Tryz.prog.globalNamed "internal/strconv.uint64pow10").getD 0,by kernel_rfl,by kernel_rfl⟩;obtain rfl:=aae (hg.symm.trans hg0);obtain rfl:=aae (hty.symm.trans ht0);rw[LH] at hd;unfold Lib.TabIs;rw[ago,←Lib.cells_of_tab Tryz.underlying257 Tryz.underlying198 (by kernel_rfl) (by kernel_rfl) hd]
 exact Lib.tabBelow_of_tabIs hT
theorem pg {H:Type} {enc:TypeId×Value→H} {C:Checked} {os:Os} {f:FuncId} {fn:Func} {s:OpenSpec} {conds:List PathCond} {apart:Bool} {laid:List (String×DataW Unit)} (modest:Bool) (w0:World) (args:Array Value) (hos:w0.os=os) (P5:(w0.forCall (fun _ _=>0) ⟨#[],args,[]⟩).Shaped C.prog) (uf:Input.okWideB C.prog (w0.forCall (fun _ _=>0) ⟨#[],args,[]⟩) f ⟨#[],args,[]⟩=true) (nf:s.preRow enc C.prog fn conds apart laid (w0.forCall (fun _ _=>0) ⟨#[],args,[]⟩).memory args) : ∃(w:World) (tape:Tape) (i:Input),w.os=os∧(w.forCall tape i).Shaped C.prog∧i.vars=[]∧Input.okWide C.prog (w.forCall tape i) .any w.heap.size f i∧ s.preRow enc C.prog fn conds apart laid (w.forCall tape i).memory i.args∧({ modest:=modest }:Assume).holds C.prog (lone (Frame.enter C.prog f i.args .normal) [] (w.forCall tape i)):=
 ⟨w0,fun _ _=>0,⟨#[],args,[]⟩,hos,P5,(Input.okWide_of_okWideB (base:=0) uf).1,(Input.okWide_of_okWideB uf).2,nf,by
  simp only[Assume.holds];exact⟨by simp,by simp,fun _=>Modest.zero,by simp,by simp⟩⟩
theorem GG {H:Type} {d:DataW H} {l:List (DataW H)} (h:d∈l):Rows.uptoBulk d≤Rows.uptoBulkAll l:=by
 induction l with
 | nil=>cases h
 | cons x r ih=>
  simp only[Rows.uptoBulkAll];rcases aba.1 h with e|e
  ·subst e;omega
  ·have:=ih e;omega
end Go.Proofs.YtjlhbfbdcfajfaaGreatDoor
