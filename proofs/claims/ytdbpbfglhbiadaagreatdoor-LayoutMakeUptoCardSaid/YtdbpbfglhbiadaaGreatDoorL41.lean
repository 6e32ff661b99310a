/- La7 Open OpnB OpnW -/
import Derived.Test.YtdbpbfglhbiadaaGreatDoorL00
import Derived.Test.YtdbpbfglhbiadaaGreatDoorL34
import Derived.Test.YtdbpbfglhbiadaaGreatDoorL40
import Derived.Test.YtdbpbfglhbiadaaGreatDoorL01
import Derived.ProofKit
import Derived.Deep.Slices
import Derived.Deep.Fields
import Derived.ChangeSame
import Derived.Test.YtdbpbfglhbiadaaGreatDoorRows
import Derived.Test.YtdbpbfglhbiadaaGreatDoorL22
import Derived.Test.YtdbpbfglhbiadaaGreatDoorL15
import Derived.LaidMore
import Derived.OpenShut
import Derived.Stop.Joined
import Derived.SevenTiedAt
import Derived.Lay
import Derived.LaidOnce
import Derived.LaidLaws
import Derived.Lib.LaidU8
import Derived.Lib.AppendIntMem
import Derived.Carry
import Derived.ShutString
import Derived.ChangeOld
import Derived.Deep.DeepHandedRow
set_option maxHeartbeats 8000000
set_option maxRecDepth 100000
namespace Go.Proofs.YtdbpbfglhbiadaaGreatDoor
open Go Go.RowKit Go.ChangeShapes Go.WideShapes Go.Deep Go.ChangeAt Go.WideMaps Go.WideElems Go.ChangeMaps
noncomputable abbrev leF:=Tryz.f27
noncomputable abbrev ajx:Rg Tryz.prog leF.ntmps:=vI C0 leF
abbrev leL:List (Nat×SS):=[(2,NQ),(3,NQ),(5,sI)]
abbrev LeE:=LE leL [] []
def gh.ts (s:gh):List fa:=s.2.2.2.2.2.1
def fa.z:fa:=(0,0,0,0,0,())
def aa0 (a b:fa):Bool:=a.1==b.1&&(a.2.1==b.2.1&&(a.2.2.1==b.2.2.1&&(a.2.2.2.1==b.2.2.2.1&&(a.2.2.2.2.1==b.2.2.2.2.1&&true))))
theorem LN (a:fa):aa0 a a=true:=by unfold aa0;simp
def leT (a b:gh) (i:Int):T LeE:=.br (decide (i<a.ts.length)) (.nd (0≤i∧i<a.ts.length) (.nd (0≤i∧i<b.ts.length) (.br (true ^^ aa0 (a.ts.getD i.toNat fa.z) (b.ts.getD i.toNat fa.z)) (.lf (.ret (.one (.val (.bool false))) ())) (.nd (cf (i+1)) (.lf (.back (a,b,i+1,()))))))) (.lf (.out ()))
theorem aev:eS ajx 0 0 leL [] [] fun((a:gh),(b:gh),(i:Int),_)=>.nd (0≤i∧i≤a.ts.length∧a.ts.length≤1099511627776∧b=a) (.lf (.out ())):=by
 refine eY _ (nL _ _) 99 0 0 leL [] [] (fun((a:gh),(b:gh),(i:Int),_)=>leT a b i) (fun((a:gh),_,(i:Int),_)=>a.ts.length-i.toNat) ?_;rintro⟨(a:gh),(b:gh),(i:Int),_⟩ r _ ⟨⟨h0,h1,h2,h3⟩,hr⟩;obtain rfl:b=a:=h3;obtain⟨k,rfl⟩:∃k:Nat,i=k:=⟨i.toNat,by omega⟩;obtain rfl:(LE.out ():LeE)=r:=hr;show∃q,(leT b b k).hit q∧_;unfold leT;rw[LN];by_cases hk:k<b.ts.length
 ·have hZ:0≤(k:Int)∧(k:Int)<b.ts.length:=⟨by omega,by omega⟩;exact⟨.back (b,b,(k:Int)+1,()),aZ (decide_eq_true (by omega)) ⟨hZ,hZ,bh rfl ⟨⟨by omega,by omega⟩,rfl⟩⟩,(by show b.ts.length-(k+1)<b.ts.length-k;omega),⟨by omega,by omega,h2,rfl⟩,rfl⟩
 ·exact⟨.out (),bh (decide_eq_false (by omega)) rfl,rfl⟩
def Cp.ts (s:Cp):List fa:=s.2.2.2.2.2.1
def aew (a b:Cp):T XV:=Hb (.lf (aB false)) [a.1==b.1,a.2.1==b.2.1,a.2.2.1==b.2.2.1,a.2.2.2.1==b.2.2.2.1,a.2.2.2.2.1==b.2.2.2.2.1,(a.ts.length:Int)==b.ts.length] (.nd ((0:Int)≤0∧(0:Int)≤a.ts.length∧a.ts.length≤1099511627776∧(b:gh)=a) (.lf (aB true)))
theorem QG:av Tryz.prog 27 false (aU [(0,.st 19),(1,.st 19)] fun((a:Cp),(b:Cp),_)=>.nd (a.ts.length≤1099511627776∧b=a) (.lf (aB true))):=
 bC (C:=C0) ((nL _ _).add 0 _ aev) false 99 [(0,.st 19),(1,.st 19)] (fun((a:Cp),(b:Cp),_)=>aew a b)
  (fun⟨(a:Cp),(b:Cp),_⟩ r _ ⟨⟨h0,h1⟩,h⟩=>by
   obtain rfl:aB true=r:=h;obtain rfl:b=a:=h1;exact⟨EY (by exact⟨⟨by omega,by omega,h0,rfl⟩,rfl⟩) _ (by simp),.inr rfl⟩) Tryz.func27
noncomputable def anA:ik Tryz.prog:=dE CO [⟨_,_,_,F7⟩,⟨_,_,_,DU⟩] []
theorem ac9:(jV dX 1).2.2.2.2.2.1.length=9:=by kernel_rfl
def VZ:Int:=(jV dX 1).2.2.2.2.2.1.length
def ams:T XV:=.nd (dV dX∧df dX) (.br true (.br true (.br true (.br true (.nd ((0:Int)≤0∧(0:Int)<VZ) (.br true (.nd ((0:Int)≤0∧(0:Int)<VZ) (.lf (aB true))) (.lf (aB false)))) (.lf (aB false))) (.lf (aB false))) (.lf (aB false))) (.lf (aB false)))
theorem Ho:av Tryz.prog 25 false (aU [] fun _=>.lf (aB true)):=
 bC (C:=anA) (nL _ _) false 99 [] (fun _=>ams) (fun _ r _ h=>by
  obtain rfl:aB true=r:=h;have hl:(0:Int)<VZ:=by unfold VZ;rw[ac9];decide
  exact⟨⟨⟨yK,De⟩,aZ rfl (aZ rfl (aZ rfl (aZ rfl ⟨⟨by omega,hl⟩,aZ rfl ⟨⟨by omega,hl⟩,rfl⟩⟩)))⟩,.inr rfl⟩) Tryz.func25
noncomputable def Clm:ik Tryz.prog:=dE CO [⟨_,_,_,Ho⟩,⟨_,_,_,DU⟩,⟨_,_,_,Kd⟩,⟨_,_,_,NU⟩,⟨_,_,_,QG⟩] []
theorem AF {cs:List ae} (hc:∀x∈cs,uR x) (d:Int):∀{ks:List Int} {row:Int},(∀k∈ks,0≤k∧k<cs.length)→(gA cs d ks row).length≤49*ks.length
 | [],row,_=>aaJ _
 | k::ks,row,h=>by
  have hk:=h k aaw;have hx:=hc (cs.getD k.toNat ae.z0) (by rw[aai,aae (by omega)];exact abF _);have ih:=AF hc d (ks:=ks) (row:=row+(cs.getD k.toNat ae.z0).cands.length+1) fun k' mn=>h k' (aaN _ mn);have hq:(cs.getD k.toNat ae.z0).cands.length*(cs.getD k.toNat ae.z0).ranks.toNat≤7*7:=Nat.mul_le_mul hx.2.2 (by have:=hx.1.2;omega);rw[gA,aaD,mE,aaO];omega
theorem D2 {e:aa} (hf:tg e) {p:Int} (h0:0≤p) (h1:p<e.prec.length):(Cp.ts (lN e p)).length≤196:=by
 obtain⟨hs,hy⟩:=wz hf h0 h1;have:=AF (oJ hf) e.dots (row:=0) hy.cont;have hl:=hy.lcont;show(gA e.cont e.dots (bo e p) 0).length≤196;have:(gA e.cont e.dots (bo e p) 0).length≤49*(bo e p).length:=this;have hl:(bo e p).length≤4:=hl.2;omega
def Ud (e:aa) (p:Int):T XV:=.br true (.br (oB e p==4) (.nd ((Cp.ts (jV e p)).length≤1099511627776∧Pb=jV e p) (.lf (aB true))) (.lf (aB false))) (.lf (aB false))
def WM (e:aa) (p:Int):T XV:=.br true (.br (oB e p==0) (.nd (dV e∧tg e∧0≤p∧p<e.prec.length) (.nd ((Cp.ts (jV e p)).length≤1099511627776∧lN e p=jV e p) (.lf (aB true)))) (.lf (aB false))) (.lf (aB false))
def aep (e:aa) (p:Int):T XV:=.nd (dV e∧df e) (.br (!lD e) (.lf (aB true)) (.nd (dV e∧df e) (.br (decide (p<0)) (Ud e p) (.br (decide (p≥e.prec.length)) (Ud e p) (WM e p)))))
theorem DV {e:aa} {p:Int} (hv:gn e=true) (hp:p<0∨(e.prec.length:Int)≤p):(Ud e p).hit (aB true):=by
 have h1:oB e p=4:=by unfold oB;rw[hv,if_neg (by decide),if_pos hp]
 have h2:jV e p=Pb:=by unfold jV;rw[h1];rfl
 unfold Ud;rw[h1,h2];exact aZ rfl (aZ rfl ⟨⟨ab0 _,rfl⟩,rfl⟩)
theorem lawLM_ok:av Tryz.prog 7 false (aU [(0,.st 5),(1,sI)] fun((e:aa),(_:Int),_)=>.nd (dV e∧df e) (.lf (aB true))):=
 bC (C:=Clm) (nL _ _) false 99 [(0,.st 5),(1,sI)] (fun((e:aa),(p:Int),_)=>aep e p)
  (fun⟨(e:aa),(p:Int),_⟩ r _ ⟨h0,h⟩=>by
   obtain rfl:aB true=r:=h;refine⟨⟨h0,?_⟩,.inr rfl⟩;have UF:=valid_eq e;cases hv:lD e with
   | false=>exact aZ rfl rfl
   | true=>
    rw[hv] at UF;refine bh rfl ⟨h0,?_⟩;by_cases h1:p<0
    ·exact aZ (decide_eq_true h1) (DV UF.symm (.inl h1))
    ·refine bh (decide_eq_false h1) ?_;by_cases h2:p≥e.prec.length
     ·exact aZ (decide_eq_true h2) (DV UF.symm (.inr h2))
     ·refine bh (decide_eq_false h2) ?_;have hf:=AQ UF.symm;have h3:oB e p=0:=by unfold oB;rw[←UF,if_neg (by decide),if_neg (by omega)]
      have h4:jV e p=lN e p:=by unfold jV;rw[h3];rfl
      unfold WM;rw[h3,h4];have hl:=D2 hf (p:=p) (by omega) (by omega);exact aZ rfl (aZ rfl ⟨⟨h0.1,hf,by omega,by omega⟩,⟨by omega,rfl⟩,rfl⟩)) Tryz.func7
theorem av.retVL {P:Program} {f:FuncId} {al:Bool} {F:List XV→T XV} (h:av P f al F) {w:World} {S:Nat→Prop} {xs:List XV} {vs:List Value} {u:Value} (hW:Wd w) (hS:∀b,S b→b<w.heap.size) (hx:F2 (XR [] w S) xs vs) (hr:(F xs).hit (.one (.sym u))):Calls P f vs.toArray w (jZ w u):=
 Calls.mono (h w S xs vs _ hW hS hx hr) fun _ _ ⟨_,_,h1,h2,_,h3⟩=>⟨h1.trans (congrArg _ h3.1),h2⟩
theorem lawLM_any {W:World} {B:Nat} (hT:Mt B W) (hB:B≤W.heap.size) {v:Value} {e:aa} {p:Int} (h:SV W (fun b=>b<W.heap.size) v e) (he:dV e∧df e):Calls Tryz.prog 7 #[v,.int .i64 p] W (jZ W (.bool true)):=
 lawLM_ok.retVL (xs:=[.agg (kS (.st 5) e),aI p]) (vs:=[v,.int .i64 p]) ⟨B,hB,hT⟩ (fun _ h=>h) (.cons (h.xr 5) (.cons ⟨rfl,rfl⟩ .nil)) (⟨he,rfl⟩:(T.nd (dV e∧df e) (.lf (aB true))).hit (aB true))
class Fits (α:Type) where
 fits:α→Prop
instance:Fits Int:=⟨fun x=>-9223372036854775808≤x∧x≤9223372036854775807⟩
instance:Fits Bool:=⟨fun _=>True⟩
instance:Fits UInt8:=⟨fun _=>True⟩
instance:Fits ByteArray:=⟨fun s=>s.size≤9223372036854775807⟩
instance instFitsL {α:Type} [Fits α]:Fits (List α):=⟨fun l=>l.length≤9223372036854775807∧∀x∈l,Fits.fits x⟩
theorem Ew {α:Type} (n:Nat) (p:Nat→α→Prop) (h:∀i,i<n→∃a,p i a):∃l:List α,l.length=n∧∀i a,l[i]?=some a→p i a:=by
 induction n with
 | zero=>exact⟨[],rfl,fun i a hi=>by simp at hi⟩
 | succ n ih=>
  obtain⟨l,hl,hp⟩:=ih (fun i hi=>h i (by omega));obtain⟨a,ha⟩:=h n (by omega);refine⟨l++[a],by simp[hl],fun i b hi=>?_⟩;rw[List.getElem?_append] at hi;split at hi
  ·exact hp i b hi
  ·have:i=n:=by
    rcases Nat.lt_or_ge (i-l.length) 1 with h|h
    ·omega
    ·rw[abN (by simpa using h)] at hi;cases hi
   subst this;rw[hl,aee] at hi;simp at hi;subst hi;exact ha
class bg (α:Type) where
 bulk:α→Nat
 pos:∀a,1≤bulk a
instance:bg Int:=⟨fun _=>1,fun _=>aaJ _⟩
instance:bg Bool:=⟨fun _=>1,fun _=>aaJ _⟩
instance:bg UInt8:=⟨fun _=>1,fun _=>aaJ _⟩
instance:bg (BitVec 32):=⟨fun _=>1,fun _=>aaJ _⟩
instance:bg ByteArray:=⟨fun s=>s.size+1,fun _=>ada _ _⟩
def jF {α:Type} [bg α] (l:List α):Nat:=(l.map bg.bulk).sum
instance {α:Type} [bg α]:bg (List α):=⟨fun l=>jF l+1,fun _=>ada _ _⟩
instance:Fits (BitVec 32):=⟨fun _=>True⟩
theorem E3 {α:Type} [bg α] (l:List α):l.length≤jF l:=by
 induction l with
 | nil=>exact aaJ _
 | cons a l ih=>
  have:=bg.pos a;show l.length+1≤bg.bulk a+jF l;omega
theorem E2 {α:Type} [bg α] {l:List α} {a:α} (h:a∈l):bg.bulk a≤jF l:=by
 induction l with
 | nil=>cases h
 | cons b l ih=>
  show _≤bg.bulk b+jF l;rcases aaP.1 h with rfl|h
  ·omega
  ·have:=ih h;omega
def fZ (P:Program) (t:TypeId) (α:Type) [aF α] [Fits α] [bg α]:Prop:=
 ∀(H:Type) (enc:TypeId×Value→H) (w:World) (base:Nat) (spare:Nat→Bool) (held:Bool) (fuel:Nat) (cs:List Value) (x:DataW H×List MemPlace),
  DataW.trod enc P w base spare held fuel t cs=some x→∃a:α,aF.rep w (fun b=>b<w.heap.size) cs a∧Fits.fits a∧bg.bulk a≤Rows.uptoBulk x.1
theorem Gj {P:Program} {t:TypeId} (ht:P.underlying t=some (.int .i64)):fZ P t Int:=by
 intro H enc w base spare held fuel cs x h;obtain⟨n,rfl,rfl,hw⟩:=DataW.trod_int ht h;have hw':-9223372036854775808≤n∧n≤9223372036854775807:=by simpa[Lit.wf,IntKind.min,IntKind.max,IntKind.signed,IntKind.bits] using hw
 exact⟨n,rfl,hw',by simp[Rows.uptoBulk,bg.bulk]⟩
theorem Dy {P:Program} {t:TypeId} (ht:P.underlying t=some .bool):fZ P t Bool:=by
 intro H enc w base spare held fuel cs x h;obtain⟨n,rfl,rfl⟩:=DataW.trod_bool ht h;exact⟨n,rfl,trivial,by simp[Rows.uptoBulk,bg.bulk]⟩
theorem yN {P:Program} {t:TypeId} (ht:P.underlying t=some .string):fZ P t ByteArray:=by
 intro H enc w base spare held fuel cs x h;obtain⟨s,rfl,rfl,hs⟩:=DataW.trod_string ht h;exact⟨s,rfl,by unfold maxLen at hs;exact hs,by simp[Rows.uptoBulk,bg.bulk]⟩
theorem Dx {P:Program} {t:TypeId} (ht:P.underlying t=some (.int .u32)):fZ P t (BitVec 32):=by
 intro H enc w base spare held fuel cs x h;obtain⟨n,rfl,rfl,hw⟩:=DataW.trod_int ht h;have hb:0≤n∧n≤4294967295:=by simpa[Lit.wf,IntKind.min,IntKind.max,IntKind.signed,IntKind.bits] using hw
 refine⟨BitVec.ofNat 32 n.toNat,?_,trivial,by simp[Rows.uptoBulk,bg.bulk]⟩;show[Value.int .u32 n]=[Value.int .u32 ((BitVec.ofNat 32 n.toNat).toNat:Int)];rw[BitVec.toNat_ofNat];congr 2
 omega
theorem yi {α H:Type} [bg α]:∀(n:Nat) (l:List α) (D:Nat→DataW H),l.length=n→(∀i a,l[i]?=some a→bg.bulk a≤Rows.uptoBulk (D i))→jF l≤Rows.uptoBulkAll ((List.range n).map D)
 | 0,l,D,hl,_=>by
  have:=aaS hl;subst this;exact ab0 _
 | n+1,l,D,hl,h=>by
  cases l with
  | nil=>cases hl
  | cons a l=>
   rw[List.range_succ_eq_map,acg,List.map_map];show bg.bulk a+jF l≤Rows.uptoBulk (D 0)+Rows.uptoBulkAll ((List.range n).map (D∘Nat.succ));have h1:=h 0 a rfl;have h2:=yi n l (D∘Nat.succ) (by simpa using hl) (fun i b hb=>h (i+1) b (by simpa using hb));omega
theorem iW {P:Program} {t e:TypeId} {α:Type} [aF α] [Fits α] [bg α] (ht:P.underlying t=some (.slice e)) (jM:P.cellsOf e=aF.sz α) (hp:0<aF.sz α) (he:fZ P e α):fZ P t (List α):=by
 intro H enc w base spare held fuel cs x h;rcases open_slice ht h with⟨rfl,rfl⟩|⟨a,len,cap,m,n,D,Pl,rfl,_,hl,hm,hmm,rfl,hi⟩
 ·exact⟨[],⟨none,0,0,rfl,RS.nil _ _⟩,⟨ab0 _,fun x hx=>by simp at hx⟩,by simp[Rows.uptoBulk,bg.bulk,jF]⟩
 ·have hlm:len≤m:=by rw[hmm];split<;>omega
  obtain⟨l,bG,hl2⟩:=Ew (α:=α) len (fun i x=>(∃cs,aF.rep w (fun b=>b<w.heap.size) cs x∧cL w (a.add (i*aF.sz α)) cs∧Fits.fits x)∧bg.bulk x≤Rows.uptoBulk (D i)) (fun i ME=>by
   obtain⟨iQ,hc,UI⟩:=hi i (by omega);obtain⟨x,hx,hf,sk⟩:=he H enc w base spare held n iQ _ UI;rw[jM] at hc;obtain⟨_,vn,lU⟩:=World.cells?_some hc;refine⟨x,⟨iQ,hx,fun j u hj=>?_,hf⟩,sk⟩;have hjl:j<aF.sz α:=by
    have:=o5 hj;omega
   rw[lU j hjl];exact hj)
  refine⟨l,⟨some a,len,cap,rfl,bG.symm,hl,hm,fun hn=>?_⟩,⟨by unfold maxLen at hm;omega,fun x hx=>?_⟩,?_⟩
  ·obtain⟨x0,ji⟩:∃x0,l[0]?=some x0:=⟨l[0]'(by omega),aae (by omega)⟩;obtain⟨⟨ya,Cz,Ql,_⟩,_⟩:=hl2 0 x0 ji;have apb:=aF.len Cz;obtain⟨u,hu⟩:∃u,ya[0]?=some u:=⟨ya[0]'(by omega),aae (by omega)⟩;have ft:=Ql 0 u hu;have Qj:w.cell? a=some u:=by simpa[Addr.add] using ft
   have hs:=Km Qj;have hb:=World.block_lt_of_cell? w _ Qj;obtain⟨b,o,s⟩:=a;simp at hs;subst hs;exact⟨b,o,rfl,hb,fun i x hx=>by obtain⟨⟨cs,h1,h2,_⟩,_⟩:=hl2 i x hx;exact⟨cs,h1,h2⟩⟩
  ·obtain⟨i,ME,rfl⟩:=List.getElem_of_mem hx;obtain⟨⟨cs,_,_,hf⟩,_⟩:=hl2 i _ (aae ME);exact hf
  ·have:=yi (H:=H) len l D bG (fun i a ha=>(hl2 i a ha).2);show jF l+1≤Rows.uptoBulkAll ((List.range len).map D)+Rows.uptoBulkAll _+1;omega
theorem cP {P:Program} {H:Type} {enc:TypeId×Value→H} {w:World} {base:Nat} {spare:Nat→Bool} {held:Bool} {n:Nat} {fs:Array Field} {cs:List Value} {xs:List (DataW H×List MemPlace)} (hf:∀(i:Nat) (f:Field),fs[i]?=some f→DataW.trod enc P w base spare held n f.type ((cs.drop f.offset).take (P.cellsOf f.type))=xs[i]?) (i:Nat) {f:Field} (hi:fs[i]?=some f) (k m:Nat) (ho:f.offset=k) (hc:P.cellsOf f.type=m) (l:List Value) (hl:(cs.drop k).take m=l) (y:DataW H×List MemPlace) (hy:xs[i]?=some y):DataW.trod enc P w base spare held n f.type l=some y:=by
 have h:=hf i f hi;rw[ho,hc,hl,hy] at h;exact h
theorem aY {α:Type} {n:Nat} {l:List α} (h:l.length=n+1):∃v m,l=v::m∧m.length=n:=by
 cases l with
 | nil=>cases h
 | cons v m=>exact⟨v,m,rfl,by simpa using h⟩
theorem Tryz.opbInt:fZ Tryz.prog 3 Int:=Gj Tryz.underlying3
theorem Tryz.opbBool:fZ Tryz.prog 4 Bool:=Dy Tryz.underlying4
theorem Tryz.opbStr:fZ Tryz.prog 9 ByteArray:=yN Tryz.underlying9
theorem Tryz.opbLimb:fZ Tryz.prog 172 (BitVec 32):=Dx Tryz.underlying172
theorem Tryz.opbInts:fZ Tryz.prog 40 (List Int):=iW Tryz.underlying40 (by kernel_rfl) (by show 0<1;omega) Tryz.opbInt
theorem Tryz.opbStrs:fZ Tryz.prog 22 (List ByteArray):=iW Tryz.underlying22 (by kernel_rfl) (by show 0<1;omega) Tryz.opbStr
theorem Tryz.opbNat:fZ Tryz.prog 26 (List (BitVec 32)):=iW Tryz.underlying26 (by kernel_rfl) (by show 0<1;omega) Tryz.opbLimb
instance:Fits Raw:=⟨fun x=>Fits.fits x.neg∧Fits.fits x.num∧Fits.fits x.den⟩
instance:bg Raw:=⟨fun x=>bg.bulk x.neg+bg.bulk x.num+bg.bulk x.den+1,fun _=>ada _ _⟩
theorem Tryz.opbRisk:fZ Tryz.prog 28 Raw:=by
 intro H enc w base spare held fuel cs x h;obtain⟨xs,n,_,rfl,hl,pC,hf⟩:=DataW.trod_struct Tryz.underlying28 h;have hC:Tryz.prog.cellsOf 28=3:=by kernel_rfl
 have hX0:xs.length=3:=pC;have U0:cs.length=3:=hl.trans hC;clear pC hl hC;obtain⟨c0,cs,rfl,hY1⟩:=aY U0;obtain⟨c1,cs,rfl,hY2⟩:=aY hY1;obtain⟨c2,cs,rfl,hY3⟩:=aY hY2;obtain rfl:=aaS hY3;obtain⟨y0,xs,rfl,hX1⟩:=aY hX0;obtain⟨y1,xs,rfl,hX2⟩:=aY hX1;obtain⟨y2,xs,rfl,hX3⟩:=aY hX2;obtain rfl:=aaS hX3;have h0a:=cP hf 0 rfl 0 1 rfl (by kernel_rfl) [c0] rfl y0 rfl;obtain⟨x0,e0,f0,b0⟩:=Tryz.opbBool _ _ _ _ _ _ _ _ _ h0a;obtain rfl:c0=.bool x0:=by injection e0
 have h1a:=cP hf 1 rfl 1 1 rfl (by kernel_rfl) [c1] rfl y1 rfl;obtain⟨x1,⟨A1,n1,k1,e1,r1⟩,f1,b1⟩:=Tryz.opbNat _ _ _ _ _ _ _ _ _ h1a;obtain rfl:c1=.slice A1 n1 k1:=by injection e1
 have h2a:=cP hf 2 rfl 2 1 rfl (by kernel_rfl) [c2] rfl y2 rfl;obtain⟨x2,⟨A2,n2,k2,e2,r2⟩,f2,b2⟩:=Tryz.opbNat _ _ _ _ _ _ _ _ _ h2a;obtain rfl:c2=.slice A2 n2 k2:=by injection e2
 refine⟨⟨x0,x1,x2⟩,⟨A1,n1,k1,A2,n2,k2,rfl,r1,r2⟩,⟨f0,f1,f2⟩,?_⟩;show bg.bulk x0+bg.bulk x1+bg.bulk x2+1≤Rows.uptoBulkAll [y0.1,y1.1,y2.1]+1;simp only[Rows.uptoBulkAll];omega
instance:Fits ae:=⟨fun x=>Fits.fits x.name∧Fits.fits x.cands∧Fits.fits x.method∧Fits.fits x.seats∧Fits.fits x.ranks∧Fits.fits x.digits∧Fits.fits x.ties∧Fits.fits x.over∧Fits.fits x.skip⟩
instance:bg ae:=⟨fun x=>bg.bulk x.name+bg.bulk x.cands+bg.bulk x.method+bg.bulk x.seats+bg.bulk x.ranks+bg.bulk x.digits+bg.bulk x.ties+bg.bulk x.over+bg.bulk x.skip+1,fun _=>ada _ _⟩
theorem Tryz.opbCont:fZ Tryz.prog 87 ae:=by
 intro H enc w base spare held fuel cs x h;obtain⟨xs,n,_,rfl,hl,pC,hf⟩:=DataW.trod_struct Tryz.underlying87 h;have hC:Tryz.prog.cellsOf 87=9:=by kernel_rfl
 have hX0:xs.length=9:=pC;have U0:cs.length=9:=hl.trans hC;clear pC hl hC;obtain⟨c0,cs,rfl,hY1⟩:=aY U0;obtain⟨c1,cs,rfl,hY2⟩:=aY hY1;obtain⟨c2,cs,rfl,hY3⟩:=aY hY2;obtain⟨c3,cs,rfl,hY4⟩:=aY hY3;obtain⟨c4,cs,rfl,hY5⟩:=aY hY4;obtain⟨c5,cs,rfl,hY6⟩:=aY hY5;obtain⟨c6,cs,rfl,hY7⟩:=aY hY6;obtain⟨c7,cs,rfl,hY8⟩:=aY hY7;obtain⟨c8,cs,rfl,hY9⟩:=aY hY8;obtain rfl:=aaS hY9;obtain⟨y0,xs,rfl,hX1⟩:=aY hX0;obtain⟨y1,xs,rfl,hX2⟩:=aY hX1;obtain⟨y2,xs,rfl,hX3⟩:=aY hX2;obtain⟨y3,xs,rfl,hX4⟩:=aY hX3;obtain⟨y4,xs,rfl,hX5⟩:=aY hX4;obtain⟨y5,xs,rfl,hX6⟩:=aY hX5;obtain⟨y6,xs,rfl,hX7⟩:=aY hX6;obtain⟨y7,xs,rfl,hX8⟩:=aY hX7;obtain⟨y8,xs,rfl,hX9⟩:=aY hX8;obtain rfl:=aaS hX9;have h0a:=cP hf 0 rfl 0 1 rfl (by kernel_rfl) [c0] rfl y0 rfl;obtain⟨x0,e0,f0,b0⟩:=Tryz.opbStr _ _ _ _ _ _ _ _ _ h0a;obtain rfl:c0=.string x0:=by injection e0
 have h1a:=cP hf 1 rfl 1 1 rfl (by kernel_rfl) [c1] rfl y1 rfl;obtain⟨x1,⟨A1,n1,k1,e1,r1⟩,f1,b1⟩:=Tryz.opbStrs _ _ _ _ _ _ _ _ _ h1a;obtain rfl:c1=.slice A1 n1 k1:=by injection e1
 have h2a:=cP hf 2 rfl 2 1 rfl (by kernel_rfl) [c2] rfl y2 rfl;obtain⟨x2,e2,f2,b2⟩:=Tryz.opbInt _ _ _ _ _ _ _ _ _ h2a;obtain rfl:c2=.int .i64 x2:=by injection e2
 have h3a:=cP hf 3 rfl 3 1 rfl (by kernel_rfl) [c3] rfl y3 rfl;obtain⟨x3,e3,f3,b3⟩:=Tryz.opbInt _ _ _ _ _ _ _ _ _ h3a;obtain rfl:c3=.int .i64 x3:=by injection e3
 have h4a:=cP hf 4 rfl 4 1 rfl (by kernel_rfl) [c4] rfl y4 rfl;obtain⟨x4,e4,f4,b4⟩:=Tryz.opbInt _ _ _ _ _ _ _ _ _ h4a;obtain rfl:c4=.int .i64 x4:=by injection e4
 have h5a:=cP hf 5 rfl 5 1 rfl (by kernel_rfl) [c5] rfl y5 rfl;obtain⟨x5,e5,f5,b5⟩:=Tryz.opbInt _ _ _ _ _ _ _ _ _ h5a;obtain rfl:c5=.int .i64 x5:=by injection e5
 have h6a:=cP hf 6 rfl 6 1 rfl (by kernel_rfl) [c6] rfl y6 rfl;obtain⟨x6,e6,f6,b6⟩:=Tryz.opbInt _ _ _ _ _ _ _ _ _ h6a;obtain rfl:c6=.int .i64 x6:=by injection e6
 have h7a:=cP hf 7 rfl 7 1 rfl (by kernel_rfl) [c7] rfl y7 rfl;obtain⟨x7,e7,f7,b7⟩:=Tryz.opbInt _ _ _ _ _ _ _ _ _ h7a;obtain rfl:c7=.int .i64 x7:=by injection e7
 have h8a:=cP hf 8 rfl 8 1 rfl (by kernel_rfl) [c8] rfl y8 rfl;obtain⟨x8,e8,f8,b8⟩:=Tryz.opbInt _ _ _ _ _ _ _ _ _ h8a;obtain rfl:c8=.int .i64 x8:=by injection e8
 refine⟨⟨x0,x1,x2,x3,x4,x5,x6,x7,x8⟩,⟨A1,n1,k1,rfl,r1⟩,⟨f0,f1,f2,f3,f4,f5,f6,f7,f8⟩,?_⟩;show bg.bulk x0+bg.bulk x1+bg.bulk x2+bg.bulk x3+bg.bulk x4+bg.bulk x5+bg.bulk x6+bg.bulk x7+bg.bulk x8+1≤Rows.uptoBulkAll [y0.1,y1.1,y2.1,y3.1,y4.1,y5.1,y6.1,y7.1,y8.1]+1;simp only[Rows.uptoBulkAll];omega
instance:Fits aj:=⟨fun x=>Fits.fits x.name∧Fits.fits x.prec∧Fits.fits x.cont⟩
instance:bg aj:=⟨fun x=>bg.bulk x.name+bg.bulk x.prec+bg.bulk x.cont+1,fun _=>ada _ _⟩
theorem Tryz.opbStyl:fZ Tryz.prog 42 aj:=by
 intro H enc w base spare held fuel cs x h;obtain⟨xs,n,_,rfl,hl,pC,hf⟩:=DataW.trod_struct Tryz.underlying42 h;have hC:Tryz.prog.cellsOf 42=3:=by kernel_rfl
 have hX0:xs.length=3:=pC;have U0:cs.length=3:=hl.trans hC;clear pC hl hC;obtain⟨c0,cs,rfl,hY1⟩:=aY U0;obtain⟨c1,cs,rfl,hY2⟩:=aY hY1;obtain⟨c2,cs,rfl,hY3⟩:=aY hY2;obtain rfl:=aaS hY3;obtain⟨y0,xs,rfl,hX1⟩:=aY hX0;obtain⟨y1,xs,rfl,hX2⟩:=aY hX1;obtain⟨y2,xs,rfl,hX3⟩:=aY hX2;obtain rfl:=aaS hX3;have h0a:=cP hf 0 rfl 0 1 rfl (by kernel_rfl) [c0] rfl y0 rfl;obtain⟨x0,e0,f0,b0⟩:=Tryz.opbStr _ _ _ _ _ _ _ _ _ h0a;obtain rfl:c0=.string x0:=by injection e0
 have h1a:=cP hf 1 rfl 1 1 rfl (by kernel_rfl) [c1] rfl y1 rfl;obtain⟨x1,⟨A1,n1,k1,e1,r1⟩,f1,b1⟩:=Tryz.opbInts _ _ _ _ _ _ _ _ _ h1a;obtain rfl:c1=.slice A1 n1 k1:=by injection e1
 have h2a:=cP hf 2 rfl 2 1 rfl (by kernel_rfl) [c2] rfl y2 rfl;obtain⟨x2,⟨A2,n2,k2,e2,r2⟩,f2,b2⟩:=Tryz.opbInts _ _ _ _ _ _ _ _ _ h2a;obtain rfl:c2=.slice A2 n2 k2:=by injection e2
 refine⟨⟨x0,x1,x2⟩,⟨A1,n1,k1,A2,n2,k2,rfl,r1,r2⟩,⟨f0,f1,f2⟩,?_⟩;show bg.bulk x0+bg.bulk x1+bg.bulk x2+1≤Rows.uptoBulkAll [y0.1,y1.1,y2.1]+1;simp only[Rows.uptoBulkAll];omega
theorem Tryz.opbConts:fZ Tryz.prog 23 (List ae):=iW Tryz.underlying23 (by kernel_rfl) (by show 0<9;omega) Tryz.opbCont
theorem Tryz.opbStyls:fZ Tryz.prog 24 (List aj):=iW Tryz.underlying24 (by kernel_rfl) (by show 0<3;omega) Tryz.opbStyl
instance:Fits aa:=⟨fun x=>Fits.fits x.title∧Fits.fits x.dots∧Fits.fits x.blank∧Fits.fits x.marked∧Fits.fits x.prec∧Fits.fits x.cont∧Fits.fits x.styl∧Fits.fits x.scan∧Fits.fits x.batch∧Fits.fits x.risk∧Fits.fits x.cell∧Fits.fits x.seed⟩
instance:bg aa:=⟨fun x=>bg.bulk x.title+bg.bulk x.dots+bg.bulk x.blank+bg.bulk x.marked+bg.bulk x.prec+bg.bulk x.cont+bg.bulk x.styl+bg.bulk x.scan+bg.bulk x.batch+bg.bulk x.risk+bg.bulk x.cell+bg.bulk x.seed+1,fun _=>ada _ _⟩
theorem Tryz.opbElec:fZ Tryz.prog 30 aa:=by
 intro H enc w base spare held fuel cs x h;obtain⟨xs,n,_,rfl,hl,pC,hf⟩:=DataW.trod_struct Tryz.underlying30 h;have hC:Tryz.prog.cellsOf 30=14:=by kernel_rfl
 have hX0:xs.length=12:=pC;have U0:cs.length=14:=hl.trans hC;clear pC hl hC;obtain⟨c0,cs,rfl,hY1⟩:=aY U0;obtain⟨c1,cs,rfl,hY2⟩:=aY hY1;obtain⟨c2,cs,rfl,hY3⟩:=aY hY2;obtain⟨c3,cs,rfl,hY4⟩:=aY hY3;obtain⟨c4,cs,rfl,hY5⟩:=aY hY4;obtain⟨c5,cs,rfl,hY6⟩:=aY hY5;obtain⟨c6,cs,rfl,hY7⟩:=aY hY6;obtain⟨c7,cs,rfl,hY8⟩:=aY hY7;obtain⟨c8,cs,rfl,hY9⟩:=aY hY8;obtain⟨c9,cs,rfl,ak8⟩:=aY hY9;obtain⟨c10,cs,rfl,ak7⟩:=aY ak8;obtain⟨c11,cs,rfl,ak6⟩:=aY ak7;obtain⟨c12,cs,rfl,ak5⟩:=aY ak6;obtain⟨c13,cs,rfl,ak4⟩:=aY ak5;obtain rfl:=aaS ak4;obtain⟨y0,xs,rfl,hX1⟩:=aY hX0;obtain⟨y1,xs,rfl,hX2⟩:=aY hX1;obtain⟨y2,xs,rfl,hX3⟩:=aY hX2;obtain⟨y3,xs,rfl,hX4⟩:=aY hX3;obtain⟨y4,xs,rfl,hX5⟩:=aY hX4;obtain⟨y5,xs,rfl,hX6⟩:=aY hX5;obtain⟨y6,xs,rfl,hX7⟩:=aY hX6;obtain⟨y7,xs,rfl,hX8⟩:=aY hX7;obtain⟨y8,xs,rfl,hX9⟩:=aY hX8;obtain⟨y9,xs,rfl,ali⟩:=aY hX9;obtain⟨y10,xs,rfl,alh⟩:=aY ali;obtain⟨y11,xs,rfl,alg⟩:=aY alh;obtain rfl:=aaS alg;have h0a:=cP hf 0 rfl 0 1 rfl (by kernel_rfl) [c0] rfl y0 rfl;obtain⟨x0,e0,f0,b0⟩:=Tryz.opbStr _ _ _ _ _ _ _ _ _ h0a;obtain rfl:c0=.string x0:=by injection e0
 have h1a:=cP hf 1 rfl 1 1 rfl (by kernel_rfl) [c1] rfl y1 rfl;obtain⟨x1,e1,f1,b1⟩:=Tryz.opbInt _ _ _ _ _ _ _ _ _ h1a;obtain rfl:c1=.int .i64 x1:=by injection e1
 have h2a:=cP hf 2 rfl 2 1 rfl (by kernel_rfl) [c2] rfl y2 rfl;obtain⟨x2,e2,f2,b2⟩:=Tryz.opbInt _ _ _ _ _ _ _ _ _ h2a;obtain rfl:c2=.int .i64 x2:=by injection e2
 have h3a:=cP hf 3 rfl 3 1 rfl (by kernel_rfl) [c3] rfl y3 rfl;obtain⟨x3,e3,f3,b3⟩:=Tryz.opbInt _ _ _ _ _ _ _ _ _ h3a;obtain rfl:c3=.int .i64 x3:=by injection e3
 have h4a:=cP hf 4 rfl 4 1 rfl (by kernel_rfl) [c4] rfl y4 rfl;obtain⟨x4,⟨A4,n4,k4,e4,r4⟩,f4,b4⟩:=Tryz.opbStrs _ _ _ _ _ _ _ _ _ h4a;obtain rfl:c4=.slice A4 n4 k4:=by injection e4
 have h5a:=cP hf 5 rfl 5 1 rfl (by kernel_rfl) [c5] rfl y5 rfl;obtain⟨x5,⟨A5,n5,k5,e5,r5⟩,f5,b5⟩:=Tryz.opbConts _ _ _ _ _ _ _ _ _ h5a;obtain rfl:c5=.slice A5 n5 k5:=by injection e5
 have h6a:=cP hf 6 rfl 6 1 rfl (by kernel_rfl) [c6] rfl y6 rfl;obtain⟨x6,⟨A6,n6,k6,e6,r6⟩,f6,b6⟩:=Tryz.opbStyls _ _ _ _ _ _ _ _ _ h6a;obtain rfl:c6=.slice A6 n6 k6:=by injection e6
 have h7a:=cP hf 7 rfl 7 1 rfl (by kernel_rfl) [c7] rfl y7 rfl;obtain⟨x7,e7,f7,b7⟩:=Tryz.opbInt _ _ _ _ _ _ _ _ _ h7a;obtain rfl:c7=.int .i64 x7:=by injection e7
 have h8a:=cP hf 8 rfl 8 1 rfl (by kernel_rfl) [c8] rfl y8 rfl;obtain⟨x8,e8,f8,b8⟩:=Tryz.opbInt _ _ _ _ _ _ _ _ _ h8a;obtain rfl:c8=.int .i64 x8:=by injection e8
 have h9a:=cP hf 9 rfl 9 3 rfl (by kernel_rfl) [c9,c10,c11] rfl y9 rfl;obtain⟨x9,⟨A9,n9,k9,B9,m9,j9,e9,r9,s9⟩,f9,b9⟩:=Tryz.opbRisk _ _ _ _ _ _ _ _ _ h9a;obtain⟨rfl,rfl,rfl⟩:c9=.bool x9.neg∧c10=.slice A9 n9 k9∧c11=.slice B9 m9 j9:=by
  injection e9 with q1 q2
  injection q2 with q2 q3
  injection q3 with q3 q4
  exact⟨q1,q2,q3⟩
 have aly:=cP hf 10 rfl 12 1 rfl (by kernel_rfl) [c12] rfl y10 rfl;obtain⟨x10,e10,f10,b10⟩:=Tryz.opbInt _ _ _ _ _ _ _ _ _ aly;obtain rfl:c12=.int .i64 x10:=by injection e10
 have alx:=cP hf 11 rfl 13 1 rfl (by kernel_rfl) [c13] rfl y11 rfl;obtain⟨x11,e11,f11,b11⟩:=Tryz.opbStr _ _ _ _ _ _ _ _ _ alx;obtain rfl:c13=.string x11:=by injection e11
 refine⟨⟨x0,x1,x2,x3,x4,x5,x6,x7,x8,x9,x10,x11⟩,⟨A4,n4,k4,A5,n5,k5,A6,n6,k6,A9,n9,k9,B9,m9,j9,rfl,r4,r5,r6,r9,s9⟩,⟨f0,f1,f2,f3,f4,f5,f6,f7,f8,f9,f10,f11⟩,?_⟩;show bg.bulk x0+bg.bulk x1+bg.bulk x2+bg.bulk x3+bg.bulk x4+bg.bulk x5+bg.bulk x6+bg.bulk x7+bg.bulk x8+bg.bulk x9+bg.bulk x10+bg.bulk x11+1≤Rows.uptoBulkAll [y0.1,y1.1,y2.1,y3.1,y4.1,y5.1,y6.1,y7.1,y8.1,y9.1,y10.1,y11.1]+1;simp only[Rows.uptoBulkAll];omega
instance:Fits abT:=⟨fun _=>True⟩
instance:bg abT:=⟨fun _=>1,fun _=>aaJ _⟩
theorem sx {e:aa} (hf:Fits.fits e) (hb:bg.bulk e≤1048576):dV e∧df e:=by
 obtain⟨f1,f2,f3,f4,f5,f6,f7,f8,f9,f10,f11,f12⟩:=hf;have nQ:bg.bulk e.title+bg.bulk e.dots+bg.bulk e.blank+bg.bulk e.marked+bg.bulk e.prec+bg.bulk e.cont+bg.bulk e.styl+bg.bulk e.scan+bg.bulk e.batch+bg.bulk e.risk+bg.bulk e.cell+bg.bulk e.seed+1≤1048576:=hb;have str:∀{s:ByteArray},bg.bulk s≤1048576→dR s:=fun {s} h=>by
  have h':s.size+1≤1048576:=h;unfold dR;omega
 have lst:∀{α:Type} [bg α] {l:List α},bg.bulk l≤1048576→l.length≤1048576∧∀x∈l,bg.bulk x≤1048576:=fun {α} _ {l} h=>by
  have h':jF l+1≤1048576:=h;have h1:=E3 l;exact⟨by omega,fun x hx=>by have:=E2 hx;omega⟩
 obtain⟨lp,mp⟩:=lst (l:=e.prec) (by omega);obtain⟨lc,mc⟩:=lst (l:=e.cont) (by omega);obtain⟨ls,ms⟩:=lst (l:=e.styl) (by omega);have hr:bg.bulk e.risk.neg+bg.bulk e.risk.num+bg.bulk e.risk.den+1≤1048576:=by
  have:bg.bulk e.risk=bg.bulk e.risk.neg+bg.bulk e.risk.num+bg.bulk e.risk.den+1:=rfl;omega
 obtain⟨ln,_⟩:=lst (l:=e.risk.num) (by omega);obtain⟨ld,_⟩:=lst (l:=e.risk.den) (by omega);have Xd:∀x∈e.cont,oU x∧dR x.name∧∀s∈x.cands,dR s:=fun x hx=>by
  obtain⟨g1,g2,g3,g4,g5,g6,g7,g8,g9⟩:=f6.2 x hx;have Xe:bg.bulk x.name+bg.bulk x.cands+bg.bulk x.method+bg.bulk x.seats+bg.bulk x.ranks+bg.bulk x.digits+bg.bulk x.ties+bg.bulk x.over+bg.bulk x.skip+1≤1048576:=mc x hx;obtain⟨l1,m1⟩:=lst (l:=x.cands) (by omega);exact⟨⟨g3,g4,g5,g6,g7,g8,g9,by omega⟩,str (by omega),fun s hs=>str (m1 s hs)⟩
 have PF:∀x∈e.styl,x.prec.length≤1048576∧x.cont.length≤1048576∧dR x.name:=fun x hx=>by
  have Xe:bg.bulk x.name+bg.bulk x.prec+bg.bulk x.cont+1≤1048576:=ms x hx;obtain⟨l1,_⟩:=lst (l:=x.prec) (by omega);obtain⟨l2,_⟩:=lst (l:=x.cont) (by omega);exact⟨l1,l2,str (by omega)⟩
 exact⟨⟨f2,f3,f4,f8,f9,f11,fun x hx=>(Xd x hx).1,fun x hx=>⟨by have:=(PF x hx).1;omega,by have:=(PF x hx).2.1;omega⟩,by omega,by omega,by omega,⟨by omega,by omega⟩⟩,
  ⟨str (by omega),str (by omega),fun s hs=>str (mp s hs),fun x hx=>(Xd x hx).2,fun x hx=>(PF x hx).2.2,by omega⟩⟩
theorem Tryz.own':ownKnob Tryz.prog.godebug=none:=by kernel_rfl
theorem Tryz.laidOut:laidOutB Tryz.prog=true:=by kernel_rfl
theorem Nm:Rows.laid_internal_strconv_uint64pow10=(Lib.tabData .u64 Lib.pow10Tab:DataW Unit):=rfl
theorem zf {W:World} (h:Lib.VarReads Tryz.prog W "internal/strconv.uint64pow10" Rows.laid_internal_strconv_uint64pow10):Mt W.heap.size W:=by
 have hT:Lib.TabIs Tryz.prog W "internal/strconv.uint64pow10" .u64 Lib.pow10Tab:=by
  obtain⟨g,t,cs,fuel,p,hg,hty,ajS,hd⟩:=h;obtain⟨g0,hg0,ht0⟩:∃g0,Tryz.prog.globalNamed "internal/strconv.uint64pow10" =some g0∧(Tryz.prog.globals[g0]?).map (·.type)=some 309:=⟨(Tryz.prog.globalNamed "internal/strconv.uint64pow10").getD 0,by kernel_rfl,by kernel_rfl⟩;obtain rfl:=aal (hg.symm.trans hg0);obtain rfl:=aal (hty.symm.trans ht0);rw[Nm] at hd;unfold Lib.TabIs;rw[ajS,←Lib.cells_of_tab Tryz.underlying309 Tryz.underlying242 (by kernel_rfl) (by kernel_rfl) hd]
 exact Lib.tabBelow_of_tabIs hT
theorem kw {H:Type} {enc:TypeId×Value→H} {C:Checked} {os:Os} {f:FuncId} {fn:Func} {s:OpenSpec} {conds:List PathCond} {apart:Bool} {laid:List (String×DataW Unit)} (modest:Bool) (w0:World) (args:Array Value) (hos:w0.os=os) (Sl:(w0.forCall (fun _ _=>0) ⟨#[],args,[]⟩).Shaped C.prog) (vk:Input.okWideB C.prog (w0.forCall (fun _ _=>0) ⟨#[],args,[]⟩) f ⟨#[],args,[]⟩=true) (nN:s.preRow enc C.prog fn conds apart laid (w0.forCall (fun _ _=>0) ⟨#[],args,[]⟩).memory args) : ∃(w:World) (tape:Tape) (i:Input),w.os=os∧(w.forCall tape i).Shaped C.prog∧i.vars=[]∧Input.okWide C.prog (w.forCall tape i) .any w.heap.size f i∧ s.preRow enc C.prog fn conds apart laid (w.forCall tape i).memory i.args∧({ modest:=modest }:Assume).holds C.prog (lone (Frame.enter C.prog f i.args .normal) [] (w.forCall tape i)):=
 ⟨w0,fun _ _=>0,⟨#[],args,[]⟩,hos,Sl,(Input.okWide_of_okWideB (base:=0) vk).1,(Input.okWide_of_okWideB vk).2,nN,by
  simp only[Assume.holds];exact⟨by simp,by simp,fun _=>Modest.zero,by simp,by simp⟩⟩
theorem vH {H:Type} {d:DataW H} {l:List (DataW H)} (h:d∈l):Rows.uptoBulk d≤Rows.uptoBulkAll l:=by
 induction l with
 | nil=>cases h
 | cons x r ih=>
  simp only[Rows.uptoBulkAll];rcases aaP.1 h with e|e
  ·subst e;omega
  ·have:=ih e;omega
end Go.Proofs.YtdbpbfglhbiadaaGreatDoor
