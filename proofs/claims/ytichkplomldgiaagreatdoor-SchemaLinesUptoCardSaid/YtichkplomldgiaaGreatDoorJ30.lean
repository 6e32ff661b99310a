/- Sh5 Scu Sd1 Open OpnB OpnW -/
import Derived.Test.YtichkplomldgiaaGreatDoorJ29
import Derived.Test.YtichkplomldgiaaGreatDoorJ25
import Derived.Test.YtichkplomldgiaaGreatDoorJ01
import Derived.ProofKit
import Derived.Deep.Slices
import Derived.Deep.Fields
import Derived.ChangeSame
import Derived.Test.YtichkplomldgiaaGreatDoorRows
import Derived.Test.YtichkplomldgiaaGreatDoorJ16
import Derived.Test.YtichkplomldgiaaGreatDoorJ15
import Derived.LaidMore
import Derived.OpenShut
import Derived.Stop.Joined
import Derived.SevenTiedAt
import Derived.Lay
import Derived.LaidOnce
import Derived.LaidLaws
import Derived.Lib.LaidU8
import Derived.Lib.AppendIntMem
import Derived.Carry
import Derived.ShutString
import Derived.ChangeOld
import Derived.Deep.DeepHandedRow
set_option maxHeartbeats 4000000
set_option maxRecDepth 100000
namespace Go.Proofs.YtichkplomldgiaaGreatDoor
open Go Go.RowKit Go.ChangeShapes Go.WideShapes Go.Deep Go.ChangeAt Go.WideMaps Go.WideElems Go.ChangeMaps
def dR (k:Nat):ByteArray:=⟨(List.replicate k 10).toArray⟩
def Kg (k:Nat) (x:Int):Int:=if 0<x then x+k else x
theorem ui (k:Nat) (s:ByteArray):(dR k++s).data.toList=List.replicate k 10++s.data.toList:=by
 rw[ByteArray.data_append,Array.toList_append];rfl
theorem iR (k:Nat) (s:ByteArray):(dR k++s).size=k+s.size:=by
 rw[<-dd,ui,List.length_append,List.length_replicate,dd]
theorem yF (k:Nat) (s:ByteArray):(dv (dR k++s)).1=(dv s).1.map (fy (Kg k))/\(dv (dR k++s)).2.1=(dv s).2.1:=by
 have e:dv (dR k++s)=db (s.size+1) s.data.toList (1+k):=by
  unfold dv;rw[iR,ui,yo];exact lj _ _ _ _ (by rw[dd];omega) (by rw[dd];omega)
 rw[e];obtain⟨h1,h2⟩:=Dy k (s.size+1) s.data.toList 1;refine⟨h1.trans (List.map_congr_left λt ht=>?_),h2⟩;have:=rE (s.size+1) s.data.toList 1 (Int.le_refl _) t ht;unfold fy Kg;rw[if_pos (by omega)]
theorem EA (k:Nat):Kg k 0=0:=rfl
theorem II (k:Nat) (s:ByteArray) (hs:k+s.size<=20000):(dv s).2.1=0->(jr (dv (dR k++s)).1).2.1=(jr (dv s).1).2.1/\i9 (eP (dv s).1)/\i9 (eP (dv (dR k++s)).1)/\ (aA (eP (dv (dR k++s)).1)).2=(aA (eP (dv s).1)).2.gl (Kg k):=λh0=>by
 obtain⟨h1,h2⟩:=yF k s;obtain⟨i1,i2⟩:=ky (s.size+1) s.data.toList 1 (by rw[dd];omega) h0;obtain⟨j1,j2⟩:=ky ((dR k++s).size+1) (dR k++s).data.toList 1 (by rw[dd,iR];exact hs) (h2.trans h0);rw[dd] at i2 j2;rw[iR] at j2;refine⟨by rw[h1,GU (EA k)];rfl,xS i1 (Nat.le_trans i2 (by omega)),xS j1 ?_,by rw[h1,xR (EA k),lT (EA k)]⟩;have:(dv (dR k++s)).1.length<=k+s.size+1:=by
  have e:dv (dR k++s)=db ((dR k++s).size+1) (dR k++s).data.toList 1:=rfl;rw[e];rw[iR];exact j2
 omega
theorem Dz:∀(f:Nat) (t:List UInt8) (n:Int),∀u∈(db f t n).1,u.2.2.1<=n+t.length
 | 0,_,_,u,hu=>by cases hu
 | f+1,t,n,u,hu=>by
  have hc:(t.take (av false t)).count 10<=av false t:=Nat.le_trans (List.count_le_length) (List.length_take_le _ _);have hs:=fx false t;unfold db at hu;by_cases h1:t.drop (av false t)=[]
  ·simp only[if_pos h1] at hu;rw[List.mem_singleton.1 hu];show n+_<=_;omega
  simp only[if_neg h1] at hu;by_cases h2:(aW (t.drop (av false t))).2.2=0
  ·simp only[if_pos h2] at hu;cases hu
  simp only[if_neg h2] at hu;by_cases h3:(db f ((t.drop (av false t)).drop (aW (t.drop (av false t))).2.2) (n+((t.take (av false t)).count 10:Nat))).2.1=0
  ·simp only[if_pos h3] at hu;rcases List.mem_cons.1 hu with rfl|hu
   ·show n+_<=_;omega
   ·have:=Dz f _ _ u hu;rw[List.length_drop,List.length_drop] at this;omega
  ·simp only[if_neg h3] at hu;cases hu
theorem EF {l:List gM} {M:Int} (hM:0<=M) (h:∀u∈l,0<=u.2.2.1/\u.2.2.1<=M):0<=(aA (eP l)).2.line/\(aA (eP l)).2.line<=M:=by
 obtain⟨g,hg⟩:∃g:Int->Int,g=λx=>if 0<=x/\x<=M then x else 0:=⟨_,rfl⟩
 have g0:g 0=0:=by rw[hg];exact if_pos ⟨Int.le_refl _,hM⟩
 have e:l.map (fy g)=l:=(List.map_congr_left λt ht=>by unfold fy;rw[hg];show(t.1,t.2.1,(if 0<=t.2.2.1/\t.2.2.1<=M then t.2.2.1 else 0),())=t;rw[if_pos (h t ht)]).trans (List.map_id l);have e2:=lT g0 (eP l);rw[<-xR g0,e] at e2;have e3:(aA (eP l)).2.line=g (aA (eP l)).2.line:=congrArg (λq=>q.2.line) e2;rw[hg] at e3;rw[e3];show 0<=(if _ then _ else _:Int)/\(if _ then _ else _:Int)<=M;split
 ·assumption
 ·exact⟨Int.le_refl _,hM⟩
def E1 (n:Nat) (s:ByteArray):ByteArray:=s.extract 0 (min s.size n)
def ry (n:Int) (s:ByteArray):Int:=if n<s.size then n else s.size
theorem He (n:Nat) (s:ByteArray):(0:Int)<=0/\0<=ry n s/\ry n s<=s.size:=by unfold ry;split<;>omega
theorem I2 (n:Nat) (s:ByteArray):s.extract 0 (ry n s).toNat=E1 n s:=by
 unfold ry E1;split
 ·rw[Nat.min_eq_right (by omega),Int.toNat_natCast]
 ·rw[Nat.min_eq_left (by omega),Int.toNat_natCast]
theorem I3 (n:Nat) (s:ByteArray):(E1 n s).size<=n:=by
 unfold E1;rw[Ob];show(s.data.toList.take _).length<=n;rw[List.length_take];omega
noncomputable def Csl:dN Tryz.prog:=bH JC [⟨_,_,_,Bf⟩,⟨_,_,_,lA⟩,⟨_,_,_,xQ⟩] []
noncomputable abbrev TK:=Tryz.f9
abbrev KP:List (Nat×SS):=[(0,sS),(1,sI),(5,sS),(6,sI)]
abbrev KN:List (Nat×SS):=[(0,sS),(1,sI),(5,sS)]
abbrev KQ:=LE KP KN []
def qO (s:ByteArray) (n:Int) (g:ByteArray):KQ:=.out (s,n,g,())
def OU (s:ByteArray) (n:Int) (g:ByteArray) (i:Int):T KQ:=.br (decide (i<n)) (.nd (g.size+(⟨#[10]⟩:ByteArray).size<=9223372036854775807) (.nd (dD (i+1)) (.lf (.back (s,n,g++⟨#[10]⟩,i+1,()))))) (.lf (qO s n g))
def KO (n:Int) (g:ByteArray) (i:Int):Prop:=0<=i/\i<=n/\n<=7/\g=dR i.toNat
def OT (s:ByteArray) (n:Int) (g:ByteArray) (i:Int):T KQ:=.nd (KO n g i) (.lf (qO s n (dR n.toNat)))
theorem AN (k:Nat):dR k++⟨#[10]⟩=dR (k+1):=Rt (by
 rw[ByteArray.data_append,Array.toList_append];show List.replicate k 10++[10]=List.replicate (k+1) 10;rw[List.replicate_succ'])
def CB (i:Int):Nat:=(7-i).toNat
theorem KM:dS (nc Csl TK) 0 0 KP KN [] λx=>OT x.1 x.2.1 x.2.2.1 x.2.2.2.1:=by
 refine jF _ (nL _ _) 99 0 0 KP KN [] (λx=>OU x.1 x.2.1 x.2.2.1 x.2.2.2.1) (λx=>CB x.2.2.2.1) ?_;rintro⟨(s:ByteArray),(n:Int),(g:ByteArray),(i:Int),_⟩ r _ ⟨h,hr⟩;obtain⟨h0,h1,h2,rfl⟩:KO n g i:=h;obtain rfl:qO s n (dR n.toNat)=r:=hr;show∃q,(OU s n (dR i.toNat) i).hit q/\q.nx _ (λx=>OT x.1 x.2.1 x.2.2.1 x.2.2.2.1) (CB i) _;have hz:(dR i.toNat).size=i.toNat:=by show(List.replicate i.toNat (10:UInt8)).toArray.size=_;simp
 by_cases hk:i<n
 ·refine⟨.back (s,n,dR i.toNat++(⟨#[10]⟩:ByteArray),i+1,()),aK (decide_eq_true hk) ⟨by rw[hz];show i.toNat+1<=_;omega,⟨by omega,by omega⟩,rfl⟩,by show CB (i+1)<CB i;unfold CB;omega,(⟨by omega,by omega,h2,by rw[AN];congr 1;omega⟩:KO n (dR i.toNat++⟨#[10]⟩) (i+1)),rfl⟩
 ·obtain rfl:i=n:=by omega
  exact⟨qO s i (dR i.toNat),aQ (decide_eq_false hk) rfl,rfl⟩
def Jn (n:Int):Int:=IntKind.i64.wrap ((BitVec.ofInt IntKind.i64.bits n&&& BitVec.ofInt IntKind.i64.bits 7).toNat:Int)
theorem Jm (n:Int):0<=Jn n/\Jn n<=7:=by
 have h:(BitVec.ofInt IntKind.i64.bits n&&& BitVec.ofInt IntKind.i64.bits 7).toNat<=7:=by
  rw[BitVec.toNat_and];exact Nat.le_trans Nat.and_le_right (by decide)
 unfold Jn;rw[IntKind.wrap_i64]<;>omega
def Ki (p q:dA):Bool:=!(false==(p.no==q.no&&(p.line==q.line&&true)))
def Ld (q:List gM×Int×Int) (K:dA->aX->T XV):T XV:=.br (q.2.1==0) (.br ((jr q.1).2.1==0) (K ⟨0,0⟩ (eP q.1)) (K ⟨(jr q.1).2.1,(jr q.1).2.2.1⟩ ⟨nS,[]⟩)) (K ⟨1,q.2.2⟩ ⟨nS,[]⟩)
def YB (N:Int) (f:dA) (s:aX) (g:dA) (t:aX):T XV:=.br (!(f.no==0)) (.br true (.lf (aB (g.no==f.no))) fF) (.nd (i9 s) (.nd (i9 t) (.br (decide ((aA s).2.line>0))
 (.nd (dD ((aA s).2.line+N)) (.br true (.br (Ki g f) (.lf (aB (Ki ⟨(aA s).2.no,(aA s).2.line+N⟩ (aA t).2))) fF) fF))
 (.br true (.br (Ki g f) (.lf (aB (Ki (aA s).2 (aA t).2))) fF) fF))))
def YC (S:ByteArray) (N:Int):T XV:=.nd ((0:Int)<=0/\0<=N/\N<=7/\(⟨#[]⟩:ByteArray)=dR (Int.toNat 0)) (.nd (S.size<=20000) (Ld (dv S) λf s=>.nd ((dR N.toNat).size+S.size<=9223372036854775807) (.nd ((dR N.toNat++S).size<=20000) (Ld (dv (dR N.toNat++S)) λg t=>YB N f s g t))))
def TJ (s:ByteArray) (n:Int):T XV:=.nd ((0:Int)<=0/\0<=ry 1500 s/\ry 1500 s<=s.size) (YC (s.extract (Int.toNat 0) (ry 1500 s).toNat) (Jn n))
theorem kr {q:List gM×Int×Int} {K:dA->aX->T XV} {r:XV} (h1:q.2.1=0->(jr q.1).2.1=0->(K ⟨0,0⟩ (eP q.1)).hit r) (h2:q.2.1=0->(jr q.1).2.1≠0->(K ⟨(jr q.1).2.1,(jr q.1).2.2.1⟩ ⟨nS,[]⟩).hit r) (h3:q.2.1≠0->(K ⟨1,q.2.2⟩ ⟨nS,[]⟩).hit r):(Ld q K).hit r:=
 ⟨λe=>⟨λe2=>h1 (eq_of_beq e) (eq_of_beq e2),λe2=>h2 (eq_of_beq e) (λh=>by rw[h] at e2;cases e2)⟩,λe=>h3 (λh=>by rw[h] at e;cases e)⟩
theorem kF (p:dA):Ki p p=true:=by unfold Ki;simp
theorem xC {N:Int} {f g:dA} {s t:aX} (h:f.no≠0) (hg:g.no=f.no):(YB N f s g t).hit (aB true):=
 aK (by rw[beq_eq_false_iff_ne.2 h];rfl) (aK rfl (by show aB (g.no==f.no)=aB true;rw[hg,beq_self_eq_true]))
theorem lawSL_hit (S:ByteArray) (hS:S.size<=1500) {N:Int} (h0:0<=N) (h7:N<=7):(YC S N).hit (aB true):=by
 have hz:(dR N.toNat).size=N.toNat:=by show(List.replicate N.toNat (10:UInt8)).toArray.size=_;simp
 have hG:=iR N.toNat S;obtain⟨l1,l2⟩:=yF N.toNat S;have law:=II N.toNat S (by omega);refine⟨⟨Int.le_refl _,h0,h7,rfl⟩,by omega,?_⟩;have pre:∀{y:T XV},y.hit (aB true)->(T.nd ((dR N.toNat).size+S.size<=9223372036854775807) (.nd ((dR N.toNat++S).size<=20000) y)).hit (aB true):=λh=>⟨by omega,by omega,h⟩;refine kr (λe1 e2=>pre ?_) (λe1 e2=>pre ?_) (λe1=>pre ?_)
 ·obtain⟨p1,p2,p3,p4⟩:=law e1;refine kr (λ_ _=>?_) (λ_ q2=>absurd (p1.trans e2) q2) (λq1=>absurd (l2.trans e1) q1);have hb:0<=(aA (eP (dv S).1)).2.line/\(aA (eP (dv S).1)).2.line<=1501:=EF (by decide) λu hu=>by
   have a:=rE (S.size+1) S.data.toList 1 (Int.le_refl _) u hu;have b:=Dz (S.size+1) S.data.toList 1 u hu;rw[dd] at b;omega
  refine aQ rfl ⟨p2,p3,λq=>⟨⟨by omega,by omega⟩,aK rfl (aK (kF _) ?_)⟩,λq=>aK rfl (aK (kF _) ?_)⟩
  ·have hq:(aA (eP (dv S).1)).2.line>0:=of_decide_eq_true q;show aB (Ki _ _)=aB true;rw[p4];have:(aA (eP (dv S).1)).2.gl (Kg N.toNat)=⟨(aA (eP (dv S).1)).2.no,(aA (eP (dv S).1)).2.line+N⟩:=by
    unfold dA.gl Kg;rw[if_pos hq,Int.toNat_of_nonneg h0]
   rw[this,kF]
  ·have hq:¬(aA (eP (dv S).1)).2.line>0:=of_decide_eq_false q;show aB (Ki _ _)=aB true;rw[p4];have:(aA (eP (dv S).1)).2.gl (Kg N.toNat)=(aA (eP (dv S).1)).2:=by
    unfold dA.gl Kg;rw[if_neg hq]
   rw[this,kF]
 ·obtain⟨p1,_⟩:=law e1;exact kr (λ_ q2=>absurd (p1.symm.trans q2) e2) (λ_ _=>xC e2 p1) (λq1=>absurd (l2.trans e1) q1)
 ·exact kr (λq1 _=>absurd (l2.symm.trans q1) e1) (λq1 _=>absurd (l2.symm.trans q1) e1) (λ_=>xC (show(1:Int)≠0 by decide) rfl)
theorem lawSL_ok:aj Tryz.prog 9 false (az [(0,sS),(1,sI)] λ_=>.lf (aB true)):=
 aJ (C:=Csl) ((nL _ _).add 0 _ KM) false 99 [(0,sS),(1,sI)] (λ((s:ByteArray),(n:Int),_)=>TJ s n)
  (λ⟨(s:ByteArray),(n:Int),_⟩ r _ h=>by
   obtain rfl:aB true=r:=h;refine⟨⟨He 1500 s,?_⟩,.inr rfl⟩;obtain⟨a,b⟩:=Jm n;have hc:=I3 1500 s;rw[show s.extract (Int.toNat 0) (ry 1500 s).toNat=E1 1500 s from I2 1500 s];exact lawSL_hit _ hc a b) Tryz.func9
theorem lawSL_any {W:World} {B:Nat} (hT:Fx B W) (hB:B<=W.heap.size) (s:ByteArray) (n:Int):Calls Tryz.prog 9 #[.string s,.int .i64 n] W (jz W (.bool true)):=
 lawSL_ok.retVL (S:=λb=>b<W.heap.size) (xs:=[aS s,aI n]) (vs:=[.string s,.int .i64 n]) ⟨B,hB,hT⟩ (λ_ h=>h) (.cons ⟨rfl,rfl⟩ (.cons ⟨rfl,rfl⟩ .nil)) (rfl:(T.lf (aB true)).hit (aB true))
class Fits (α:Type) where
 fits:α->Prop
instance:Fits Int:=⟨λx=>-9223372036854775808<=x/\x<=9223372036854775807⟩
instance:Fits Bool:=⟨λ_=>True⟩
instance:Fits UInt8:=⟨λ_=>True⟩
instance:Fits ByteArray:=⟨λs=>s.size<=9223372036854775807⟩
instance instFitsL {α:Type} [Fits α]:Fits (List α):=⟨λl=>l.length<=9223372036854775807/\∀x∈l,Fits.fits x⟩
theorem uk {α:Type} (n:Nat) (p:Nat->α->Prop) (h:∀i,i<n->∃a,p i a):∃l:List α,l.length=n/\∀i a,l[i]?=some a->p i a:=by
 induction n with
 | zero=>exact⟨[],rfl,λi a hi=>by simp at hi⟩
 | succ n ih=>
  obtain⟨l,hl,hp⟩:=ih (λi hi=>h i (by omega));obtain⟨a,ha⟩:=h n (by omega);refine⟨l++[a],by simp[hl],λi b hi=>?_⟩;rw[List.getElem?_append] at hi;split at hi
  ·exact hp i b hi
  ·have:i=n:=by
    rcases Nat.lt_or_ge (i-l.length) 1 with h|h
    ·omega
    ·rw[List.getElem?_eq_none (by simpa using h)] at hi;cases hi
   subst this;rw[hl,Nat.sub_self] at hi;simp at hi;subst hi;exact ha
class aC (α:Type) where
 bulk:α->Nat
 pos:∀a,1<=bulk a
instance:aC Int:=⟨λ_=>1,λ_=>Nat.le_refl _⟩
instance:aC Bool:=⟨λ_=>1,λ_=>Nat.le_refl _⟩
instance:aC UInt8:=⟨λ_=>1,λ_=>Nat.le_refl _⟩
instance:aC (BitVec 32):=⟨λ_=>1,λ_=>Nat.le_refl _⟩
instance:aC ByteArray:=⟨λs=>s.size+1,λ_=>Nat.le_add_left _ _⟩
def eK {α:Type} [aC α] (l:List α):Nat:=(l.map aC.bulk).sum
instance {α:Type} [aC α]:aC (List α):=⟨λl=>eK l+1,λ_=>Nat.le_add_left _ _⟩
instance:Fits (BitVec 32):=⟨λ_=>True⟩
theorem uD {α:Type} [aC α] (l:List α):l.length<=eK l:=by
 induction l with
 | nil=>exact Nat.le_refl _
 | cons a l ih=>
  have:=aC.pos a;show l.length+1<=aC.bulk a+eK l;omega
theorem uC {α:Type} [aC α] {l:List α} {a:α} (h:a∈l):aC.bulk a<=eK l:=by
 induction l with
 | nil=>cases h
 | cons b l ih=>
  show _<=aC.bulk b+eK l;rcases List.mem_cons.1 h with rfl|h
  ·omega
  ·have:=ih h;omega
def cY (P:Program) (t:TypeId) (α:Type) [ak α] [Fits α] [aC α]:Prop:=
 ∀(H:Type) (enc:TypeId×Value->H) (w:World) (base:Nat) (spare:Nat->Bool) (held:Bool) (fuel:Nat) (cs:List Value) (x:DataW H×List MemPlace),
  DataW.trod enc P w base spare held fuel t cs=some x->∃a:α,ak.rep w (λb=>b<w.heap.size) cs a/\Fits.fits a/\aC.bulk a<=Rows.uptoBulk x.1
theorem vJ {P:Program} {t:TypeId} (ht:P.underlying t=some (.int .i64)):cY P t Int:=by
 intro H enc w base spare held fuel cs x h;obtain⟨n,rfl,rfl,hw⟩:=DataW.trod_int ht h;have hw':-9223372036854775808<=n/\n<=9223372036854775807:=by simpa[Lit.wf,IntKind.min,IntKind.max,IntKind.signed,IntKind.bits] using hw
 exact⟨n,rfl,hw',by simp[Rows.uptoBulk,aC.bulk]⟩
theorem tF {P:Program} {t:TypeId} (ht:P.underlying t=some .bool):cY P t Bool:=by
 intro H enc w base spare held fuel cs x h;obtain⟨n,rfl,rfl⟩:=DataW.trod_bool ht h;exact⟨n,rfl,trivial,by simp[Rows.uptoBulk,aC.bulk]⟩
theorem oP {P:Program} {t:TypeId} (ht:P.underlying t=some .string):cY P t ByteArray:=by
 intro H enc w base spare held fuel cs x h;obtain⟨s,rfl,rfl,hs⟩:=DataW.trod_string ht h;exact⟨s,rfl,by unfold maxLen at hs;exact hs,by simp[Rows.uptoBulk,aC.bulk]⟩
theorem tE {P:Program} {t:TypeId} (ht:P.underlying t=some (.int .u32)):cY P t (BitVec 32):=by
 intro H enc w base spare held fuel cs x h;obtain⟨n,rfl,rfl,hw⟩:=DataW.trod_int ht h;have hb:0<=n/\n<=4294967295:=by simpa[Lit.wf,IntKind.min,IntKind.max,IntKind.signed,IntKind.bits] using hw
 refine⟨BitVec.ofNat 32 n.toNat,?_,trivial,by simp[Rows.uptoBulk,aC.bulk]⟩;show[Value.int .u32 n]=[Value.int .u32 ((BitVec.ofNat 32 n.toNat).toNat:Int)];rw[BitVec.toNat_ofNat];congr 2
 omega
theorem om {α H:Type} [aC α]:∀(n:Nat) (l:List α) (D:Nat->DataW H),l.length=n->(∀i a,l[i]?=some a->aC.bulk a<=Rows.uptoBulk (D i))->eK l<=Rows.uptoBulkAll ((List.range n).map D)
 | 0,l,D,hl,_=>by
  have:=List.eq_nil_of_length_eq_zero hl;subst this;exact Nat.zero_le _
 | n+1,l,D,hl,h=>by
  cases l with
  | nil=>cases hl
  | cons a l=>
   rw[List.range_succ_eq_map,List.map_cons,List.map_map];show aC.bulk a+eK l<=Rows.uptoBulk (D 0)+Rows.uptoBulkAll ((List.range n).map (D∘Nat.succ));have h1:=h 0 a rfl;have h2:=om n l (D∘Nat.succ) (by simpa using hl) (λi b hb=>h (i+1) b (by simpa using hb));omega
theorem dY {P:Program} {t e:TypeId} {α:Type} [ak α] [Fits α] [aC α] (ht:P.underlying t=some (.slice e)) (hsz:P.cellsOf e=ak.sz α) (hp:0<ak.sz α) (he:cY P e α):cY P t (List α):=by
 intro H enc w base spare held fuel cs x h;rcases open_slice ht h with⟨rfl,rfl⟩|⟨a,len,cap,m,n,D,Pl,rfl,_,hl,hm,SG,rfl,hi⟩
 ·exact⟨[],⟨none,0,0,rfl,RS.nil _ _⟩,⟨Nat.zero_le _,λx hx=>by simp at hx⟩,by simp[Rows.uptoBulk,aC.bulk,eK]⟩
 ·have hlm:len<=m:=by rw[SG];split<;>omega
  obtain⟨l,hlen,hl2⟩:=uk (α:=α) len (λi x=>(∃cs,ak.rep w (λb=>b<w.heap.size) cs x/\bb w (a.add (i*ak.sz α)) cs/\Fits.fits x)/\aC.bulk x<=Rows.uptoBulk (D i)) (λi FW=>by
   obtain⟨eu,hc,Ip⟩:=hi i (by omega);obtain⟨x,hx,hf,hbk⟩:=he H enc w base spare held n eu _ Ip;rw[hsz] at hc;obtain⟨_,pW,jH⟩:=World.cells?_some hc;refine⟨x,⟨eu,hx,λj u hj=>?_,hf⟩,hbk⟩;have Ml:j<ak.sz α:=by
    have:=ji hj;omega
   rw[jH j Ml];exact hj)
  refine⟨l,⟨some a,len,cap,rfl,hlen.symm,hl,hm,λhn=>?_⟩,⟨by unfold maxLen at hm;omega,λx hx=>?_⟩,?_⟩
  ·obtain⟨x0,ju⟩:∃x0,l[0]?=some x0:=⟨l[0]'(by omega),List.getElem?_eq_getElem (by omega)⟩;obtain⟨⟨sp,Is,Mv,_⟩,_⟩:=hl2 0 x0 ju;have Zt:=ak.len Is;obtain⟨u,hu⟩:∃u,sp[0]?=some u:=⟨sp[0]'(by omega),List.getElem?_eq_getElem (by omega)⟩;have cI:=Mv 0 u hu;have En:w.cell? a=some u:=by simpa[Addr.add] using cI
   have hs:=zB En;have hb:=World.block_lt_of_cell? w _ En;obtain⟨b,o,s⟩:=a;simp at hs;subst hs;exact⟨b,o,rfl,hb,λi x hx=>by obtain⟨⟨cs,h1,h2,_⟩,_⟩:=hl2 i x hx;exact⟨cs,h1,h2⟩⟩
  ·obtain⟨i,FW,rfl⟩:=List.getElem_of_mem hx;obtain⟨⟨cs,_,_,hf⟩,_⟩:=hl2 i _ (List.getElem?_eq_getElem FW);exact hf
  ·have:=om (H:=H) len l D hlen (λi a ha=>(hl2 i a ha).2);show eK l+1<=Rows.uptoBulkAll ((List.range len).map D)+Rows.uptoBulkAll _+1;omega
theorem be {P:Program} {H:Type} {enc:TypeId×Value->H} {w:World} {base:Nat} {spare:Nat->Bool} {held:Bool} {n:Nat} {fs:Array Field} {cs:List Value} {xs:List (DataW H×List MemPlace)} (hf:∀(i:Nat) (f:Field),fs[i]?=some f->DataW.trod enc P w base spare held n f.type ((cs.drop f.offset).take (P.cellsOf f.type))=xs[i]?) (i:Nat) {f:Field} (hi:fs[i]?=some f) (k m:Nat) (ho:f.offset=k) (hc:P.cellsOf f.type=m) (l:List Value) (hl:(cs.drop k).take m=l) (y:DataW H×List MemPlace) (hy:xs[i]?=some y):DataW.trod enc P w base spare held n f.type l=some y:=by
 have h:=hf i f hi;rw[ho,hc,hl,hy] at h;exact h
theorem ar {α:Type} {n:Nat} {l:List α} (h:l.length=n+1):∃v m,l=v::m/\m.length=n:=by
 cases l with
 | nil=>cases h
 | cons v m=>exact⟨v,m,rfl,by simpa using h⟩
theorem Tryz.opbInt:cY Tryz.prog 3 Int:=vJ Tryz.underlying3
theorem Tryz.opbBool:cY Tryz.prog 4 Bool:=tF Tryz.underlying4
theorem Tryz.opbStr:cY Tryz.prog 9 ByteArray:=oP Tryz.underlying9
theorem Tryz.opbLimb:cY Tryz.prog 138 (BitVec 32):=tE Tryz.underlying138
theorem Tryz.opbInts:cY Tryz.prog 37 (List Int):=dY Tryz.underlying37 (by kernel_rfl) (by show 0<1;omega) Tryz.opbInt
theorem Tryz.opbStrs:cY Tryz.prog 22 (List ByteArray):=dY Tryz.underlying22 (by kernel_rfl) (by show 0<1;omega) Tryz.opbStr
theorem Tryz.opbNat:cY Tryz.prog 26 (List (BitVec 32)):=dY Tryz.underlying26 (by kernel_rfl) (by show 0<1;omega) Tryz.opbLimb
instance:Fits Raw:=⟨λx=>Fits.fits x.neg/\Fits.fits x.num/\Fits.fits x.den⟩
instance:aC Raw:=⟨λx=>aC.bulk x.neg+aC.bulk x.num+aC.bulk x.den+1,λ_=>Nat.le_add_left _ _⟩
theorem Tryz.opbRisk:cY Tryz.prog 28 Raw:=by
 intro H enc w base spare held fuel cs x h;obtain⟨xs,n,_,rfl,hl,jt,hf⟩:=DataW.trod_struct Tryz.underlying28 h;have hC:Tryz.prog.cellsOf 28=3:=by kernel_rfl
 have MG:xs.length=3:=jt;have MC:cs.length=3:=hl.trans hC;clear jt hl hC;obtain⟨c0,cs,rfl,MB⟩:=ar MC;obtain⟨c1,cs,rfl,MA⟩:=ar MB;obtain⟨c2,cs,rfl,Mz⟩:=ar MA;obtain rfl:=List.eq_nil_of_length_eq_zero Mz;obtain⟨y0,xs,rfl,MF⟩:=ar MG;obtain⟨y1,xs,rfl,ME⟩:=ar MF;obtain⟨y2,xs,rfl,MD⟩:=ar ME;obtain rfl:=List.eq_nil_of_length_eq_zero MD;have MN:=be hf 0 rfl 0 1 rfl (by kernel_rfl) [c0] rfl y0 rfl;obtain⟨x0,e0,f0,b0⟩:=Tryz.opbBool _ _ _ _ _ _ _ _ _ MN;obtain rfl:c0=.bool x0:=by injection e0
 have MM:=be hf 1 rfl 1 1 rfl (by kernel_rfl) [c1] rfl y1 rfl;obtain⟨x1,⟨A1,n1,k1,e1,r1⟩,f1,b1⟩:=Tryz.opbNat _ _ _ _ _ _ _ _ _ MM;obtain rfl:c1=.slice A1 n1 k1:=by injection e1
 have ML:=be hf 2 rfl 2 1 rfl (by kernel_rfl) [c2] rfl y2 rfl;obtain⟨x2,⟨A2,n2,k2,e2,r2⟩,f2,b2⟩:=Tryz.opbNat _ _ _ _ _ _ _ _ _ ML;obtain rfl:c2=.slice A2 n2 k2:=by injection e2
 refine⟨⟨x0,x1,x2⟩,⟨A1,n1,k1,A2,n2,k2,rfl,r1,r2⟩,⟨f0,f1,f2⟩,?_⟩;show aC.bulk x0+aC.bulk x1+aC.bulk x2+1<=Rows.uptoBulkAll [y0.1,y1.1,y2.1]+1;simp only[Rows.uptoBulkAll];omega
instance:Fits ai:=⟨λx=>Fits.fits x.name/\Fits.fits x.cands/\Fits.fits x.method/\Fits.fits x.seats/\Fits.fits x.ranks/\Fits.fits x.digits/\Fits.fits x.ties/\Fits.fits x.over/\Fits.fits x.skip⟩
instance:aC ai:=⟨λx=>aC.bulk x.name+aC.bulk x.cands+aC.bulk x.method+aC.bulk x.seats+aC.bulk x.ranks+aC.bulk x.digits+aC.bulk x.ties+aC.bulk x.over+aC.bulk x.skip+1,λ_=>Nat.le_add_left _ _⟩
theorem Tryz.opbCont:cY Tryz.prog 81 ai:=by
 intro H enc w base spare held fuel cs x h;obtain⟨xs,n,_,rfl,hl,jt,hf⟩:=DataW.trod_struct Tryz.underlying81 h;have hC:Tryz.prog.cellsOf 81=9:=by kernel_rfl
 have MG:xs.length=9:=jt;have MC:cs.length=9:=hl.trans hC;clear jt hl hC;obtain⟨c0,cs,rfl,MB⟩:=ar MC;obtain⟨c1,cs,rfl,MA⟩:=ar MB;obtain⟨c2,cs,rfl,Mz⟩:=ar MA;obtain⟨c3,cs,rfl,V1⟩:=ar Mz;obtain⟨c4,cs,rfl,V0⟩:=ar V1;obtain⟨c5,cs,rfl,VZ⟩:=ar V0;obtain⟨c6,cs,rfl,VY⟩:=ar VZ;obtain⟨c7,cs,rfl,VW⟩:=ar VY;obtain⟨c8,cs,rfl,VV⟩:=ar VW;obtain rfl:=List.eq_nil_of_length_eq_zero VV;obtain⟨y0,xs,rfl,MF⟩:=ar MG;obtain⟨y1,xs,rfl,ME⟩:=ar MF;obtain⟨y2,xs,rfl,MD⟩:=ar ME;obtain⟨y3,xs,rfl,Wc⟩:=ar MD;obtain⟨y4,xs,rfl,Wb⟩:=ar Wc;obtain⟨y5,xs,rfl,Wa⟩:=ar Wb;obtain⟨y6,xs,rfl,V9⟩:=ar Wa;obtain⟨y7,xs,rfl,V8⟩:=ar V9;obtain⟨y8,xs,rfl,V7⟩:=ar V8;obtain rfl:=List.eq_nil_of_length_eq_zero V7;have MN:=be hf 0 rfl 0 1 rfl (by kernel_rfl) [c0] rfl y0 rfl;obtain⟨x0,e0,f0,b0⟩:=Tryz.opbStr _ _ _ _ _ _ _ _ _ MN;obtain rfl:c0=.string x0:=by injection e0
 have MM:=be hf 1 rfl 1 1 rfl (by kernel_rfl) [c1] rfl y1 rfl;obtain⟨x1,⟨A1,n1,k1,e1,r1⟩,f1,b1⟩:=Tryz.opbStrs _ _ _ _ _ _ _ _ _ MM;obtain rfl:c1=.slice A1 n1 k1:=by injection e1
 have ML:=be hf 2 rfl 2 1 rfl (by kernel_rfl) [c2] rfl y2 rfl;obtain⟨x2,e2,f2,b2⟩:=Tryz.opbInt _ _ _ _ _ _ _ _ _ ML;obtain rfl:c2=.int .i64 x2:=by injection e2
 have Wt:=be hf 3 rfl 3 1 rfl (by kernel_rfl) [c3] rfl y3 rfl;obtain⟨x3,e3,f3,b3⟩:=Tryz.opbInt _ _ _ _ _ _ _ _ _ Wt;obtain rfl:c3=.int .i64 x3:=by injection e3
 have Ws:=be hf 4 rfl 4 1 rfl (by kernel_rfl) [c4] rfl y4 rfl;obtain⟨x4,e4,f4,b4⟩:=Tryz.opbInt _ _ _ _ _ _ _ _ _ Ws;obtain rfl:c4=.int .i64 x4:=by injection e4
 have Wr:=be hf 5 rfl 5 1 rfl (by kernel_rfl) [c5] rfl y5 rfl;obtain⟨x5,e5,f5,b5⟩:=Tryz.opbInt _ _ _ _ _ _ _ _ _ Wr;obtain rfl:c5=.int .i64 x5:=by injection e5
 have Wq:=be hf 6 rfl 6 1 rfl (by kernel_rfl) [c6] rfl y6 rfl;obtain⟨x6,e6,f6,b6⟩:=Tryz.opbInt _ _ _ _ _ _ _ _ _ Wq;obtain rfl:c6=.int .i64 x6:=by injection e6
 have Wp:=be hf 7 rfl 7 1 rfl (by kernel_rfl) [c7] rfl y7 rfl;obtain⟨x7,e7,f7,b7⟩:=Tryz.opbInt _ _ _ _ _ _ _ _ _ Wp;obtain rfl:c7=.int .i64 x7:=by injection e7
 have Wo:=be hf 8 rfl 8 1 rfl (by kernel_rfl) [c8] rfl y8 rfl;obtain⟨x8,e8,f8,b8⟩:=Tryz.opbInt _ _ _ _ _ _ _ _ _ Wo;obtain rfl:c8=.int .i64 x8:=by injection e8
 refine⟨⟨x0,x1,x2,x3,x4,x5,x6,x7,x8⟩,⟨A1,n1,k1,rfl,r1⟩,⟨f0,f1,f2,f3,f4,f5,f6,f7,f8⟩,?_⟩;show aC.bulk x0+aC.bulk x1+aC.bulk x2+aC.bulk x3+aC.bulk x4+aC.bulk x5+aC.bulk x6+aC.bulk x7+aC.bulk x8+1<=Rows.uptoBulkAll [y0.1,y1.1,y2.1,y3.1,y4.1,y5.1,y6.1,y7.1,y8.1]+1;simp only[Rows.uptoBulkAll];omega
instance:Fits ax:=⟨λx=>Fits.fits x.name/\Fits.fits x.prec/\Fits.fits x.cont⟩
instance:aC ax:=⟨λx=>aC.bulk x.name+aC.bulk x.prec+aC.bulk x.cont+1,λ_=>Nat.le_add_left _ _⟩
theorem Tryz.opbStyl:cY Tryz.prog 91 ax:=by
 intro H enc w base spare held fuel cs x h;obtain⟨xs,n,_,rfl,hl,jt,hf⟩:=DataW.trod_struct Tryz.underlying91 h;have hC:Tryz.prog.cellsOf 91=3:=by kernel_rfl
 have MG:xs.length=3:=jt;have MC:cs.length=3:=hl.trans hC;clear jt hl hC;obtain⟨c0,cs,rfl,MB⟩:=ar MC;obtain⟨c1,cs,rfl,MA⟩:=ar MB;obtain⟨c2,cs,rfl,Mz⟩:=ar MA;obtain rfl:=List.eq_nil_of_length_eq_zero Mz;obtain⟨y0,xs,rfl,MF⟩:=ar MG;obtain⟨y1,xs,rfl,ME⟩:=ar MF;obtain⟨y2,xs,rfl,MD⟩:=ar ME;obtain rfl:=List.eq_nil_of_length_eq_zero MD;have MN:=be hf 0 rfl 0 1 rfl (by kernel_rfl) [c0] rfl y0 rfl;obtain⟨x0,e0,f0,b0⟩:=Tryz.opbStr _ _ _ _ _ _ _ _ _ MN;obtain rfl:c0=.string x0:=by injection e0
 have MM:=be hf 1 rfl 1 1 rfl (by kernel_rfl) [c1] rfl y1 rfl;obtain⟨x1,⟨A1,n1,k1,e1,r1⟩,f1,b1⟩:=Tryz.opbInts _ _ _ _ _ _ _ _ _ MM;obtain rfl:c1=.slice A1 n1 k1:=by injection e1
 have ML:=be hf 2 rfl 2 1 rfl (by kernel_rfl) [c2] rfl y2 rfl;obtain⟨x2,⟨A2,n2,k2,e2,r2⟩,f2,b2⟩:=Tryz.opbInts _ _ _ _ _ _ _ _ _ ML;obtain rfl:c2=.slice A2 n2 k2:=by injection e2
 refine⟨⟨x0,x1,x2⟩,⟨A1,n1,k1,A2,n2,k2,rfl,r1,r2⟩,⟨f0,f1,f2⟩,?_⟩;show aC.bulk x0+aC.bulk x1+aC.bulk x2+1<=Rows.uptoBulkAll [y0.1,y1.1,y2.1]+1;simp only[Rows.uptoBulkAll];omega
theorem Tryz.opbConts:cY Tryz.prog 23 (List ai):=dY Tryz.underlying23 (by kernel_rfl) (by show 0<9;omega) Tryz.opbCont
theorem Tryz.opbStyls:cY Tryz.prog 24 (List ax):=dY Tryz.underlying24 (by kernel_rfl) (by show 0<3;omega) Tryz.opbStyl
instance:Fits ae:=⟨λx=>Fits.fits x.title/\Fits.fits x.dots/\Fits.fits x.blank/\Fits.fits x.marked/\Fits.fits x.prec/\Fits.fits x.cont/\Fits.fits x.styl/\Fits.fits x.scan/\Fits.fits x.batch/\Fits.fits x.risk/\Fits.fits x.cell/\Fits.fits x.seed⟩
instance:aC ae:=⟨λx=>aC.bulk x.title+aC.bulk x.dots+aC.bulk x.blank+aC.bulk x.marked+aC.bulk x.prec+aC.bulk x.cont+aC.bulk x.styl+aC.bulk x.scan+aC.bulk x.batch+aC.bulk x.risk+aC.bulk x.cell+aC.bulk x.seed+1,λ_=>Nat.le_add_left _ _⟩
theorem Tryz.opbElec:cY Tryz.prog 30 ae:=by
 intro H enc w base spare held fuel cs x h;obtain⟨xs,n,_,rfl,hl,jt,hf⟩:=DataW.trod_struct Tryz.underlying30 h;have hC:Tryz.prog.cellsOf 30=14:=by kernel_rfl
 have MG:xs.length=12:=jt;have MC:cs.length=14:=hl.trans hC;clear jt hl hC;obtain⟨c0,cs,rfl,MB⟩:=ar MC;obtain⟨c1,cs,rfl,MA⟩:=ar MB;obtain⟨c2,cs,rfl,Mz⟩:=ar MA;obtain⟨c3,cs,rfl,V1⟩:=ar Mz;obtain⟨c4,cs,rfl,V0⟩:=ar V1;obtain⟨c5,cs,rfl,VZ⟩:=ar V0;obtain⟨c6,cs,rfl,VY⟩:=ar VZ;obtain⟨c7,cs,rfl,VW⟩:=ar VY;obtain⟨c8,cs,rfl,VV⟩:=ar VW;obtain⟨c9,cs,rfl,V6⟩:=ar VV;obtain⟨WT,cs,rfl,V5⟩:=ar V6;obtain⟨WS,cs,rfl,V4⟩:=ar V5;obtain⟨c12,cs,rfl,V3⟩:=ar V4;obtain⟨c13,cs,rfl,V2⟩:=ar V3;obtain rfl:=List.eq_nil_of_length_eq_zero V2;obtain⟨y0,xs,rfl,MF⟩:=ar MG;obtain⟨y1,xs,rfl,ME⟩:=ar MF;obtain⟨y2,xs,rfl,MD⟩:=ar ME;obtain⟨y3,xs,rfl,Wc⟩:=ar MD;obtain⟨y4,xs,rfl,Wb⟩:=ar Wc;obtain⟨y5,xs,rfl,Wa⟩:=ar Wb;obtain⟨y6,xs,rfl,V9⟩:=ar Wa;obtain⟨y7,xs,rfl,V8⟩:=ar V9;obtain⟨y8,xs,rfl,V7⟩:=ar V8;obtain⟨y9,xs,rfl,Wh⟩:=ar V7;obtain⟨Yv,xs,rfl,Wg⟩:=ar Wh;obtain⟨Yu,xs,rfl,We⟩:=ar Wg;obtain rfl:=List.eq_nil_of_length_eq_zero We;have MN:=be hf 0 rfl 0 1 rfl (by kernel_rfl) [c0] rfl y0 rfl;obtain⟨x0,e0,f0,b0⟩:=Tryz.opbStr _ _ _ _ _ _ _ _ _ MN;obtain rfl:c0=.string x0:=by injection e0
 have MM:=be hf 1 rfl 1 1 rfl (by kernel_rfl) [c1] rfl y1 rfl;obtain⟨x1,e1,f1,b1⟩:=Tryz.opbInt _ _ _ _ _ _ _ _ _ MM;obtain rfl:c1=.int .i64 x1:=by injection e1
 have ML:=be hf 2 rfl 2 1 rfl (by kernel_rfl) [c2] rfl y2 rfl;obtain⟨x2,e2,f2,b2⟩:=Tryz.opbInt _ _ _ _ _ _ _ _ _ ML;obtain rfl:c2=.int .i64 x2:=by injection e2
 have Wt:=be hf 3 rfl 3 1 rfl (by kernel_rfl) [c3] rfl y3 rfl;obtain⟨x3,e3,f3,b3⟩:=Tryz.opbInt _ _ _ _ _ _ _ _ _ Wt;obtain rfl:c3=.int .i64 x3:=by injection e3
 have Ws:=be hf 4 rfl 4 1 rfl (by kernel_rfl) [c4] rfl y4 rfl;obtain⟨x4,⟨A4,n4,k4,e4,r4⟩,f4,b4⟩:=Tryz.opbStrs _ _ _ _ _ _ _ _ _ Ws;obtain rfl:c4=.slice A4 n4 k4:=by injection e4
 have Wr:=be hf 5 rfl 5 1 rfl (by kernel_rfl) [c5] rfl y5 rfl;obtain⟨x5,⟨A5,n5,k5,e5,r5⟩,f5,b5⟩:=Tryz.opbConts _ _ _ _ _ _ _ _ _ Wr;obtain rfl:c5=.slice A5 n5 k5:=by injection e5
 have Wq:=be hf 6 rfl 6 1 rfl (by kernel_rfl) [c6] rfl y6 rfl;obtain⟨x6,⟨A6,n6,k6,e6,r6⟩,f6,b6⟩:=Tryz.opbStyls _ _ _ _ _ _ _ _ _ Wq;obtain rfl:c6=.slice A6 n6 k6:=by injection e6
 have Wp:=be hf 7 rfl 7 1 rfl (by kernel_rfl) [c7] rfl y7 rfl;obtain⟨x7,e7,f7,b7⟩:=Tryz.opbInt _ _ _ _ _ _ _ _ _ Wp;obtain rfl:c7=.int .i64 x7:=by injection e7
 have Wo:=be hf 8 rfl 8 1 rfl (by kernel_rfl) [c8] rfl y8 rfl;obtain⟨x8,e8,f8,b8⟩:=Tryz.opbInt _ _ _ _ _ _ _ _ _ Wo;obtain rfl:c8=.int .i64 x8:=by injection e8
 have h9a:=be hf 9 rfl 9 3 rfl (by kernel_rfl) [c9,WT,WS] rfl y9 rfl;obtain⟨x9,⟨A9,n9,k9,B9,m9,j9,e9,r9,s9⟩,f9,b9⟩:=Tryz.opbRisk _ _ _ _ _ _ _ _ _ h9a;obtain⟨rfl,rfl,rfl⟩:c9=.bool x9.neg/\WT=.slice A9 n9 k9/\WS=.slice B9 m9 j9:=by
  injection e9 with q1 q2
  injection q2 with q2 q3
  injection q3 with q3 q4
  exact⟨q1,q2,q3⟩
 have Ww:=be hf 10 rfl 12 1 rfl (by kernel_rfl) [c12] rfl Yv rfl;obtain⟨Tx,e10,ZY,b10⟩:=Tryz.opbInt _ _ _ _ _ _ _ _ _ Ww;obtain rfl:c12=.int .i64 Tx:=by injection e10
 have Wv:=be hf 11 rfl 13 1 rfl (by kernel_rfl) [c13] rfl Yu rfl;obtain⟨Tw,e11,WE,b11⟩:=Tryz.opbStr _ _ _ _ _ _ _ _ _ Wv;obtain rfl:c13=.string Tw:=by injection e11
 refine⟨⟨x0,x1,x2,x3,x4,x5,x6,x7,x8,x9,Tx,Tw⟩,⟨A4,n4,k4,A5,n5,k5,A6,n6,k6,A9,n9,k9,B9,m9,j9,rfl,r4,r5,r6,r9,s9⟩,⟨f0,f1,f2,f3,f4,f5,f6,f7,f8,f9,ZY,WE⟩,?_⟩;show aC.bulk x0+aC.bulk x1+aC.bulk x2+aC.bulk x3+aC.bulk x4+aC.bulk x5+aC.bulk x6+aC.bulk x7+aC.bulk x8+aC.bulk x9+aC.bulk Tx+aC.bulk Tw+1<=Rows.uptoBulkAll [y0.1,y1.1,y2.1,y3.1,y4.1,y5.1,y6.1,y7.1,y8.1,y9.1,Yv.1,Yu.1]+1;simp only[Rows.uptoBulkAll];omega
instance:Fits Ns:=⟨λ_=>True⟩
instance:aC Ns:=⟨λ_=>1,λ_=>Nat.le_refl _⟩
theorem IU {e:ae} (hf:Fits.fits e) (hb:aC.bulk e<=1048576):jc e/\jb e:=by
 obtain⟨f1,f2,f3,f4,f5,f6,f7,f8,f9,ZY,WE,f12⟩:=hf;have iy:aC.bulk e.title+aC.bulk e.dots+aC.bulk e.blank+aC.bulk e.marked+aC.bulk e.prec+aC.bulk e.cont+aC.bulk e.styl+aC.bulk e.scan+aC.bulk e.batch+aC.bulk e.risk+aC.bulk e.cell+aC.bulk e.seed+1<=1048576:=hb;have str:∀{s:ByteArray},aC.bulk s<=1048576->bP s:=λ{s} h=>by
  have h':s.size+1<=1048576:=h;unfold bP;omega
 have lst:∀{α:Type} [aC α] {l:List α},aC.bulk l<=1048576->l.length<=1048576/\∀x∈l,aC.bulk x<=1048576:=λ{α} _ {l} h=>by
  have h':eK l+1<=1048576:=h;have h1:=uD l;exact⟨by omega,λx hx=>by have:=uC hx;omega⟩
 obtain⟨lp,mp⟩:=lst (l:=e.prec) (by omega);obtain⟨lc,mc⟩:=lst (l:=e.cont) (by omega);obtain⟨ls,ms⟩:=lst (l:=e.styl) (by omega);have hr:aC.bulk e.risk.neg+aC.bulk e.risk.num+aC.bulk e.risk.den+1<=1048576:=by
  have:aC.bulk e.risk=aC.bulk e.risk.neg+aC.bulk e.risk.num+aC.bulk e.risk.den+1:=rfl;omega
 obtain⟨ln,_⟩:=lst (l:=e.risk.num) (by omega);obtain⟨ld,_⟩:=lst (l:=e.risk.den) (by omega);have Kb:∀x∈e.cont,jd x/\bP x.name/\∀s∈x.cands,bP s:=λx hx=>by
  obtain⟨g1,g2,g3,g4,g5,g6,g7,g8,g9⟩:=f6.2 x hx;have Kc:aC.bulk x.name+aC.bulk x.cands+aC.bulk x.method+aC.bulk x.seats+aC.bulk x.ranks+aC.bulk x.digits+aC.bulk x.ties+aC.bulk x.over+aC.bulk x.skip+1<=1048576:=mc x hx;obtain⟨l1,m1⟩:=lst (l:=x.cands) (by omega);exact⟨⟨g3,g4,g5,g6,g7,g8,g9,by omega⟩,str (by omega),λs hs=>str (m1 s hs)⟩
 have DW:∀x∈e.styl,x.prec.length<=1048576/\x.cont.length<=1048576/\bP x.name:=λx hx=>by
  have Kc:aC.bulk x.name+aC.bulk x.prec+aC.bulk x.cont+1<=1048576:=ms x hx;obtain⟨l1,_⟩:=lst (l:=x.prec) (by omega);obtain⟨l2,_⟩:=lst (l:=x.cont) (by omega);exact⟨l1,l2,str (by omega)⟩
 exact⟨⟨f2,f3,f4,f8,f9,WE,λx hx=>(Kb x hx).1,λx hx=>⟨by have:=(DW x hx).1;omega,by have:=(DW x hx).2.1;omega⟩,by omega,by omega,by omega,⟨by omega,by omega⟩⟩,
  ⟨str (by omega),str (by omega),λs hs=>str (mp s hs),λx hx=>(Kb x hx).2,λx hx=>(DW x hx).2.2,by omega⟩⟩
theorem Tryz.own':ownKnob Tryz.prog.godebug=none:=by kernel_rfl
theorem Tryz.laidOut:laidOutB Tryz.prog=true:=by kernel_rfl
theorem Ch:Rows.laid_internal_strconv_uint64pow10=(Lib.tabData .u64 Lib.pow10Tab:DataW Unit):=rfl
theorem zu {W:World} (h:Lib.VarReads Tryz.prog W "internal/strconv.uint64pow10" Rows.laid_internal_strconv_uint64pow10):Fx W.heap.size W:=by
 have hT:Lib.TabIs Tryz.prog W "internal/strconv.uint64pow10" .u64 Lib.pow10Tab:=by
  obtain⟨g,t,cs,fuel,p,hg,P6,UT,hd⟩:=h;obtain⟨g0,hg0,P8⟩:∃g0,Tryz.prog.globalNamed "internal/strconv.uint64pow10" =some g0/\(Tryz.prog.globals[g0]?).map (·.type)=some 296:=⟨(Tryz.prog.globalNamed "internal/strconv.uint64pow10").getD 0,by kernel_rfl,by kernel_rfl⟩;obtain rfl:=Option.some.inj (hg.symm.trans hg0);obtain rfl:=Option.some.inj (P6.symm.trans P8);rw[Ch] at hd;unfold Lib.TabIs;rw[UT,<-Lib.cells_of_tab Tryz.underlying296 Tryz.underlying231 (by kernel_rfl) (by kernel_rfl) hd]
 exact Lib.tabBelow_of_tabIs hT
theorem jO {H:Type} {enc:TypeId×Value->H} {C:Checked} {os:Os} {f:FuncId} {fn:Func} {s:OpenSpec} {conds:List PathCond} {apart:Bool} {laid:List (String×DataW Unit)} (modest:Bool) (w0:World) (args:Array Value) (hos:w0.os=os) (FQ:(w0.forCall (λ_ _=>0) ⟨#[],args,[]⟩).Shaped C.prog) (mf:Input.okWideB C.prog (w0.forCall (λ_ _=>0) ⟨#[],args,[]⟩) f ⟨#[],args,[]⟩=true) (iw:s.preRow enc C.prog fn conds apart laid (w0.forCall (λ_ _=>0) ⟨#[],args,[]⟩).memory args) : ∃(w:World) (tape:Tape) (i:Input),w.os=os/\(w.forCall tape i).Shaped C.prog/\i.vars=[]/\Input.okWide C.prog (w.forCall tape i) .any w.heap.size f i/\ s.preRow enc C.prog fn conds apart laid (w.forCall tape i).memory i.args/\({ modest:=modest }:Assume).holds C.prog (lone (Frame.enter C.prog f i.args .normal) [] (w.forCall tape i)):=
 ⟨w0,λ_ _=>0,⟨#[],args,[]⟩,hos,FQ,(Input.okWide_of_okWideB (base:=0) mf).1,(Input.okWide_of_okWideB mf).2,iw,by
  simp only[Assume.holds];exact⟨by simp,by simp,λ_=>Modest.zero,by simp,by simp⟩⟩
theorem xP {H:Type} {d:DataW H} {l:List (DataW H)} (h:d∈l):Rows.uptoBulk d<=Rows.uptoBulkAll l:=by
 induction l with
 | nil=>cases h
 | cons x r ih=>
  simp only[Rows.uptoBulkAll];rcases List.mem_cons.1 h with e|e
  ·subst e;omega
  ·have:=ih e;omega
end Go.Proofs.YtichkplomldgiaaGreatDoor
