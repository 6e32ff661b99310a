/- Str Elec RefD Smp1 Smp2 -/
import Derived.Test.YtjlhbfbdcfajfaaGreatDoorW01
import Derived.Laws.Rows
import Derived.Test.YtjlhbfbdcfajfaaGreatDoorProg
set_option maxHeartbeats 8000000
set_option maxRecDepth 100000
namespace Go.Proofs.YtjlhbfbdcfajfaaGreatDoor
open Go.RowKit
def SV {α:Type} [aG α] (w:World) (S:Nat→Prop) (v:Value) (x:α):Prop:=∃cs:List Value,v=.agg cs.toArray∧aG.rep w S cs x
section
variable {α:Type} [aG α] {w w':World} {S S':Nat→Prop} {v:Value} {x:α}
theorem SV.keep (h:SV w S v x) (hS:∀b,S b→S' b) (hk:aA S w w'):SV w' S' v x:=by
 obtain⟨cs,e,hr⟩:=h;exact⟨cs,e,aG.keep hr hS hk⟩
theorem SV.below {B:Nat} (h:SV w S v x) (hb:Below B w w') (hS:∀b,S b→b<B):SV w' S v x:=h.keep (fun _ h=>h) ((aA.of_below hb).sub hS)
theorem SV.drew (h:SV w S v x):SV w.drew S v x:=h.keep (fun _ h=>h) (fun _ _=>rfl)
end
def iL {α:Type} [aG α] (w:World) (x:α) (e:Ending) (w':World):Prop:=∃v,e=.returned v∧SV w' (cW w w') v x∧Below w.heap.size w w'
theorem kj {B:Nat} {a w:World} {g:Nat} (h:Below B a w) (hg:B≤g):∀(l:List Value) (i:Nat),Below B a (setAll w g i l):=by
 intro l;induction l generalizing w with
 | nil=>intro i;exact h
 | cons v l ih=>intro i;exact ih (h.setCell (by simpa using hg) v) (i+1)
theorem aA.setAll {S:Nat→Prop} {w w1:World} {g:Nat} (h:aA S w w1) (hg:¬S g):∀(l:List Value) (i:Nat),aA S w (setAll w1 g i l):=by
 intro l;induction l generalizing w1 with
 | nil=>intro i;exact h
 | cons v l ih=>intro i;exact ih (h.setCell (p:=⟨g,i,none⟩) hg v) (i+1)
theorem kT {g:Nat}:∀(l:List Value) (i:Nat) (w:World),(setAll w g i l).heap.size=w.heap.size:=by
 intro l;induction l with
 | nil=>intro i w;rfl
 | cons v l ih=>intro i w;rw[Go.Proofs.YtjlhbfbdcfajfaaGreatDoor.setAll,ih];simp
theorem Own.fresh {α:Type} [aG α] {w w':World} {base:Nat} {e:TypeId} {A:Option Addr} {n c:Nat} {xs:List α} (h:Own w' (fun _=>False) base e (.slice A n c) xs) (hb:w.heap.size≤base):RS w' (cW w w') A n c xs:=
 h.rs (fun _ h=>h.elim) (fun _ h1 h2=>⟨Nat.le_trans hb h1,h2⟩)
theorem dE.facts3 {w:World} {g:Nat} {t:TypeId} {a b c:Value} (h:dE w g t #[a,b,c]):w.cell? ⟨g,0,none⟩=some a∧w.cell? ⟨g,1,none⟩=some b∧w.cell? ⟨g,2,none⟩=some c∧w.frozen? ⟨g,0,none⟩=false∧w.frozen? ⟨g,1,none⟩=false∧w.frozen? ⟨g,2,none⟩=false:=
 ⟨h.cell 0,h.cell 1,h.cell 2,h.frozen 0,h.frozen 1,h.frozen 2⟩
theorem gC {α:Type} [aG α] {P:Program} {fn:Func} {p:Tmp} {ty t:TypeId} {d:TypeDesc} {w w2:World} {tmps:Array Value} {defers:List Deferred} {g:Nat} {u3:Array Value} {cs:List Value} {S:Nat→Prop} {x:α} {R:Ending→World→Prop} (h:fn.results=#[.cell p ty]) (hp:tmps.getD p undef=.pointer (some ⟨g,0,none⟩)) (hg:w.heap.size≤g) (hk:dE w2 g t u3) (hl:u3.size=cs.length) (hu:P.underlying ty=some d) (hd:(match d with|.struct _|.array _ _=>true|_=>false)=true) (hi:(P.info? ty).map (·.size)=some cs.length) (hr:aG.rep w2 S cs x) (hS:∀b,S b→cW w w2 b∧b≠g) (hb:Below w.heap.size w w2) (hdf:defers=[]) (hR:iL w x (.returned (.agg cs.toArray)) (setAll w2 g 0 cs)→R (.returned (.agg cs.toArray)) (setAll w2 g 0 cs)) : bodyPost P fn R Exit.ret { tmps:=tmps,defers:=defers } (setAll w2 g 0 cs):=by
 refine bodyPost_ret (results_cell_row h _ _ g t cs.toArray (0,0) d hp (hk.setAll cs hl) hu hd (by simpa using hi)) hdf ?_;refine hR ⟨_,rfl,⟨cs,rfl,aG.keep hr (fun b hb=>?_) ((aA.refl _ _).setAll (fun h=>(hS g h).2 rfl) cs 0)⟩,kj hb hg cs 0⟩;have:=(hS b hb).1;exact⟨this.1,by rw[kT];exact this.2⟩
theorem ut {a b c:World} (h:a.heap.size≤b.heap.size):∀g,cW b c g→cW a c g:=fun _ hg=>⟨Nat.le_trans h hg.1,hg.2⟩
theorem xB {a b c:World} (h:b.heap.size≤c.heap.size):∀g,cW a b g→cW a c g:=fun _ hg=>⟨hg.1,Nat.lt_of_lt_of_le hg.2 h⟩
theorem iL.undrew {α:Type} [aG α] {w:World} {x:α} {e:Ending} {w':World} (h:iL w.drew x e w'):iL w x e w':=by
 obtain⟨v,he,hs,hb⟩:=h;exact⟨v,he,hs,Ha hb⟩
theorem xS {α:Type} [aG α] {P:Program} {f:FuncId} {args:Array Value} {w:World} {x:α} (h:Calls P f args w.drew (iL w.drew x)):Calls P f args w.drew (iL w x):=h.mono fun _ _ h=>h.undrew
theorem uw {α:Type} [aG α] {P:Program} {f:FuncId} {args:Array Value} {w:World} {x:α} (h:Calls P f args w.drew.drew (iL w.drew.drew x)):Calls P f args w.drew.drew (iL w x):=h.mono fun _ _ h=>h.undrew.undrew
theorem dE.farAll {w:World} {g g':Nat} {t:TypeId} {cs:Array Value} (h:dE w g t cs) (hg:g≠g'):∀(l:List Value) (i:Nat),dE (Go.Proofs.YtjlhbfbdcfajfaaGreatDoor.setAll w g' i l) g t cs:=by
 intro l;induction l generalizing w with
 | nil=>intro i;exact h
 | cons v l ih=>intro i;exact ih (h.far (p:=⟨g',i,none⟩) hg v) (i+1)
def Up (W w':World):Prop:=Below W.heap.size W w'
theorem Up.out {W w':World} (h:Up W w'):Below W.heap.size W w':=h
theorem Up.start (W:World):Up W W.drew:=(Below.refl _ _).drew
theorem Up.more {W w1 w2:World} (h:Up W w1) (k:Below w1.heap.size w1 w2):Up W w2:=ak h k
structure aa where
 title:ByteArray
 dots:Int
 blank:Int
 marked:Int
 prec:List ByteArray
 cont:List ai
 styl:List ax
 scan:Int
 batch:Int
 risk:Raw
 cell:Int
 seed:ByteArray
def aa.zero:aa:=⟨⟨#[]⟩,0,0,0,[],[],[],0,0,⟨false,[],[]⟩,0,⟨#[]⟩⟩
def LA (e:aa) (vP vC vS vN vD:Value):List Value:=
 [.string e.title,.int .i64 e.dots,.int .i64 e.blank,.int .i64 e.marked,vP,vC,vS,.int .i64 e.scan,.int .i64 e.batch,.bool e.risk.neg,vN,vD,.int .i64 e.cell,.string e.seed]
instance:aG aa where
 sz:=14
 rep w S cs x:=∃A n c A2 n2 c2 A3 n3 c3 A4 n4 c4 A5 n5 c5,cs=LA x (.slice A n c) (.slice A2 n2 c2) (.slice A3 n3 c3) (.slice A4 n4 c4) (.slice A5 n5 c5)
  ∧RS w S A n c x.prec∧RS w S A2 n2 c2 x.cont∧RS w S A3 n3 c3 x.styl∧RS w S A4 n4 c4 x.risk.num∧RS w S A5 n5 c5 x.risk.den
 len h:=by obtain⟨A,n,c,A2,n2,c2,A3,n3,c3,A4,n4,c4,A5,n5,c5,rfl,_⟩:=h;rfl
 keep h hS hk:=by
  obtain⟨A,n,c,A2,n2,c2,A3,n3,c3,A4,n4,c4,A5,n5,c5,rfl,h1,h2,h3,h4,h5⟩:=h;exact⟨A,n,c,A2,n2,c2,A3,n3,c3,A4,n4,c4,A5,n5,c5,rfl,h1.keep hS hk,h2.keep hS hk,h3.keep hS hk,h4.keep hS hk,h5.keep hS hk⟩
structure aw where
 kind:ByteArray
 name:ByteArray
 fields:List ao
 line:Int
instance:aG aw where
 sz:=4
 rep w S cs x:=∃A n c,cs=[.string x.kind,.string x.name,.slice A n c,.int .i64 x.line]∧RS w S A n c x.fields
 len h:=by obtain⟨A,n,c,rfl,_⟩:=h;rfl
 keep h hS hk:=by
  obtain⟨A,n,c,rfl,h1⟩:=h;exact⟨A,n,c,rfl,h1.keep hS hk⟩
structure cO where
 title:ByteArray
 blocks:List aw
instance:aG cO where
 sz:=2
 rep w S cs x:=∃A n c,cs=[.string x.title,.slice A n c]∧RS w S A n c x.blocks
 len h:=by obtain⟨A,n,c,rfl,_⟩:=h;rfl
 keep h hS hk:=by
  obtain⟨A,n,c,rfl,h1⟩:=h;exact⟨A,n,c,rfl,h1.keep hS hk⟩
structure cL where
 e:aa
 names:ByteArray→Option (List ByteArray)
 vals:List aC
def cL.of (b:cL) (k:ByteArray):List ByteArray:=(b.names k).getD []
def au:ByteArray:=⟨#[115,99,97,110,110,101,114,115]⟩
def af:ByteArray:=⟨#[112,114,101,99,105,110,99,116,115]⟩
def aD:ByteArray:=⟨#[115,116,121,108,101]⟩
def aO:ByteArray:=⟨#[97,117,100,105,116]⟩
def aY:ByteArray:=⟨#[112,114,105,118,97,99,121]⟩
def dh:ByteArray:=⟨#[100,111,116,115]⟩
def bZ:ByteArray:=⟨#[99,111,117,110,116]⟩
def cf:ByteArray:=⟨#[98,97,116,99,104]⟩
def bY:ByteArray:=⟨#[110,97,109,101,115]⟩
def cF:ByteArray:=⟨#[99,97,110,100,105,100,97,116,101,115]⟩
def bS:ByteArray:=⟨#[114,97,110,107,115]⟩
def db:ByteArray:=⟨#[116,105,101,115]⟩
def aV:ByteArray:=⟨#[111,118,101,114,118,111,116,101]⟩
def dc:ByteArray:=⟨#[115,107,105,112]⟩
def dH:ByteArray:=⟨#[99,101,108,108]⟩
def ay:ByteArray:=⟨#[99,111,110,116,101,115,116,115]⟩
def aC.s (v:aC) (k:ByteArray):List ByteArray:=(v.lst k).getD []
def da (nm:ByteArray) (v:aC):ai:=⟨nm,v.s cF,v.n aN,v.n bf,v.n bS,v.n az,v.n db,v.n aV,v.n dc⟩
def bG (kind nm:ByteArray) (v:aC) (b:cL):cL:=
 if kind=aP then { b with e:={ b.e with dots:=v.n dh,blank:=v.n bq,marked:=v.n bb } }
 else if kind=au then { b with e:={ b.e with scan:=v.n bZ,batch:=v.n cf } }
 else if kind=af then { b with e:={ b.e with prec:=v.s bY } }
 else if kind=ah then { b with e:={ b.e with cont:=b.e.cont++[da nm v] } }
 else if kind=aD then { b with e:={ b.e with styl:=b.e.styl++[⟨nm,[],[]⟩] },vals:=b.vals++[v] }
 else if kind=aO then { b with e:={ b.e with risk:=v.risk,seed:=v.seed } }
 else if kind=aY then { b with e:={ b.e with cell:=v.n dH } }
 else b
def fo (kind:ByteArray):List ao→aC→eM×aC
 | [],v=>(⟨0,0⟩,v)
 | f::l,v=>if(aZ kind f v).1≠0 then(⟨(aZ kind f v).1,f.line⟩,(aZ kind f v).2) else fo kind l (aZ kind f v).2
def cL.named (b:cL) (kind nm:ByteArray):cL:={ b with names:=setF b.names kind (b.of kind++[nm]) }
def iB (x:aw) (b:cL):eM×cL:=
 if gJ x.kind x.name (b.of x.kind)≠0 then(⟨gJ x.kind x.name (b.of x.kind),x.line⟩,b)
 else if(fo x.kind x.fields aC.zero).1.no≠0 then((fo x.kind x.fields aC.zero).1,b.named x.kind x.name)
 else if(eR x.kind x.line (fo x.kind x.fields aC.zero).2).no≠0 then(eR x.kind x.line (fo x.kind x.fields aC.zero).2,b.named x.kind x.name)
 else(⟨0,0⟩,bG x.kind x.name (fo x.kind x.fields aC.zero).2 (b.named x.kind x.name))
def dV:List aw→cL→eM×cL
 | [],b=>(⟨0,0⟩,b)
 | x::l,b=>if(iB x b).1.no≠0 then iB x b else dV l (iB x b).2
def eS (prec:List ByteArray) (line:Int):List ByteArray→List Bool→List Int→Except eM (List Bool×List Int)
 | [],used,fJ=>.ok (used,fJ)
 | s::l,used,fJ=>
  if Lib.idxOfS prec s<0 then .error ⟨2,line⟩
  else if used.getD (Lib.idxOfS prec s).toNat false=true then .error ⟨3,line⟩
  else eS prec line l (used.set (Lib.idxOfS prec s).toNat true) (fJ++[Lib.idxOfS prec s])
def cG (nm:ByteArray):List ai→Nat→Int
 | [],_=>-1
 | c::l,i=>if c.name=nm then(i:Int) else cG nm l (i+1)
def fC (cont:List ai) (line:Int):List ByteArray→List Int→Except eM (List Int)
 | [],fJ=>.ok fJ
 | s::l,fJ=>if cG s cont 0<0 then .error ⟨2,line⟩ else fC cont line l (fJ++[cG s cont 0])
def hJ (prec:List ByteArray) (cont:List ai):List aC→List ax→List Bool→List ax→Except eM (List ax)
 | v::vs,s::ss,used,done=>
  match eS prec (v.l af) (v.s af) used [] with
  | .error e=>.error e
  | .ok (MR,ps)=>
   match fC cont (v.l ay) (v.s ay) [] with
   | .error e=>.error e
   | .ok cs=>hJ prec cont vs ss MR (done++[⟨s.name,ps,cs⟩])
 | _,_,used,done=>if used.contains false then .error ⟨6,0⟩ else .ok done
def pP (b:cL):Except eM (List ax):=hJ b.e.prec b.e.cont b.vals b.e.styl (List.replicate b.e.prec.length false) []
def cL.start (title:ByteArray):cL:=⟨{ aa.zero with title:=title },fun _=>none,[]⟩
def dD (s:cO):aa×eM:=
 if dK s.title 0 60=false then(aa.zero,⟨8,0⟩)
 else if(dV s.blocks (cL.start s.title)).1.no≠0 then(aa.zero,(dV s.blocks (cL.start s.title)).1)
 else if fq.any (fun k=>decide ((dV s.blocks (cL.start s.title)).2.of k=[])) then(aa.zero,⟨6,0⟩)
 else match pP (dV s.blocks (cL.start s.title)).2 with
  | .error e=>(aa.zero,e)
  | .ok l=>({ (dV s.blocks (cL.start s.title)).2.e with styl:=l },⟨0,0⟩)
def gF (k:ByteArray) (n:Int):ao:=⟨k,[rJ n],0⟩
def jY (k:ByteArray) (n:Int):ao:=⟨k,[jG k n],0⟩
def fl (c:ai):aw:=
 ⟨ah,c.name,[jY aN c.method,gF bf c.seats,gF bS c.ranks]++(if c.method=2 then[gF az c.digits] else[])++[jY db c.ties,jY aV c.over,jY dc c.skip,⟨cF,c.cands,0⟩],0⟩
def fy (prec conts:List ByteArray) (s:ax):aw:=⟨aD,s.name,[⟨af,dL s.prec prec,0⟩,⟨ay,dL s.cont conts,0⟩],0⟩
def eW (e:aa):cO:=
 ⟨e.title,[⟨aP,⟨#[]⟩,[gF dh e.dots,gF bq e.blank,gF bb e.marked],0⟩,⟨au,⟨#[]⟩,[gF bZ e.scan,gF cf e.batch],0⟩,⟨af,⟨#[]⟩,[⟨bY,e.prec,0⟩],0⟩]
  ++e.cont.map fl++e.styl.map (fy e.prec (e.cont.map (·.name)))
  ++[⟨aO,⟨#[]⟩,[⟨bL,[⟨(iE e.risk.q).toArray⟩],0⟩,⟨cM,[e.seed],0⟩],0⟩,⟨aY,⟨#[]⟩,[gF dH e.cell],0⟩]⟩
def ij {α:Type} (f:α→α→Bool):List α→List α→Bool
 | [],[]=>true
 | x::l,y::m=>f x y&&ij f l m
 | _,_=>false
def lK (a b:aa):Bool:=
 decide (a.title=b.title)&&(decide (a.dots=b.dots)&&(decide (a.blank=b.blank)&&(decide (a.marked=b.marked)&&(decide (a.prec=b.prec)&&(ij bi a.cont b.cont&&(ij bB a.styl b.styl
  &&(decide (a.scan=b.scan)&&(decide (a.batch=b.batch)&&(decide (oI a.risk.q b.risk.flip.q=0)&&(decide (a.cell=b.cell)&&decide (a.seed=b.seed)))))))))))
def iV (e:aa):Bool:=decide ((dD (eW e)).2.no=0)&&(e.risk.valid&&lK (dD (eW e)).1 e)
def bH (l:List ByteArray) (s:ByteArray):Bool:=decide (0≤Lib.idxOfS l s)
def eM.note (f:eM) (no line:Int):eM:=if f.no=0∧no≠0 then⟨no,line⟩ else f
def oo (s:ByteArray):Bool:=decide (1≤(s.size:Int))&&(decide ((s.size:Int)≤24)&&fP s.data.toList)
def kF (l:List UInt8):Bool:=l.all digitB&&(decide (1≤l.length)&&(decide (l.length≤6)&&(decide (l.length=1)||!(l.head?==some 48))))
def dA (n:Int) (c:UInt8):Int:=10*n+(c.toNat:Int)-48
def dF (l:List UInt8):Int×Bool:=((l.take 6).foldl dA 0,kF l)
def jc (l:List UInt8):Bool:=decide (l≠[])&&(((l.head?.map gw).getD false)&&decide ((l.takeWhile iD).length=l.length))
def bj (l:List ByteArray):ByteArray:=if l.length≠1 then⟨#[]⟩ else l.getD 0 ⟨#[]⟩
def dJ (l:List ByteArray):Int:=if l.length≠1 then 7 else 0
def jj (l:List ByteArray):Int:=(dF (bj l).data.toList).1
def jA (l:List ByteArray) (low high:Int):Int:=
 if l.length≠1 then 7 else if(dF (bj l).data.toList).2=false then 5 else if jj l<low∨high<jj l then 4 else 0
def iO (l words:List ByteArray):Int:=Lib.idxOfS words (bj l)+1
def jC (l words:List ByteArray):Int:=if l.length≠1 then 7 else if Lib.idxOfS words (bj l)<0 then 2 else 0
def dW (l:List UInt8):Int×Raw:=
 if jp l=false∨((dF (ed l)).2&&(dF (dO l)).2)=false then(5,⟨false,[],[]⟩)
 else if(dF (dO l)).1=0∨1000*(dF (ed l)).1<(dF (dO l)).1∨(dF (dO l)).1<2*(dF (ed l)).1 then(4,⟨false,[],[]⟩)
 else(0,(ez false (dF (ed l)).1.toNat (dF (dO l)).1.toNat).raw)
def jK (l:List ByteArray):Int:=if l.length≠1 then 7 else(dW (bj l).data.toList).1
def kU (l:List ByteArray):Int:=if l.length≠1 then 7 else if bj l≠⟨#[]⟩∧oo (bj l)=false then 8 else 0
def eH:List ByteArray:=[⟨#[105,114,118]⟩,⟨#[109,101,101,107]⟩,⟨#[103,114,101,103,111,114,121]⟩]
def iS:List ByteArray:=[⟨#[98,97,99,107,119,97,114,100,115]⟩,⟨#[102,111,114,119,97,114,100,115]⟩,⟨#[108,111,116]⟩]
def iU:List ByteArray:=[⟨#[115,116,111,112]⟩,⟨#[115,107,105,112]⟩]
def iT:List ByteArray:=[⟨#[99,108,111,115,101]⟩,⟨#[115,116,111,112]⟩,⟨#[116,119,111]⟩]
def fE (c:ai) (f:ao):ai×Int:=
 if f.key=aN then({ c with method:=iO f.vals eH },jC f.vals eH)
 else if f.key=bf then({ c with seats:=jj f.vals },jA f.vals 1 5)
 else if f.key=bS then({ c with ranks:=jj f.vals },jA f.vals 1 7)
 else if f.key=az then({ c with digits:=jj f.vals },jA f.vals 1 6)
 else if f.key=db then({ c with ties:=iO f.vals iS },jC f.vals iS)
 else if f.key=aV then({ c with over:=iO f.vals iU },jC f.vals iU)
 else if f.key=dc then({ c with skip:=iO f.vals iT },jC f.vals iT)
 else({ c with cands:=f.vals },eO f.vals 7)
def aK (kind key:ByteArray):List UInt8:=kind.data.toList++32::key.data.toList
def dp (kind:ByteArray) (e:aa) (f:ao):aa×Int:=
 if aK kind f.key=aK aP dh then({ e with dots:=jj f.vals },jA f.vals 2 7)
 else if aK kind f.key=aK aP bq then({ e with blank:=jj f.vals },jA f.vals 1 100)
 else if aK kind f.key=aK aP bb then({ e with marked:=jj f.vals },jA f.vals 1 100)
 else if aK kind f.key=aK au bZ then({ e with scan:=jj f.vals },jA f.vals 1 6)
 else if aK kind f.key=aK au cf then({ e with batch:=jj f.vals },jA f.vals 1 16)
 else if aK kind f.key=aK af bY then({ e with prec:=f.vals },eO f.vals 12)
 else if aK kind f.key=aK aO bL then({ e with risk:=(dW (bj f.vals).data.toList).2 },jK f.vals)
 else if aK kind f.key=aK aO cM then({ e with seed:=bj f.vals },kU f.vals)
 else if aK kind f.key=aK aY dH then({ e with cell:=jj f.vals },jA f.vals 1 400)
 else(e,0)
structure fc where
 e:aa
 seen:List ByteArray
 lines:List (Int×Int)
 names:List (List ByteArray×List ByteArray)
 f:eM
def fc.note (t:fc) (no line:Int):fc:={ t with f:=t.f.note no line }
def ja (kind:ByteArray):Bool:=decide (kind=ah)||decide (kind=aD)
def j5 (t:fc) (kind nm:ByteArray):Int:=
 if aM kind=[] then 2
 else if ja kind=true∧nm=⟨#[]⟩ then 6
 else if ja kind=true∧(jc nm.data.toList=false∨24<nm.size) then 8
 else if ja kind=true∧((kind=ah∧(t.e.cont.any fun c=>decide (c.name=nm))=true)∨(kind=aD∧(t.e.styl.any fun c=>decide (c.name=nm))=true)) then 3
 else if(kind=ah∧4≤t.e.cont.length)∨(kind=aD∧6≤t.e.styl.length) then 7
 else if ja kind=false∧nm≠⟨#[]⟩ then 2
 else if ja kind=false∧bH t.seen kind=true then 3
 else 0
structure dd where
 e:aa
 f:eM
 known:List ByteArray
 c:ai
 n0:List ByteArray
 n1:List ByteArray
 l0:Int
 l1:Int
 digits:Int
 seats:Int
def ai.zero:ai:=⟨⟨#[]⟩,[],0,0,0,0,0,0,0⟩
def aW (kind:ByteArray) (x:dd) (f:ao):dd:=
 let f2:=(x.f.note (if bH (aM kind) f.key=true then 0 else 2) f.line).note (if bH x.known f.key=true then 3 else 0) f.line
 let y:={ x with f:=f2,known:=x.known++[f.key] }
 if f2.no≠0 then y
 else if kind=ah then
  { y with c:=(fE x.c f).1,f:=f2.note (fE x.c f).2 f.line,digits:=if f.key=az then f.line else x.digits,seats:=if f.key=bf then f.line else x.seats }
 else if kind=aD∧f.key=af then { y with n0:=f.vals,l0:=f.line,f:=f2.note (eO f.vals 12) f.line }
 else if kind=aD then { y with n1:=f.vals,l1:=f.line,f:=f2.note (eO f.vals 4) f.line }
 else { y with e:=(dp kind x.e f).1,f:=f2.note (dp kind x.e f).2 f.line }
def dQ (kind:ByteArray):List ao→dd→dd
 | [],x=>x
 | f::l,x=>if x.f.no≠0 then x else dQ kind l (aW kind x f)
def gd (known:List ByteArray) (method line:Int):List ByteArray→eM→eM
 | [],f=>f
 | k::l,f=>if f.no≠0 then f else gd known method line l (f.note (if bH known k=true∨(k=az∧method≠2) then 0 else 6) line)
def tQ (t:fc) (x:aw) (y:dd):fc:=
 let f:=gd y.known y.c.method x.line (aM x.kind) y.f
 let s:={ t with e:=y.e,f:=f,seen:=t.seen++[x.kind] }
 if f.no≠0 then s
 else if x.kind=ah then
  { s with e:={ y.e with cont:=y.e.cont++[{ y.c with name:=x.name }] },f:=(f.note (if bH y.known az=true∧y.c.method≠2 then 5 else 0) y.digits).note (if y.c.method=1∧1<y.c.seats then 4 else 0) y.seats }
 else if x.kind=aD then
  { s with e:={ y.e with styl:=y.e.styl++[⟨x.name,[],[]⟩] },names:=t.names++[(y.n0,y.n1)],lines:=t.lines++[(y.l0,y.l1)] }
 else if x.kind=aP∧y.e.marked<y.e.blank then s.note 4 x.line
 else s
def dd.start (t:fc) (x:aw):dd:=⟨t.e,t.f.note (j5 t x.kind x.name) x.line,[],ai.zero,[],[],0,0,0,0⟩
def gm (t:fc) (x:aw):fc:=tQ t x (dQ x.kind x.fields (dd.start t x))
def df:List aw→fc→fc
 | [],t=>t
 | x::l,t=>if t.f.no≠0 then t else df l (gm t x)
def qx (names:List ByteArray) (line:Int):List ByteArray→List Int→Except eM (List Int)
 | [],fJ=>.ok fJ
 | s::l,fJ=>if Lib.idxOfS names s<0 then .error ⟨2,line⟩ else qx names line l (fJ++[Lib.idxOfS names s])
def jE (prec conts:List ByteArray):List (List ByteArray×List ByteArray)→List (Int×Int)→List ax→List Bool→List ax→Except eM (List ax)
 | v::vs,ln::lns,s::ss,used,done=>
  match eS prec ln.1 v.1 used [] with
  | .error e=>.error e
  | .ok (MR,ps)=>
   match qx conts ln.2 v.2 [] with
   | .error e=>.error e
   | .ok cs=>jE prec conts vs lns ss MR (done++[⟨s.name,ps,cs⟩])
 | _,_,_,used,done=>if used.contains false then .error ⟨6,0⟩ else .ok done
def lj (t:fc):Except eM (List ax):=jE t.e.prec (t.e.cont.map (·.name)) t.names t.lines t.e.styl (List.replicate t.e.prec.length false) []
def fc.start (title:ByteArray):fc:=⟨{ aa.zero with title:=title },[],[],[],(⟨0,0⟩:eM).note (if 60<title.size∨fP title.data.toList=false then 8 else 0) 0⟩
def jb:List ByteArray:=[aP,au,af,ah,aD,aO,aY]
def cK (s:cO):fc:=
 let t:=df s.blocks (fc.start s.title)
 { t with f:=jb.foldl (fun f k=>f.note (if bH t.seen k=true then 0 else 6) 0) t.f }
def gK (s:cO):aa×eM:=
 if(cK s).f.no≠0 then(aa.zero,(cK s).f)
 else match lj (cK s) with
  | .error e=>(aa.zero,e)
  | .ok l=>({ (cK s).e with styl:=l },⟨0,0⟩)
def Ew (n:Int):ByteArray:=if n<0∨999999<n then⟨#[]⟩ else⟨(bI n.toNat).toArray⟩
def pJ (n:Int) (l:List ByteArray):ByteArray:=if n<1∨(l.length:Int)<n then⟨#[]⟩ else l.getD (n.toNat-1) ⟨#[]⟩
def et (k:ByteArray) (n:Int):ao:=⟨k,[Ew n],0⟩
def gg (k:ByteArray) (n:Int) (l:List ByteArray):ao:=⟨k,[pJ n l],0⟩
def eg (c:ai):aw:=
 ⟨ah,c.name,[gg aN c.method eH,et bf c.seats,et bS c.ranks]++(if c.method=2 then[et az c.digits] else[])++[gg db c.ties iS,gg aV c.over iU,gg dc c.skip iT,⟨cF,c.cands,0⟩],0⟩
def eT (e:aa):cO:=
 ⟨e.title,[⟨aP,⟨#[]⟩,[et dh e.dots,et bq e.blank,et bb e.marked],0⟩,⟨au,⟨#[]⟩,[et bZ e.scan,et cf e.batch],0⟩,⟨af,⟨#[]⟩,[⟨bY,e.prec,0⟩],0⟩]
  ++e.cont.map eg++e.styl.map (fy e.prec (e.cont.map (·.name)))
  ++[⟨aO,⟨#[]⟩,[⟨bL,[⟨(iE e.risk.q).toArray⟩],0⟩,⟨cM,[e.seed],0⟩],0⟩,⟨aY,⟨#[]⟩,[et dH e.cell],0⟩]⟩
def lF (e:aa):Bool:=
 decide (e.prec.length≤12)&&(decide (e.cont.length≤4)&&(decide (e.styl.length≤6)&&(decide (e.risk.num.length≤1)&&(decide (e.risk.den.length≤1)
  &&(e.cont.all (fun c=>decide (c.cands.length≤7))&&e.styl.all (fun s=>decide (s.prec.length≤12)&&decide (s.cont.length≤4)))))))
def Va (a b:aa):Bool:=
 decide (a.title=b.title)&&(decide (a.dots=b.dots)&&(decide (a.blank=b.blank)&&(decide (a.marked=b.marked)&&(decide (a.scan=b.scan)&&(decide (a.batch=b.batch)&&(decide (a.cell=b.cell)&&(decide (a.seed=b.seed)
  &&(decide (a.risk.neg=b.risk.neg)&&(decide (a.risk.num=b.risk.num)&&(decide (a.risk.den=b.risk.den)&&(decide (a.prec=b.prec)&&(ij bi a.cont b.cont&&ij bB a.styl b.styl))))))))))))
def jT (e:aa):Bool:=lF e&&(decide ((gK (eT e)).2.no=0)&&Va (gK (eT e)).1 e)
def eK:aa:=⟨⟨#[]⟩,2,20,50,[⟨#[97]⟩,⟨#[98]⟩],[⟨⟨#[109]⟩,[⟨#[120]⟩,⟨#[121]⟩,⟨#[122]⟩],1,1,3,0,3,1,1⟩],[⟨⟨#[115]⟩,[0,1],[0]⟩],1,4,⟨false,[1#32],[20#32]⟩,2,⟨#[]⟩⟩
theorem t1:(iE eK.risk.q)=[49,47,50,48]:=by kernel_rfl
theorem t2:rJ 20=⟨#[50,48]⟩:=by kernel_rfl
theorem t3:iV eK=true:=by kernel_rfl
theorem ni {n:Nat}:∀(os:List Obj) (w:World),n≤w.heap.size→Below n w (os.foldl World.alloc w)
 | [],w,_=>Below.refl _ _
 | o::os,w,h=>((Below.refl _ _).alloc h _).trans (ni os (w.alloc o) (by simp;omega))
theorem qG:∀(os:List Obj) (w:World) (i:Nat) {t:TypeId} {cs:Array Value},os[i]?=some (.cells cs t)→dE (os.foldl World.alloc w) (w.heap.size+i) t cs
 | [],_,_,_,_,h=>by simp at h
 | o::os,w,0,t,cs,h=>by
  obtain rfl:o=.cells cs t:=by simpa using h
  exact(dE.new w t cs).keep (ni os _ (Nat.le_refl _))
 | o::os,w,i+1,t,cs,h=>by
  have:=qG os (w.alloc o) i (by simpa using h);have e:(w.alloc o).heap.size+i=w.heap.size+(i+1):=by simp;omega
  rwa [e] at this
def ve (g:Nat) (T0 T1 T2 T3 T4 T5 T6 T7 T8:TypeId):List Obj:=
 [.cells #[.string ⟨#[]⟩,.int .i64 2,.int .i64 20,.int .i64 50,.slice (some ⟨g+1,0,none⟩) 2 2,.slice (some ⟨g+3,0,none⟩) 1 1,.slice (some ⟨g+6,0,none⟩) 1 1,.int .i64 1,.int .i64 4,.bool false,.slice (some ⟨g+7,0,none⟩) 1 1,.slice (some ⟨g+8,0,none⟩) 1 1,.int .i64 2,.string ⟨#[]⟩] T0, .cells #[.string ⟨#[97]⟩,.string ⟨#[98]⟩] T1,.cells #[.string ⟨#[120]⟩,.string ⟨#[121]⟩,.string ⟨#[122]⟩] T2, .cells #[.string ⟨#[109]⟩,.slice (some ⟨g+2,0,none⟩) 3 3,.int .i64 1,.int .i64 1,.int .i64 3,.int .i64 0,.int .i64 3,.int .i64 1,.int .i64 1] T3, .cells #[.int .i64 0,.int .i64 1] T4,.cells #[.int .i64 0] T5,.cells #[.string ⟨#[115]⟩,.slice (some ⟨g+4,0,none⟩) 2 2,.slice (some ⟨g+5,0,none⟩) 1 1] T6,.cells #[.int .u32 1] T7,.cells #[.int .u32 20] T8]
theorem S6 {w W:World} {T0 T1 T2 T3 T4 T5 T6 T7 T8:TypeId} (hW:(ve w.heap.size T0 T1 T2 T3 T4 T5 T6 T7 T8).foldl World.alloc w=W) : aG.rep W (cW w W) [.string ⟨#[]⟩,.int .i64 2,.int .i64 20,.int .i64 50,.slice (some ⟨w.heap.size+1,0,none⟩) 2 2,.slice (some ⟨w.heap.size+3,0,none⟩) 1 1,.slice (some ⟨w.heap.size+6,0,none⟩) 1 1,.int .i64 1,.int .i64 4,.bool false,.slice (some ⟨w.heap.size+7,0,none⟩) 1 1,.slice (some ⟨w.heap.size+8,0,none⟩) 1 1,.int .i64 2,.string ⟨#[]⟩] eK:=by
 have hb:∀(i:Nat) {t:TypeId} {cs:Array Value},(ve w.heap.size T0 T1 T2 T3 T4 T5 T6 T7 T8)[i]?=some (.cells cs t)→dE W (w.heap.size+i) t cs:=fun i t cs h=>hW▸qG _ w i h;have hf:∀{g:Nat} {t:TypeId} {cs:Array Value},w.heap.size≤g→dE W g t cs→cW w W g:=fun h hk=>⟨h,hk.lt⟩;have b1:=hb 1 rfl;have b2:=hb 2 rfl;have b3:=hb 3 rfl;have b4:=hb 4 rfl;have b5:=hb 5 rfl;have b6:=hb 6 rfl;have b7:=hb 7 rfl;have b8:=hb 8 rfl;have m:∀k:Nat,k≤3→k≤maxLen:=fun k h=>by unfold maxLen;omega
 have r1:RS W (cW w W) (some ⟨w.heap.size+1,0,none⟩) 2 2 [(⟨#[97]⟩:ByteArray),⟨#[98]⟩]:=RS.of_blk b1 (Flat.cons (ds:=[_]) rfl (Flat.cons (ds:=[_]) rfl Flat.nil)) rfl (Nat.le_refl _) (m 2 (by omega)) (hf (by omega) b1);have r2:RS W (cW w W) (some ⟨w.heap.size+2,0,none⟩) 3 3 [(⟨#[120]⟩:ByteArray),⟨#[121]⟩,⟨#[122]⟩]:=RS.of_blk b2 (Flat.cons (ds:=[_]) rfl (Flat.cons (ds:=[_]) rfl (Flat.cons (ds:=[_]) rfl Flat.nil))) rfl (Nat.le_refl _) (m 3 (by omega)) (hf (by omega) b2);have r4:RS W (cW w W) (some ⟨w.heap.size+4,0,none⟩) 2 2 [(0:Int),1]:=RS.of_blk b4 (Flat.cons (ds:=[_]) rfl (Flat.cons (ds:=[_]) rfl Flat.nil)) rfl (Nat.le_refl _) (m 2 (by omega)) (hf (by omega) b4);have r5:RS W (cW w W) (some ⟨w.heap.size+5,0,none⟩) 1 1 [(0:Int)]:=RS.of_blk b5 (Flat.cons (ds:=[_]) rfl Flat.nil) rfl (Nat.le_refl _) (m 1 (by omega)) (hf (by omega) b5);have r7:RS W (cW w W) (some ⟨w.heap.size+7,0,none⟩) 1 1 [1#32]:=RS.of_blk b7 (Flat.cons (ds:=[_]) rfl Flat.nil) rfl (Nat.le_refl _) (m 1 (by omega)) (hf (by omega) b7);have r8:RS W (cW w W) (some ⟨w.heap.size+8,0,none⟩) 1 1 [20#32]:=RS.of_blk b8 (Flat.cons (ds:=[_]) rfl Flat.nil) rfl (Nat.le_refl _) (m 1 (by omega)) (hf (by omega) b8);have r3:RS W (cW w W) (some ⟨w.heap.size+3,0,none⟩) 1 1 eK.cont:=RS.of_blk b3 (Flat.cons (ds:=[_,_,_,_,_,_,_,_,_]) ⟨_,_,_,rfl,r2⟩ Flat.nil) rfl (Nat.le_refl _) (m 1 (by omega)) (hf (by omega) b3);have r6:RS W (cW w W) (some ⟨w.heap.size+6,0,none⟩) 1 1 eK.styl:=RS.of_blk b6 (Flat.cons (ds:=[_,_,_]) ⟨_,_,_,_,_,_,rfl,r4,r5⟩ Flat.nil) rfl (Nat.le_refl _) (m 1 (by omega)) (hf (by omega) b6);exact⟨_,_,_,_,_,_,_,_,_,_,_,_,_,_,_,rfl,r1,r3,r6,r7,r8⟩
theorem Kl {w:World}:Calls Tryz.prog 27 #[] w (iL w eK):=by
 go_enter Tryz.func27,Tryz.ntmps27;go_wp2_with fail;refine bodyPost_ret (results_cell_row rfl _ _ w.heap.size _ _ (0,0) _ rfl (qG (ve w.heap.size _ _ _ _ _ _ _ _ _) w 0 rfl) Tryz.underlying30 rfl (by kernel_rfl)) rfl ?_;exact⟨_,rfl,⟨_,rfl,S6 rfl⟩,ni (ve w.heap.size _ _ _ _ _ _ _ _ _) w (Nat.le_refl _)⟩
end Go.Proofs.YtjlhbfbdcfajfaaGreatDoor
