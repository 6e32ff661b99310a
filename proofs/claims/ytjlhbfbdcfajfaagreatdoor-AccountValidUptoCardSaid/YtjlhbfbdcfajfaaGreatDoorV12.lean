/- Str Elec RefD Smp1 Smp2 -/
import Derived.Test.YtjlhbfbdcfajfaaGreatDoorV01
import Derived.Laws.Rows
import Derived.Test.YtjlhbfbdcfajfaaGreatDoorProg
set_option maxHeartbeats 8000000
set_option maxRecDepth 100000
namespace Go.Proofs.YtjlhbfbdcfajfaaGreatDoor
open Go.RowKit
def SV {α:Type} [aK α] (w:World) (S:Nat→Prop) (v:Value) (x:α):Prop:=∃cs:List Value,v=.agg cs.toArray∧aK.rep w S cs x
section
variable {α:Type} [aK α] {w w':World} {S S':Nat→Prop} {v:Value} {x:α}
theorem SV.keep (h:SV w S v x) (hS:∀b,S b→S' b) (hk:aA S w w'):SV w' S' v x:=by
 obtain⟨cs,e,hr⟩:=h;exact⟨cs,e,aK.keep hr hS hk⟩
theorem SV.below {B:Nat} (h:SV w S v x) (hb:Below B w w') (hS:∀b,S b→b<B):SV w' S v x:=h.keep (fun _ h=>h) ((aA.of_below hb).sub hS)
theorem SV.drew (h:SV w S v x):SV w.drew S v x:=h.keep (fun _ h=>h) (fun _ _=>rfl)
end
def iA {α:Type} [aK α] (w:World) (x:α) (e:Ending) (w':World):Prop:=∃v,e=.returned v∧SV w' (cQ w w') v x∧Below w.heap.size w w'
theorem j4 {B:Nat} {a w:World} {g:Nat} (h:Below B a w) (hg:B≤g):∀(l:List Value) (i:Nat),Below B a (setAll w g i l):=by
 intro l;induction l generalizing w with
 | nil=>intro i;exact h
 | cons v l ih=>intro i;exact ih (h.setCell (by simpa using hg) v) (i+1)
theorem aA.setAll {S:Nat→Prop} {w w1:World} {g:Nat} (h:aA S w w1) (hg:¬S g):∀(l:List Value) (i:Nat),aA S w (setAll w1 g i l):=by
 intro l;induction l generalizing w1 with
 | nil=>intro i;exact h
 | cons v l ih=>intro i;exact ih (h.setCell (p:=⟨g,i,none⟩) hg v) (i+1)
theorem kH {g:Nat}:∀(l:List Value) (i:Nat) (w:World),(setAll w g i l).heap.size=w.heap.size:=by
 intro l;induction l with
 | nil=>intro i w;rfl
 | cons v l ih=>intro i w;rw[Go.Proofs.YtjlhbfbdcfajfaaGreatDoor.setAll,ih];simp
theorem Own.fresh {α:Type} [aK α] {w w':World} {base:Nat} {e:TypeId} {A:Option Addr} {n c:Nat} {xs:List α} (h:Own w' (fun _=>False) base e (.slice A n c) xs) (hb:w.heap.size≤base):RS w' (cQ w w') A n c xs:=
 h.rs (fun _ h=>h.elim) (fun _ h1 h2=>⟨Nat.le_trans hb h1,h2⟩)
theorem dy.facts3 {w:World} {g:Nat} {t:TypeId} {a b c:Value} (h:dy w g t #[a,b,c]):w.cell? ⟨g,0,none⟩=some a∧w.cell? ⟨g,1,none⟩=some b∧w.cell? ⟨g,2,none⟩=some c∧w.frozen? ⟨g,0,none⟩=false∧w.frozen? ⟨g,1,none⟩=false∧w.frozen? ⟨g,2,none⟩=false:=
 ⟨h.cell 0,h.cell 1,h.cell 2,h.frozen 0,h.frozen 1,h.frozen 2⟩
theorem gp {α:Type} [aK α] {P:Program} {fn:Func} {p:Tmp} {ty t:TypeId} {d:TypeDesc} {w w2:World} {tmps:Array Value} {defers:List Deferred} {g:Nat} {xK:Array Value} {cs:List Value} {S:Nat→Prop} {x:α} {R:Ending→World→Prop} (h:fn.results=#[.cell p ty]) (hp:tmps.getD p undef=.pointer (some ⟨g,0,none⟩)) (hg:w.heap.size≤g) (hk:dy w2 g t xK) (hl:xK.size=cs.length) (hu:P.underlying ty=some d) (hd:(match d with|.struct _|.array _ _=>true|_=>false)=true) (hi:(P.info? ty).map (·.size)=some cs.length) (hr:aK.rep w2 S cs x) (hS:∀b,S b→cQ w w2 b∧b≠g) (hb:Below w.heap.size w w2) (hdf:defers=[]) (hR:iA w x (.returned (.agg cs.toArray)) (setAll w2 g 0 cs)→R (.returned (.agg cs.toArray)) (setAll w2 g 0 cs)) : bodyPost P fn R Exit.ret { tmps:=tmps,defers:=defers } (setAll w2 g 0 cs):=by
 refine bodyPost_ret (results_cell_row h _ _ g t cs.toArray (0,0) d hp (hk.setAll cs hl) hu hd (by simpa using hi)) hdf ?_;refine hR ⟨_,rfl,⟨cs,rfl,aK.keep hr (fun b hb=>?_) ((aA.refl _ _).setAll (fun h=>(hS g h).2 rfl) cs 0)⟩,j4 hb hg cs 0⟩;have:=(hS b hb).1;exact⟨this.1,by rw[kH];exact this.2⟩
theorem tC {a b c:World} (h:a.heap.size≤b.heap.size):∀g,cQ b c g→cQ a c g:=fun _ hg=>⟨Nat.le_trans h hg.1,hg.2⟩
theorem wC {a b c:World} (h:b.heap.size≤c.heap.size):∀g,cQ a b g→cQ a c g:=fun _ hg=>⟨hg.1,Nat.lt_of_lt_of_le hg.2 h⟩
theorem iA.undrew {α:Type} [aK α] {w:World} {x:α} {e:Ending} {w':World} (h:iA w.drew x e w'):iA w x e w':=by
 obtain⟨v,he,hs,hb⟩:=h;exact⟨v,he,hs,FT hb⟩
theorem wS {α:Type} [aK α] {P:Program} {f:FuncId} {args:Array Value} {w:World} {x:α} (h:Calls P f args w.drew (iA w.drew x)):Calls P f args w.drew (iA w x):=h.mono fun _ _ h=>h.undrew
theorem tF {α:Type} [aK α] {P:Program} {f:FuncId} {args:Array Value} {w:World} {x:α} (h:Calls P f args w.drew.drew (iA w.drew.drew x)):Calls P f args w.drew.drew (iA w x):=h.mono fun _ _ h=>h.undrew.undrew
theorem dy.farAll {w:World} {g g':Nat} {t:TypeId} {cs:Array Value} (h:dy w g t cs) (hg:g≠g'):∀(l:List Value) (i:Nat),dy (Go.Proofs.YtjlhbfbdcfajfaaGreatDoor.setAll w g' i l) g t cs:=by
 intro l;induction l generalizing w with
 | nil=>intro i;exact h
 | cons v l ih=>intro i;exact ih (h.far (p:=⟨g',i,none⟩) hg v) (i+1)
def Up (W w':World):Prop:=Below W.heap.size W w'
theorem Up.out {W w':World} (h:Up W w'):Below W.heap.size W w':=h
theorem Up.start (W:World):Up W W.drew:=(Below.refl _ _).drew
theorem Up.more {W w1 w2:World} (h:Up W w1) (k:Below w1.heap.size w1 w2):Up W w2:=ak h k
structure aa where
 title:ByteArray
 dots:Int
 blank:Int
 marked:Int
 prec:List ByteArray
 cont:List ah
 styl:List aw
 scan:Int
 batch:Int
 risk:Raw
 cell:Int
 seed:ByteArray
def aa.zero:aa:=⟨⟨#[]⟩,0,0,0,[],[],[],0,0,⟨false,[],[]⟩,0,⟨#[]⟩⟩
def Kg (e:aa) (vP vC vS vN vD:Value):List Value:=
 [.string e.title,.int .i64 e.dots,.int .i64 e.blank,.int .i64 e.marked,vP,vC,vS,.int .i64 e.scan,.int .i64 e.batch,.bool e.risk.neg,vN,vD,.int .i64 e.cell,.string e.seed]
instance:aK aa where
 sz:=14
 rep w S cs x:=∃A n c A2 n2 c2 A3 n3 c3 A4 n4 c4 A5 n5 c5,cs=Kg x (.slice A n c) (.slice A2 n2 c2) (.slice A3 n3 c3) (.slice A4 n4 c4) (.slice A5 n5 c5)
  ∧RS w S A n c x.prec∧RS w S A2 n2 c2 x.cont∧RS w S A3 n3 c3 x.styl∧RS w S A4 n4 c4 x.risk.num∧RS w S A5 n5 c5 x.risk.den
 len h:=by obtain⟨A,n,c,A2,n2,c2,A3,n3,c3,A4,n4,c4,A5,n5,c5,rfl,_⟩:=h;rfl
 keep h hS hk:=by
  obtain⟨A,n,c,A2,n2,c2,A3,n3,c3,A4,n4,c4,A5,n5,c5,rfl,h1,h2,h3,h4,h5⟩:=h;exact⟨A,n,c,A2,n2,c2,A3,n3,c3,A4,n4,c4,A5,n5,c5,rfl,h1.keep hS hk,h2.keep hS hk,h3.keep hS hk,h4.keep hS hk,h5.keep hS hk⟩
structure av where
 kind:ByteArray
 name:ByteArray
 fields:List ao
 line:Int
instance:aK av where
 sz:=4
 rep w S cs x:=∃A n c,cs=[.string x.kind,.string x.name,.slice A n c,.int .i64 x.line]∧RS w S A n c x.fields
 len h:=by obtain⟨A,n,c,rfl,_⟩:=h;rfl
 keep h hS hk:=by
  obtain⟨A,n,c,rfl,h1⟩:=h;exact⟨A,n,c,rfl,h1.keep hS hk⟩
structure cJ where
 title:ByteArray
 blocks:List av
instance:aK cJ where
 sz:=2
 rep w S cs x:=∃A n c,cs=[.string x.title,.slice A n c]∧RS w S A n c x.blocks
 len h:=by obtain⟨A,n,c,rfl,_⟩:=h;rfl
 keep h hS hk:=by
  obtain⟨A,n,c,rfl,h1⟩:=h;exact⟨A,n,c,rfl,h1.keep hS hk⟩
structure cG where
 e:aa
 names:ByteArray→Option (List ByteArray)
 vals:List aC
def cG.of (b:cG) (k:ByteArray):List ByteArray:=(b.names k).getD []
def au:ByteArray:=⟨#[115,99,97,110,110,101,114,115]⟩
def ae:ByteArray:=⟨#[112,114,101,99,105,110,99,116,115]⟩
def aD:ByteArray:=⟨#[115,116,121,108,101]⟩
def aO:ByteArray:=⟨#[97,117,100,105,116]⟩
def aW:ByteArray:=⟨#[112,114,105,118,97,99,121]⟩
def cZ:ByteArray:=⟨#[100,111,116,115]⟩
def bV:ByteArray:=⟨#[99,111,117,110,116]⟩
def bW:ByteArray:=⟨#[98,97,116,99,104]⟩
def bU:ByteArray:=⟨#[110,97,109,101,115]⟩
def cz:ByteArray:=⟨#[99,97,110,100,105,100,97,116,101,115]⟩
def bP:ByteArray:=⟨#[114,97,110,107,115]⟩
def cV:ByteArray:=⟨#[116,105,101,115]⟩
def aU:ByteArray:=⟨#[111,118,101,114,118,111,116,101]⟩
def cW:ByteArray:=⟨#[115,107,105,112]⟩
def dB:ByteArray:=⟨#[99,101,108,108]⟩
def ay:ByteArray:=⟨#[99,111,110,116,101,115,116,115]⟩
def aC.s (v:aC) (k:ByteArray):List ByteArray:=(v.lst k).getD []
def cU (nm:ByteArray) (v:aC):ah:=⟨nm,v.s cz,v.n aM,v.n bc,v.n bP,v.n az,v.n cV,v.n aU,v.n cW⟩
def bE (kind nm:ByteArray) (v:aC) (b:cG):cG:=
 if kind=aP then { b with e:={ b.e with dots:=v.n cZ,blank:=v.n bp,marked:=v.n aZ } }
 else if kind=au then { b with e:={ b.e with scan:=v.n bV,batch:=v.n bW } }
 else if kind=ae then { b with e:={ b.e with prec:=v.s bU } }
 else if kind=af then { b with e:={ b.e with cont:=b.e.cont++[cU nm v] } }
 else if kind=aD then { b with e:={ b.e with styl:=b.e.styl++[⟨nm,[],[]⟩] },vals:=b.vals++[v] }
 else if kind=aO then { b with e:={ b.e with risk:=v.risk,seed:=v.seed } }
 else if kind=aW then { b with e:={ b.e with cell:=v.n dB } }
 else b
def eY (kind:ByteArray):List ao→aC→eB×aC
 | [],v=>(⟨0,0⟩,v)
 | f::l,v=>if(aY kind f v).1≠0 then(⟨(aY kind f v).1,f.line⟩,(aY kind f v).2) else eY kind l (aY kind f v).2
def cG.named (b:cG) (kind nm:ByteArray):cG:={ b with names:=setF b.names kind (b.of kind++[nm]) }
def ig (x:av) (b:cG):eB×cG:=
 if gA x.kind x.name (b.of x.kind)≠0 then(⟨gA x.kind x.name (b.of x.kind),x.line⟩,b)
 else if(eY x.kind x.fields aC.zero).1.no≠0 then((eY x.kind x.fields aC.zero).1,b.named x.kind x.name)
 else if(eH x.kind x.line (eY x.kind x.fields aC.zero).2).no≠0 then(eH x.kind x.line (eY x.kind x.fields aC.zero).2,b.named x.kind x.name)
 else(⟨0,0⟩,bE x.kind x.name (eY x.kind x.fields aC.zero).2 (b.named x.kind x.name))
def dO:List av→cG→eB×cG
 | [],b=>(⟨0,0⟩,b)
 | x::l,b=>if(ig x b).1.no≠0 then ig x b else dO l (ig x b).2
def eI (prec:List ByteArray) (line:Int):List ByteArray→List Bool→List Int→Except eB (List Bool×List Int)
 | [],used,fw=>.ok (used,fw)
 | s::l,used,fw=>
  if Lib.idxOfS prec s<0 then .error ⟨2,line⟩
  else if used.getD (Lib.idxOfS prec s).toNat false=true then .error ⟨3,line⟩
  else eI prec line l (used.set (Lib.idxOfS prec s).toNat true) (fw++[Lib.idxOfS prec s])
def cA (nm:ByteArray):List ah→Nat→Int
 | [],_=>-1
 | c::l,i=>if c.name=nm then(i:Int) else cA nm l (i+1)
def fo (cont:List ah) (line:Int):List ByteArray→List Int→Except eB (List Int)
 | [],fw=>.ok fw
 | s::l,fw=>if cA s cont 0<0 then .error ⟨2,line⟩ else fo cont line l (fw++[cA s cont 0])
def gQ (prec:List ByteArray) (cont:List ah):List aC→List aw→List Bool→List aw→Except eB (List aw)
 | v::vs,s::ss,used,done=>
  match eI prec (v.l ae) (v.s ae) used [] with
  | .error e=>.error e
  | .ok (Lv,ps)=>
   match fo cont (v.l ay) (v.s ay) [] with
   | .error e=>.error e
   | .ok cs=>gQ prec cont vs ss Lv (done++[⟨s.name,ps,cs⟩])
 | _,_,used,done=>if used.contains false then .error ⟨6,0⟩ else .ok done
def o9 (b:cG):Except eB (List aw):=gQ b.e.prec b.e.cont b.vals b.e.styl (List.replicate b.e.prec.length false) []
def cG.start (title:ByteArray):cG:=⟨{ aa.zero with title:=title },fun _=>none,[]⟩
def dw (s:cJ):aa×eB:=
 if dE s.title 0 60=false then(aa.zero,⟨8,0⟩)
 else if(dO s.blocks (cG.start s.title)).1.no≠0 then(aa.zero,(dO s.blocks (cG.start s.title)).1)
 else if fa.any (fun k=>decide ((dO s.blocks (cG.start s.title)).2.of k=[])) then(aa.zero,⟨6,0⟩)
 else match o9 (dO s.blocks (cG.start s.title)).2 with
  | .error e=>(aa.zero,e)
  | .ok l=>({ (dO s.blocks (cG.start s.title)).2.e with styl:=l },⟨0,0⟩)
def gw (k:ByteArray) (n:Int):ao:=⟨k,[qL n],0⟩
def jK (k:ByteArray) (n:Int):ao:=⟨k,[jt k n],0⟩
def eW (c:ah):av:=
 ⟨af,c.name,[jK aM c.method,gw bc c.seats,gw bP c.ranks]++(if c.method=2 then[gw az c.digits] else[])++[jK cV c.ties,jK aU c.over,jK cW c.skip,⟨cz,c.cands,0⟩],0⟩
def fk (prec conts:List ByteArray) (s:aw):av:=⟨aD,s.name,[⟨ae,dF s.prec prec,0⟩,⟨ay,dF s.cont conts,0⟩],0⟩
def eL (e:aa):cJ:=
 ⟨e.title,[⟨aP,⟨#[]⟩,[gw cZ e.dots,gw bp e.blank,gw aZ e.marked],0⟩,⟨au,⟨#[]⟩,[gw bV e.scan,gw bW e.batch],0⟩,⟨ae,⟨#[]⟩,[⟨bU,e.prec,0⟩],0⟩]
  ++e.cont.map eW++e.styl.map (fk e.prec (e.cont.map (·.name)))
  ++[⟨aO,⟨#[]⟩,[⟨bJ,[⟨(ik e.risk.q).toArray⟩],0⟩,⟨cH,[e.seed],0⟩],0⟩,⟨aW,⟨#[]⟩,[gw dB e.cell],0⟩]⟩
def gW {α:Type} (f:α→α→Bool):List α→List α→Bool
 | [],[]=>true
 | x::l,y::m=>f x y&&gW f l m
 | _,_=>false
def lv (a b:aa):Bool:=
 decide (a.title=b.title)&&(decide (a.dots=b.dots)&&(decide (a.blank=b.blank)&&(decide (a.marked=b.marked)&&(decide (a.prec=b.prec)&&(gW bh a.cont b.cont&&(gW bA a.styl b.styl
  &&(decide (a.scan=b.scan)&&(decide (a.batch=b.batch)&&(decide (oe a.risk.q b.risk.flip.q=0)&&(decide (a.cell=b.cell)&&decide (a.seed=b.seed)))))))))))
def jf (e:aa):Bool:=decide ((dw (eL e)).2.no=0)&&(e.risk.valid&&lv (dw (eL e)).1 e)
def bF (l:List ByteArray) (s:ByteArray):Bool:=decide (0≤Lib.idxOfS l s)
def eB.note (f:eB) (no line:Int):eB:=if f.no=0∧no≠0 then⟨no,line⟩ else f
def nS (s:ByteArray):Bool:=decide (1≤(s.size:Int))&&(decide ((s.size:Int)≤24)&&fE s.data.toList)
def kq (l:List UInt8):Bool:=l.all digitB&&(decide (1≤l.length)&&(decide (l.length≤6)&&(decide (l.length=1)||!(l.head?==some 48))))
def dn (n:Int) (c:UInt8):Int:=10*n+(c.toNat:Int)-48
def dz (l:List UInt8):Int×Bool:=((l.take 6).foldl dn 0,kq l)
def iS (l:List UInt8):Bool:=decide (l≠[])&&(((l.head?.map gh).getD false)&&decide ((l.takeWhile ij).length=l.length))
def bi (l:List ByteArray):ByteArray:=if l.length≠1 then⟨#[]⟩ else l.getD 0 ⟨#[]⟩
def dD (l:List ByteArray):Int:=if l.length≠1 then 7 else 0
def i6 (l:List ByteArray):Int:=(dz (bi l).data.toList).1
def jo (l:List ByteArray) (low high:Int):Int:=
 if l.length≠1 then 7 else if(dz (bi l).data.toList).2=false then 5 else if i6 l<low∨high<i6 l then 4 else 0
def iD (l words:List ByteArray):Int:=Lib.idxOfS words (bi l)+1
def jp (l words:List ByteArray):Int:=if l.length≠1 then 7 else if Lib.idxOfS words (bi l)<0 then 2 else 0
def dP (l:List UInt8):Int×Raw:=
 if jc l=false∨((dz (dU l)).2&&(dz (dH l)).2)=false then(5,⟨false,[],[]⟩)
 else if(dz (dH l)).1=0∨1000*(dz (dU l)).1<(dz (dH l)).1∨(dz (dH l)).1<2*(dz (dU l)).1 then(4,⟨false,[],[]⟩)
 else(0,(ek false (dz (dU l)).1.toNat (dz (dH l)).1.toNat).raw)
def jy (l:List ByteArray):Int:=if l.length≠1 then 7 else(dP (bi l).data.toList).1
def kI (l:List ByteArray):Int:=if l.length≠1 then 7 else if bi l≠⟨#[]⟩∧nS (bi l)=false then 8 else 0
def ew:List ByteArray:=[⟨#[105,114,118]⟩,⟨#[109,101,101,107]⟩,⟨#[103,114,101,103,111,114,121]⟩]
def iH:List ByteArray:=[⟨#[98,97,99,107,119,97,114,100,115]⟩,⟨#[102,111,114,119,97,114,100,115]⟩,⟨#[108,111,116]⟩]
def iJ:List ByteArray:=[⟨#[115,116,111,112]⟩,⟨#[115,107,105,112]⟩]
def iI:List ByteArray:=[⟨#[99,108,111,115,101]⟩,⟨#[115,116,111,112]⟩,⟨#[116,119,111]⟩]
def fp (c:ah) (f:ao):ah×Int:=
 if f.key=aM then({ c with method:=iD f.vals ew },jp f.vals ew)
 else if f.key=bc then({ c with seats:=i6 f.vals },jo f.vals 1 5)
 else if f.key=bP then({ c with ranks:=i6 f.vals },jo f.vals 1 7)
 else if f.key=az then({ c with digits:=i6 f.vals },jo f.vals 1 6)
 else if f.key=cV then({ c with ties:=iD f.vals iH },jp f.vals iH)
 else if f.key=aU then({ c with over:=iD f.vals iJ },jp f.vals iJ)
 else if f.key=cW then({ c with skip:=iD f.vals iI },jp f.vals iI)
 else({ c with cands:=f.vals },eD f.vals 7)
def aH (kind key:ByteArray):List UInt8:=kind.data.toList++32::key.data.toList
def df (kind:ByteArray) (e:aa) (f:ao):aa×Int:=
 if aH kind f.key=aH aP cZ then({ e with dots:=i6 f.vals },jo f.vals 2 7)
 else if aH kind f.key=aH aP bp then({ e with blank:=i6 f.vals },jo f.vals 1 100)
 else if aH kind f.key=aH aP aZ then({ e with marked:=i6 f.vals },jo f.vals 1 100)
 else if aH kind f.key=aH au bV then({ e with scan:=i6 f.vals },jo f.vals 1 6)
 else if aH kind f.key=aH au bW then({ e with batch:=i6 f.vals },jo f.vals 1 16)
 else if aH kind f.key=aH ae bU then({ e with prec:=f.vals },eD f.vals 12)
 else if aH kind f.key=aH aO bJ then({ e with risk:=(dP (bi f.vals).data.toList).2 },jy f.vals)
 else if aH kind f.key=aH aO cH then({ e with seed:=bi f.vals },kI f.vals)
 else if aH kind f.key=aH aW dB then({ e with cell:=i6 f.vals },jo f.vals 1 400)
 else(e,0)
structure eO where
 e:aa
 seen:List ByteArray
 lines:List (Int×Int)
 names:List (List ByteArray×List ByteArray)
 f:eB
def eO.note (t:eO) (no line:Int):eO:={ t with f:=t.f.note no line }
def iQ (kind:ByteArray):Bool:=decide (kind=af)||decide (kind=aD)
def jS (t:eO) (kind nm:ByteArray):Int:=
 if aJ kind=[] then 2
 else if iQ kind=true∧nm=⟨#[]⟩ then 6
 else if iQ kind=true∧(iS nm.data.toList=false∨24<nm.size) then 8
 else if iQ kind=true∧((kind=af∧(t.e.cont.any fun c=>decide (c.name=nm))=true)∨(kind=aD∧(t.e.styl.any fun c=>decide (c.name=nm))=true)) then 3
 else if(kind=af∧4≤t.e.cont.length)∨(kind=aD∧6≤t.e.styl.length) then 7
 else if iQ kind=false∧nm≠⟨#[]⟩ then 2
 else if iQ kind=false∧bF t.seen kind=true then 3
 else 0
structure cX where
 e:aa
 f:eB
 known:List ByteArray
 c:ah
 n0:List ByteArray
 n1:List ByteArray
 l0:Int
 l1:Int
 digits:Int
 seats:Int
def ah.zero:ah:=⟨⟨#[]⟩,[],0,0,0,0,0,0,0⟩
def aV (kind:ByteArray) (x:cX) (f:ao):cX:=
 let f2:=(x.f.note (if bF (aJ kind) f.key=true then 0 else 2) f.line).note (if bF x.known f.key=true then 3 else 0) f.line
 let y:={ x with f:=f2,known:=x.known++[f.key] }
 if f2.no≠0 then y
 else if kind=af then
  { y with c:=(fp x.c f).1,f:=f2.note (fp x.c f).2 f.line,digits:=if f.key=az then f.line else x.digits,seats:=if f.key=bc then f.line else x.seats }
 else if kind=aD∧f.key=ae then { y with n0:=f.vals,l0:=f.line,f:=f2.note (eD f.vals 12) f.line }
 else if kind=aD then { y with n1:=f.vals,l1:=f.line,f:=f2.note (eD f.vals 4) f.line }
 else { y with e:=(df kind x.e f).1,f:=f2.note (df kind x.e f).2 f.line }
def dJ (kind:ByteArray):List ao→cX→cX
 | [],x=>x
 | f::l,x=>if x.f.no≠0 then x else dJ kind l (aV kind x f)
def fR (known:List ByteArray) (method line:Int):List ByteArray→eB→eB
 | [],f=>f
 | k::l,f=>if f.no≠0 then f else fR known method line l (f.note (if bF known k=true∨(k=az∧method≠2) then 0 else 6) line)
def ta (t:eO) (x:av) (y:cX):eO:=
 let f:=fR y.known y.c.method x.line (aJ x.kind) y.f
 let s:={ t with e:=y.e,f:=f,seen:=t.seen++[x.kind] }
 if f.no≠0 then s
 else if x.kind=af then
  { s with e:={ y.e with cont:=y.e.cont++[{ y.c with name:=x.name }] },f:=(f.note (if bF y.known az=true∧y.c.method≠2 then 5 else 0) y.digits).note (if y.c.method=1∧1<y.c.seats then 4 else 0) y.seats }
 else if x.kind=aD then
  { s with e:={ y.e with styl:=y.e.styl++[⟨x.name,[],[]⟩] },names:=t.names++[(y.n0,y.n1)],lines:=t.lines++[(y.l0,y.l1)] }
 else if x.kind=aP∧y.e.marked<y.e.blank then s.note 4 x.line
 else s
def cX.start (t:eO) (x:av):cX:=⟨t.e,t.f.note (jS t x.kind x.name) x.line,[],ah.zero,[],[],0,0,0,0⟩
def fZ (t:eO) (x:av):eO:=ta t x (dJ x.kind x.fields (cX.start t x))
def cY:List av→eO→eO
 | [],t=>t
 | x::l,t=>if t.f.no≠0 then t else cY l (fZ t x)
def pH (names:List ByteArray) (line:Int):List ByteArray→List Int→Except eB (List Int)
 | [],fw=>.ok fw
 | s::l,fw=>if Lib.idxOfS names s<0 then .error ⟨2,line⟩ else pH names line l (fw++[Lib.idxOfS names s])
def jr (prec conts:List ByteArray):List (List ByteArray×List ByteArray)→List (Int×Int)→List aw→List Bool→List aw→Except eB (List aw)
 | v::vs,ln::lns,s::ss,used,done=>
  match eI prec ln.1 v.1 used [] with
  | .error e=>.error e
  | .ok (Lv,ps)=>
   match pH conts ln.2 v.2 [] with
   | .error e=>.error e
   | .ok cs=>jr prec conts vs lns ss Lv (done++[⟨s.name,ps,cs⟩])
 | _,_,_,used,done=>if used.contains false then .error ⟨6,0⟩ else .ok done
def kR (t:eO):Except eB (List aw):=jr t.e.prec (t.e.cont.map (·.name)) t.names t.lines t.e.styl (List.replicate t.e.prec.length false) []
def eO.start (title:ByteArray):eO:=⟨{ aa.zero with title:=title },[],[],[],(⟨0,0⟩:eB).note (if 60<title.size∨fE title.data.toList=false then 8 else 0) 0⟩
def iR:List ByteArray:=[aP,au,ae,af,aD,aO,aW]
def cF (s:cJ):eO:=
 let t:=cY s.blocks (eO.start s.title)
 { t with f:=iR.foldl (fun f k=>f.note (if bF t.seen k=true then 0 else 6) 0) t.f }
def gB (s:cJ):aa×eB:=
 if(cF s).f.no≠0 then(aa.zero,(cF s).f)
 else match kR (cF s) with
  | .error e=>(aa.zero,e)
  | .ok l=>({ (cF s).e with styl:=l },⟨0,0⟩)
def Dc (n:Int):ByteArray:=if n<0∨999999<n then⟨#[]⟩ else⟨(bG n.toNat).toArray⟩
def o7 (n:Int) (l:List ByteArray):ByteArray:=if n<1∨(l.length:Int)<n then⟨#[]⟩ else l.getD (n.toNat-1) ⟨#[]⟩
def dZ (k:ByteArray) (n:Int):ao:=⟨k,[Dc n],0⟩
def fU (k:ByteArray) (n:Int) (l:List ByteArray):ao:=⟨k,[o7 n l],0⟩
def dV (c:ah):av:=
 ⟨af,c.name,[fU aM c.method ew,dZ bc c.seats,dZ bP c.ranks]++(if c.method=2 then[dZ az c.digits] else[])++[fU cV c.ties iH,fU aU c.over iJ,fU cW c.skip iI,⟨cz,c.cands,0⟩],0⟩
def eK (e:aa):cJ:=
 ⟨e.title,[⟨aP,⟨#[]⟩,[dZ cZ e.dots,dZ bp e.blank,dZ aZ e.marked],0⟩,⟨au,⟨#[]⟩,[dZ bV e.scan,dZ bW e.batch],0⟩,⟨ae,⟨#[]⟩,[⟨bU,e.prec,0⟩],0⟩]
  ++e.cont.map dV++e.styl.map (fk e.prec (e.cont.map (·.name)))
  ++[⟨aO,⟨#[]⟩,[⟨bJ,[⟨(ik e.risk.q).toArray⟩],0⟩,⟨cH,[e.seed],0⟩],0⟩,⟨aW,⟨#[]⟩,[dZ dB e.cell],0⟩]⟩
def ll (e:aa):Bool:=
 decide (e.prec.length≤12)&&(decide (e.cont.length≤4)&&(decide (e.styl.length≤6)&&(decide (e.risk.num.length≤1)&&(decide (e.risk.den.length≤1)
  &&(e.cont.all (fun c=>decide (c.cands.length≤7))&&e.styl.all (fun s=>decide (s.prec.length≤12)&&decide (s.cont.length≤4)))))))
def Tc (a b:aa):Bool:=
 decide (a.title=b.title)&&(decide (a.dots=b.dots)&&(decide (a.blank=b.blank)&&(decide (a.marked=b.marked)&&(decide (a.scan=b.scan)&&(decide (a.batch=b.batch)&&(decide (a.cell=b.cell)&&(decide (a.seed=b.seed)
  &&(decide (a.risk.neg=b.risk.neg)&&(decide (a.risk.num=b.risk.num)&&(decide (a.risk.den=b.risk.den)&&(decide (a.prec=b.prec)&&(gW bh a.cont b.cont&&gW bA a.styl b.styl))))))))))))
def nC (e:aa):Bool:=ll e&&(decide ((gB (eK e)).2.no=0)&&Tc (gB (eK e)).1 e)
def ez:aa:=⟨⟨#[]⟩,2,20,50,[⟨#[97]⟩,⟨#[98]⟩],[⟨⟨#[109]⟩,[⟨#[120]⟩,⟨#[121]⟩,⟨#[122]⟩],1,1,3,0,3,1,1⟩],[⟨⟨#[115]⟩,[0,1],[0]⟩],1,4,⟨false,[1#32],[20#32]⟩,2,⟨#[]⟩⟩
theorem t1:(ik ez.risk.q)=[49,47,50,48]:=by kernel_rfl
theorem t2:qL 20=⟨#[50,48]⟩:=by kernel_rfl
theorem t3:jf ez=true:=by kernel_rfl
theorem mP {n:Nat}:∀(os:List Obj) (w:World),n≤w.heap.size→Below n w (os.foldl World.alloc w)
 | [],w,_=>Below.refl _ _
 | o::os,w,h=>((Below.refl _ _).alloc h _).trans (mP os (w.alloc o) (by simp;omega))
theorem pW:∀(os:List Obj) (w:World) (i:Nat) {t:TypeId} {cs:Array Value},os[i]?=some (.cells cs t)→dy (os.foldl World.alloc w) (w.heap.size+i) t cs
 | [],_,_,_,_,h=>by simp at h
 | o::os,w,0,t,cs,h=>by
  obtain rfl:o=.cells cs t:=by simpa using h
  exact(dy.new w t cs).keep (mP os _ (Nat.le_refl _))
 | o::os,w,i+1,t,cs,h=>by
  have:=pW os (w.alloc o) i (by simpa using h);have e:(w.alloc o).heap.size+i=w.heap.size+(i+1):=by simp;omega
  rwa [e] at this
def uo (g:Nat) (T0 T1 T2 T3 T4 T5 T6 T7 T8:TypeId):List Obj:=
 [.cells #[.string ⟨#[]⟩,.int .i64 2,.int .i64 20,.int .i64 50,.slice (some ⟨g+1,0,none⟩) 2 2,.slice (some ⟨g+3,0,none⟩) 1 1,.slice (some ⟨g+6,0,none⟩) 1 1,.int .i64 1,.int .i64 4,.bool false,.slice (some ⟨g+7,0,none⟩) 1 1,.slice (some ⟨g+8,0,none⟩) 1 1,.int .i64 2,.string ⟨#[]⟩] T0, .cells #[.string ⟨#[97]⟩,.string ⟨#[98]⟩] T1,.cells #[.string ⟨#[120]⟩,.string ⟨#[121]⟩,.string ⟨#[122]⟩] T2, .cells #[.string ⟨#[109]⟩,.slice (some ⟨g+2,0,none⟩) 3 3,.int .i64 1,.int .i64 1,.int .i64 3,.int .i64 0,.int .i64 3,.int .i64 1,.int .i64 1] T3, .cells #[.int .i64 0,.int .i64 1] T4,.cells #[.int .i64 0] T5,.cells #[.string ⟨#[115]⟩,.slice (some ⟨g+4,0,none⟩) 2 2,.slice (some ⟨g+5,0,none⟩) 1 1] T6,.cells #[.int .u32 1] T7,.cells #[.int .u32 20] T8]
theorem QF {w W:World} {T0 T1 T2 T3 T4 T5 T6 T7 T8:TypeId} (hW:(uo w.heap.size T0 T1 T2 T3 T4 T5 T6 T7 T8).foldl World.alloc w=W) : aK.rep W (cQ w W) [.string ⟨#[]⟩,.int .i64 2,.int .i64 20,.int .i64 50,.slice (some ⟨w.heap.size+1,0,none⟩) 2 2,.slice (some ⟨w.heap.size+3,0,none⟩) 1 1,.slice (some ⟨w.heap.size+6,0,none⟩) 1 1,.int .i64 1,.int .i64 4,.bool false,.slice (some ⟨w.heap.size+7,0,none⟩) 1 1,.slice (some ⟨w.heap.size+8,0,none⟩) 1 1,.int .i64 2,.string ⟨#[]⟩] ez:=by
 have hb:∀(i:Nat) {t:TypeId} {cs:Array Value},(uo w.heap.size T0 T1 T2 T3 T4 T5 T6 T7 T8)[i]?=some (.cells cs t)→dy W (w.heap.size+i) t cs:=fun i t cs h=>hW▸pW _ w i h;have hf:∀{g:Nat} {t:TypeId} {cs:Array Value},w.heap.size≤g→dy W g t cs→cQ w W g:=fun h hk=>⟨h,hk.lt⟩;have b1:=hb 1 rfl;have b2:=hb 2 rfl;have b3:=hb 3 rfl;have b4:=hb 4 rfl;have b5:=hb 5 rfl;have b6:=hb 6 rfl;have b7:=hb 7 rfl;have b8:=hb 8 rfl;have m:∀k:Nat,k≤3→k≤maxLen:=fun k h=>by unfold maxLen;omega
 have r1:RS W (cQ w W) (some ⟨w.heap.size+1,0,none⟩) 2 2 [(⟨#[97]⟩:ByteArray),⟨#[98]⟩]:=RS.of_blk b1 (Flat.cons (ds:=[_]) rfl (Flat.cons (ds:=[_]) rfl Flat.nil)) rfl (Nat.le_refl _) (m 2 (by omega)) (hf (by omega) b1);have r2:RS W (cQ w W) (some ⟨w.heap.size+2,0,none⟩) 3 3 [(⟨#[120]⟩:ByteArray),⟨#[121]⟩,⟨#[122]⟩]:=RS.of_blk b2 (Flat.cons (ds:=[_]) rfl (Flat.cons (ds:=[_]) rfl (Flat.cons (ds:=[_]) rfl Flat.nil))) rfl (Nat.le_refl _) (m 3 (by omega)) (hf (by omega) b2);have r4:RS W (cQ w W) (some ⟨w.heap.size+4,0,none⟩) 2 2 [(0:Int),1]:=RS.of_blk b4 (Flat.cons (ds:=[_]) rfl (Flat.cons (ds:=[_]) rfl Flat.nil)) rfl (Nat.le_refl _) (m 2 (by omega)) (hf (by omega) b4);have r5:RS W (cQ w W) (some ⟨w.heap.size+5,0,none⟩) 1 1 [(0:Int)]:=RS.of_blk b5 (Flat.cons (ds:=[_]) rfl Flat.nil) rfl (Nat.le_refl _) (m 1 (by omega)) (hf (by omega) b5);have r7:RS W (cQ w W) (some ⟨w.heap.size+7,0,none⟩) 1 1 [1#32]:=RS.of_blk b7 (Flat.cons (ds:=[_]) rfl Flat.nil) rfl (Nat.le_refl _) (m 1 (by omega)) (hf (by omega) b7);have r8:RS W (cQ w W) (some ⟨w.heap.size+8,0,none⟩) 1 1 [20#32]:=RS.of_blk b8 (Flat.cons (ds:=[_]) rfl Flat.nil) rfl (Nat.le_refl _) (m 1 (by omega)) (hf (by omega) b8);have r3:RS W (cQ w W) (some ⟨w.heap.size+3,0,none⟩) 1 1 ez.cont:=RS.of_blk b3 (Flat.cons (ds:=[_,_,_,_,_,_,_,_,_]) ⟨_,_,_,rfl,r2⟩ Flat.nil) rfl (Nat.le_refl _) (m 1 (by omega)) (hf (by omega) b3);have r6:RS W (cQ w W) (some ⟨w.heap.size+6,0,none⟩) 1 1 ez.styl:=RS.of_blk b6 (Flat.cons (ds:=[_,_,_]) ⟨_,_,_,_,_,_,rfl,r4,r5⟩ Flat.nil) rfl (Nat.le_refl _) (m 1 (by omega)) (hf (by omega) b6);exact⟨_,_,_,_,_,_,_,_,_,_,_,_,_,_,_,rfl,r1,r3,r6,r7,r8⟩
theorem Ja {w:World}:Calls Tryz.prog 27 #[] w (iA w ez):=by
 go_enter Tryz.func27,Tryz.ntmps27;go_wp2_with fail;refine bodyPost_ret (results_cell_row rfl _ _ w.heap.size _ _ (0,0) _ rfl (pW (uo w.heap.size _ _ _ _ _ _ _ _ _) w 0 rfl) Tryz.underlying30 rfl (by kernel_rfl)) rfl ?_;exact⟨_,rfl,⟨_,rfl,QF rfl⟩,mP (uo w.heap.size _ _ _ _ _ _ _ _ _) w (Nat.le_refl _)⟩
end Go.Proofs.YtjlhbfbdcfajfaaGreatDoor
