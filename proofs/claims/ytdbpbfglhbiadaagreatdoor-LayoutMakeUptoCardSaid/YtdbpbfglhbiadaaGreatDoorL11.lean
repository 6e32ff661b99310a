/- Str Elec Smp1 Smp2 RefD -/
import Derived.Test.YtdbpbfglhbiadaaGreatDoorL01
import Derived.Laws.Rows
import Derived.Test.YtdbpbfglhbiadaaGreatDoorProg
set_option maxHeartbeats 8000000
set_option maxRecDepth 100000
namespace Go.Proofs.YtdbpbfglhbiadaaGreatDoor
open Go.RowKit
def SV {α:Type} [aF α] (w:World) (S:Nat→Prop) (v:Value) (x:α):Prop:=∃cs:List Value,v=.agg cs.toArray∧aF.rep w S cs x
section
variable {α:Type} [aF α] {w w':World} {S S':Nat→Prop} {v:Value} {x:α}
theorem SV.keep (h:SV w S v x) (hS:∀b,S b→S' b) (hk:aA S w w'):SV w' S' v x:=by
 obtain⟨cs,e,hr⟩:=h;exact⟨cs,e,aF.keep hr hS hk⟩
theorem SV.below {B:Nat} (h:SV w S v x) (hb:Below B w w') (hS:∀b,S b→b<B):SV w' S v x:=h.keep (fun _ h=>h) ((aA.of_below hb).sub hS)
theorem SV.drew (h:SV w S v x):SV w.drew S v x:=h.keep (fun _ h=>h) (fun _ _=>rfl)
end
def iJ {α:Type} [aF α] (w:World) (x:α) (e:Ending) (w':World):Prop:=∃v,e=.returned v∧SV w' (cY w w') v x∧Below w.heap.size w w'
theorem km {B:Nat} {a w:World} {g:Nat} (h:Below B a w) (hg:B≤g):∀(l:List Value) (i:Nat),Below B a (setAll w g i l):=by
 intro l;induction l generalizing w with
 | nil=>intro i;exact h
 | cons v l ih=>intro i;exact ih (h.setCell (by simpa using hg) v) (i+1)
theorem aA.setAll {S:Nat→Prop} {w w1:World} {g:Nat} (h:aA S w w1) (hg:¬S g):∀(l:List Value) (i:Nat),aA S w (setAll w1 g i l):=by
 intro l;induction l generalizing w1 with
 | nil=>intro i;exact h
 | cons v l ih=>intro i;exact ih (h.setCell (p:=⟨g,i,none⟩) hg v) (i+1)
theorem kW {g:Nat}:∀(l:List Value) (i:Nat) (w:World),(setAll w g i l).heap.size=w.heap.size:=by
 intro l;induction l with
 | nil=>intro i w;rfl
 | cons v l ih=>intro i w;rw[Go.Proofs.YtdbpbfglhbiadaaGreatDoor.setAll,ih];simp
theorem Own.fresh {α:Type} [aF α] {w w':World} {base:Nat} {e:TypeId} {A:Option Addr} {n c:Nat} {xs:List α} (h:Own w' (fun _=>False) base e (.slice A n c) xs) (hb:w.heap.size≤base):RS w' (cY w w') A n c xs:=
 h.rs (fun _ h=>h.elim) (fun _ h1 h2=>⟨Nat.le_trans hb h1,h2⟩)
theorem dI.facts3 {w:World} {g:Nat} {t:TypeId} {a b c:Value} (h:dI w g t #[a,b,c]):w.cell? ⟨g,0,none⟩=some a∧w.cell? ⟨g,1,none⟩=some b∧w.cell? ⟨g,2,none⟩=some c∧w.frozen? ⟨g,0,none⟩=false∧w.frozen? ⟨g,1,none⟩=false∧w.frozen? ⟨g,2,none⟩=false:=
 ⟨h.cell 0,h.cell 1,h.cell 2,h.frozen 0,h.frozen 1,h.frozen 2⟩
theorem gG {α:Type} [aF α] {P:Program} {fn:Func} {p:Tmp} {ty t:TypeId} {d:TypeDesc} {w w2:World} {tmps:Array Value} {defers:List Deferred} {g:Nat} {ya:Array Value} {cs:List Value} {S:Nat→Prop} {x:α} {R:Ending→World→Prop} (h:fn.results=#[.cell p ty]) (hp:tmps.getD p undef=.pointer (some ⟨g,0,none⟩)) (hg:w.heap.size≤g) (hk:dI w2 g t ya) (hl:ya.size=cs.length) (hu:P.underlying ty=some d) (hd:(match d with|.struct _|.array _ _=>true|_=>false)=true) (hi:(P.info? ty).map (·.size)=some cs.length) (hr:aF.rep w2 S cs x) (hS:∀b,S b→cY w w2 b∧b≠g) (hb:Below w.heap.size w w2) (hdf:defers=[]) (hR:iJ w x (.returned (.agg cs.toArray)) (setAll w2 g 0 cs)→R (.returned (.agg cs.toArray)) (setAll w2 g 0 cs)) : bodyPost P fn R Exit.ret { tmps:=tmps,defers:=defers } (setAll w2 g 0 cs):=by
 refine bodyPost_ret (results_cell_row h _ _ g t cs.toArray (0,0) d hp (hk.setAll cs hl) hu hd (by simpa using hi)) hdf ?_;refine hR ⟨_,rfl,⟨cs,rfl,aF.keep hr (fun b hb=>?_) ((aA.refl _ _).setAll (fun h=>(hS g h).2 rfl) cs 0)⟩,km hb hg cs 0⟩;have:=(hS b hb).1;exact⟨this.1,by rw[kW];exact this.2⟩
theorem uJ {a b c:World} (h:a.heap.size≤b.heap.size):∀g,cY b c g→cY a c g:=fun _ hg=>⟨Nat.le_trans h hg.1,hg.2⟩
theorem xQ {a b c:World} (h:b.heap.size≤c.heap.size):∀g,cY a b g→cY a c g:=fun _ hg=>⟨hg.1,Nat.lt_of_lt_of_le hg.2 h⟩
theorem iJ.undrew {α:Type} [aF α] {w:World} {x:α} {e:Ending} {w':World} (h:iJ w.drew x e w'):iJ w x e w':=by
 obtain⟨v,he,hs,hb⟩:=h;exact⟨v,he,hs,Hn hb⟩
theorem yg {α:Type} [aF α] {P:Program} {f:FuncId} {args:Array Value} {w:World} {x:α} (h:Calls P f args w.drew (iJ w.drew x)):Calls P f args w.drew (iJ w x):=h.mono fun _ _ h=>h.undrew
theorem uM {α:Type} [aF α] {P:Program} {f:FuncId} {args:Array Value} {w:World} {x:α} (h:Calls P f args w.drew.drew (iJ w.drew.drew x)):Calls P f args w.drew.drew (iJ w x):=h.mono fun _ _ h=>h.undrew.undrew
theorem dI.farAll {w:World} {g g':Nat} {t:TypeId} {cs:Array Value} (h:dI w g t cs) (hg:g≠g'):∀(l:List Value) (i:Nat),dI (Go.Proofs.YtdbpbfglhbiadaaGreatDoor.setAll w g' i l) g t cs:=by
 intro l;induction l generalizing w with
 | nil=>intro i;exact h
 | cons v l ih=>intro i;exact ih (h.far (p:=⟨g',i,none⟩) hg v) (i+1)
def Up (W w':World):Prop:=Below W.heap.size W w'
theorem Up.out {W w':World} (h:Up W w'):Below W.heap.size W w':=h
theorem Up.start (W:World):Up W W.drew:=(Below.refl _ _).drew
theorem Up.more {W w1 w2:World} (h:Up W w1) (k:Below w1.heap.size w1 w2):Up W w2:=ao h k
structure aa where
 title:ByteArray
 dots:Int
 blank:Int
 marked:Int
 prec:List ByteArray
 cont:List ae
 styl:List aj
 scan:Int
 batch:Int
 risk:Raw
 cell:Int
 seed:ByteArray
def aa.zero:aa:=⟨⟨#[]⟩,0,0,0,[],[],[],0,0,⟨false,[],[]⟩,0,⟨#[]⟩⟩
def LS (e:aa) (vP vC vS vN vD:Value):List Value:=
 [.string e.title,.int .i64 e.dots,.int .i64 e.blank,.int .i64 e.marked,vP,vC,vS,.int .i64 e.scan,.int .i64 e.batch,.bool e.risk.neg,vN,vD,.int .i64 e.cell,.string e.seed]
instance:aF aa where
 sz:=14
 rep w S cs x:=∃A n c A2 n2 c2 A3 n3 c3 A4 n4 c4 A5 n5 c5,cs=LS x (.slice A n c) (.slice A2 n2 c2) (.slice A3 n3 c3) (.slice A4 n4 c4) (.slice A5 n5 c5)
  ∧RS w S A n c x.prec∧RS w S A2 n2 c2 x.cont∧RS w S A3 n3 c3 x.styl∧RS w S A4 n4 c4 x.risk.num∧RS w S A5 n5 c5 x.risk.den
 len h:=by obtain⟨A,n,c,A2,n2,c2,A3,n3,c3,A4,n4,c4,A5,n5,c5,rfl,_⟩:=h;rfl
 keep h hS hk:=by
  obtain⟨A,n,c,A2,n2,c2,A3,n3,c3,A4,n4,c4,A5,n5,c5,rfl,h1,h2,h3,h4,h5⟩:=h;exact⟨A,n,c,A2,n2,c2,A3,n3,c3,A4,n4,c4,A5,n5,c5,rfl,h1.keep hS hk,h2.keep hS hk,h3.keep hS hk,h4.keep hS hk,h5.keep hS hk⟩
structure aw where
 kind:ByteArray
 name:ByteArray
 fields:List ar
 line:Int
instance:aF aw where
 sz:=4
 rep w S cs x:=∃A n c,cs=[.string x.kind,.string x.name,.slice A n c,.int .i64 x.line]∧RS w S A n c x.fields
 len h:=by obtain⟨A,n,c,rfl,_⟩:=h;rfl
 keep h hS hk:=by
  obtain⟨A,n,c,rfl,h1⟩:=h;exact⟨A,n,c,rfl,h1.keep hS hk⟩
structure cI where
 title:ByteArray
 blocks:List aw
instance:aF cI where
 sz:=2
 rep w S cs x:=∃A n c,cs=[.string x.title,.slice A n c]∧RS w S A n c x.blocks
 len h:=by obtain⟨A,n,c,rfl,_⟩:=h;rfl
 keep h hS hk:=by
  obtain⟨A,n,c,rfl,h1⟩:=h;exact⟨A,n,c,rfl,h1.keep hS hk⟩
structure bZ where
 e:aa
 names:ByteArray→Option (List ByteArray)
 vals:List az
def bZ.of (b:bZ) (k:ByteArray):List ByteArray:=(b.names k).getD []
def ak:ByteArray:=⟨#[115,99,97,110,110,101,114,115]⟩
def af:ByteArray:=⟨#[112,114,101,99,105,110,99,116,115]⟩
def aC:ByteArray:=⟨#[115,116,121,108,101]⟩
def aJ:ByteArray:=⟨#[97,117,100,105,116]⟩
def aN:ByteArray:=⟨#[112,114,105,118,97,99,121]⟩
def cV:ByteArray:=⟨#[100,111,116,115]⟩
def bQ:ByteArray:=⟨#[99,111,117,110,116]⟩
def bR:ByteArray:=⟨#[98,97,116,99,104]⟩
def bP:ByteArray:=⟨#[110,97,109,101,115]⟩
def bY:ByteArray:=⟨#[99,97,110,100,105,100,97,116,101,115]⟩
def bM:ByteArray:=⟨#[114,97,110,107,115]⟩
def cT:ByteArray:=⟨#[116,105,101,115]⟩
def aP:ByteArray:=⟨#[111,118,101,114,118,111,116,101]⟩
def cU:ByteArray:=⟨#[115,107,105,112]⟩
def dm:ByteArray:=⟨#[99,101,108,108]⟩
def ax:ByteArray:=⟨#[99,111,110,116,101,115,116,115]⟩
def az.s (v:az) (k:ByteArray):List ByteArray:=(v.lst k).getD []
def cR (nm:ByteArray) (v:az):ae:=⟨nm,v.s bY,v.n aM,v.n bb,v.n bM,v.n ay,v.n cT,v.n aP,v.n cU⟩
def be (kind nm:ByteArray) (v:az) (b:bZ):bZ:=
 if kind=aH then { b with e:={ b.e with dots:=v.n cV,blank:=v.n bi,marked:=v.n aW } }
 else if kind=ak then { b with e:={ b.e with scan:=v.n bQ,batch:=v.n bR } }
 else if kind=af then { b with e:={ b.e with prec:=v.s bP } }
 else if kind=ah then { b with e:={ b.e with cont:=b.e.cont++[cR nm v] } }
 else if kind=aC then { b with e:={ b.e with styl:=b.e.styl++[⟨nm,[],[]⟩] },vals:=b.vals++[v] }
 else if kind=aJ then { b with e:={ b.e with risk:=v.risk,seed:=v.seed } }
 else if kind=aN then { b with e:={ b.e with cell:=v.n dm } }
 else b
def eJ (kind:ByteArray):List ar→az→eE×az
 | [],v=>(⟨0,0⟩,v)
 | f::l,v=>if(aX kind f v).1≠0 then(⟨(aX kind f v).1,f.line⟩,(aX kind f v).2) else eJ kind l (aX kind f v).2
def bZ.named (b:bZ) (kind nm:ByteArray):bZ:={ b with names:=setF b.names kind (b.of kind++[nm]) }
def gr (x:aw) (b:bZ):eE×bZ:=
 if fM x.kind x.name (b.of x.kind)≠0 then(⟨fM x.kind x.name (b.of x.kind),x.line⟩,b)
 else if(eJ x.kind x.fields az.zero).1.no≠0 then((eJ x.kind x.fields az.zero).1,b.named x.kind x.name)
 else if(eP x.kind x.line (eJ x.kind x.fields az.zero).2).no≠0 then(eP x.kind x.line (eJ x.kind x.fields az.zero).2,b.named x.kind x.name)
 else(⟨0,0⟩,be x.kind x.name (eJ x.kind x.fields az.zero).2 (b.named x.kind x.name))
def di:List aw→bZ→eE×bZ
 | [],b=>(⟨0,0⟩,b)
 | x::l,b=>if(gr x b).1.no≠0 then gr x b else di l (gr x b).2
def dG (prec:List ByteArray) (line:Int):List ByteArray→List Bool→List Int→Except eE (List Bool×List Int)
 | [],used,ew=>.ok (used,ew)
 | s::l,used,ew=>
  if Lib.idxOfS prec s<0 then .error ⟨2,line⟩
  else if used.getD (Lib.idxOfS prec s).toNat false=true then .error ⟨3,line⟩
  else dG prec line l (used.set (Lib.idxOfS prec s).toNat true) (ew++[Lib.idxOfS prec s])
def bA (nm:ByteArray):List ae→Nat→Int
 | [],_=>-1
 | c::l,i=>if c.name=nm then(i:Int) else bA nm l (i+1)
def eg (cont:List ae) (line:Int):List ByteArray→List Int→Except eE (List Int)
 | [],ew=>.ok ew
 | s::l,ew=>if bA s cont 0<0 then .error ⟨2,line⟩ else eg cont line l (ew++[bA s cont 0])
def eK (prec:List ByteArray) (cont:List ae):List az→List aj→List Bool→List aj→Except eE (List aj)
 | v::vs,s::ss,used,done=>
  match dG prec (v.l af) (v.s af) used [] with
  | .error e=>.error e
  | .ok (oa,ps)=>
   match eg cont (v.l ax) (v.s ax) [] with
   | .error e=>.error e
   | .ok cs=>eK prec cont vs ss oa (done++[⟨s.name,ps,cs⟩])
 | _,_,used,done=>if used.contains false then .error ⟨6,0⟩ else .ok done
def pQ (b:bZ):Except eE (List aj):=eK b.e.prec b.e.cont b.vals b.e.styl (List.replicate b.e.prec.length false) []
def bZ.start (title:ByteArray):bZ:=⟨{ aa.zero with title:=title },fun _=>none,[]⟩
def cX (s:cI):aa×eE:=
 if dN s.title 0 60=false then(aa.zero,⟨8,0⟩)
 else if(di s.blocks (bZ.start s.title)).1.no≠0 then(aa.zero,(di s.blocks (bZ.start s.title)).1)
 else if eQ.any (fun k=>decide ((di s.blocks (bZ.start s.title)).2.of k=[])) then(aa.zero,⟨6,0⟩)
 else match pQ (di s.blocks (bZ.start s.title)).2 with
  | .error e=>(aa.zero,e)
  | .ok l=>({ (di s.blocks (bZ.start s.title)).2.e with styl:=l },⟨0,0⟩)
def gJ (k:ByteArray) (n:Int):ar:=⟨k,[rY n],0⟩
def jY (k:ByteArray) (n:Int):ar:=⟨k,[jE k n],0⟩
def fl (c:ae):aw:=
 ⟨ah,c.name,[jY aM c.method,gJ bb c.seats,gJ bM c.ranks]++(if c.method=2 then[gJ ay c.digits] else[])++[jY cT c.ties,jY aP c.over,jY cU c.skip,⟨bY,c.cands,0⟩],0⟩
def fw (prec conts:List ByteArray) (s:aj):aw:=⟨aC,s.name,[⟨af,dO s.prec prec,0⟩,⟨ax,dO s.cont conts,0⟩],0⟩
def eX (e:aa):cI:=
 ⟨e.title,[⟨aH,⟨#[]⟩,[gJ cV e.dots,gJ bi e.blank,gJ aW e.marked],0⟩,⟨ak,⟨#[]⟩,[gJ bQ e.scan,gJ bR e.batch],0⟩,⟨af,⟨#[]⟩,[⟨bP,e.prec,0⟩],0⟩]
  ++e.cont.map fl++e.styl.map (fw e.prec (e.cont.map (·.name)))
  ++[⟨aJ,⟨#[]⟩,[⟨bH,[⟨(iC e.risk.q).toArray⟩],0⟩,⟨cz,[e.seed],0⟩],0⟩,⟨aN,⟨#[]⟩,[gJ dm e.cell],0⟩]⟩
def gU {α:Type} (f:α→α→Bool):List α→List α→Bool
 | [],[]=>true
 | x::l,y::m=>f x y&&gU f l m
 | _,_=>false
def kL (a b:aa):Bool:=
 decide (a.title=b.title)&&(decide (a.dots=b.dots)&&(decide (a.blank=b.blank)&&(decide (a.marked=b.marked)&&(decide (a.prec=b.prec)&&(gU bc a.cont b.cont&&(gU bw a.styl b.styl
  &&(decide (a.scan=b.scan)&&(decide (a.batch=b.batch)&&(decide (oK a.risk.q b.risk.flip.q=0)&&(decide (a.cell=b.cell)&&decide (a.seed=b.seed)))))))))))
def gn (e:aa):Bool:=decide ((cX (eX e)).2.no=0)&&(e.risk.valid&&kL (cX (eX e)).1 e)
def dX:aa:=⟨⟨#[]⟩,2,20,50,[⟨#[97]⟩,⟨#[98]⟩],[⟨⟨#[109]⟩,[⟨#[120]⟩,⟨#[121]⟩,⟨#[122]⟩],1,1,3,0,3,1,1⟩],[⟨⟨#[115]⟩,[0,1],[0]⟩],1,4,⟨false,[1#32],[20#32]⟩,2,⟨#[]⟩⟩
theorem t1:(iC dX.risk.q)=[49,47,50,48]:=by kernel_rfl
theorem t2:rY 20=⟨#[50,48]⟩:=by kernel_rfl
theorem t3:gn dX=true:=by kernel_rfl
theorem ni {n:Nat}:∀(os:List Obj) (w:World),n≤w.heap.size→Below n w (os.foldl World.alloc w)
 | [],w,_=>Below.refl _ _
 | o::os,w,h=>((Below.refl _ _).alloc h _).trans (ni os (w.alloc o) (by simp;omega))
theorem qP:∀(os:List Obj) (w:World) (i:Nat) {t:TypeId} {cs:Array Value},os[i]?=some (.cells cs t)→dI (os.foldl World.alloc w) (w.heap.size+i) t cs
 | [],_,_,_,_,h=>by simp at h
 | o::os,w,0,t,cs,h=>by
  obtain rfl:o=.cells cs t:=by simpa using h
  exact(dI.new w t cs).keep (ni os _ (Nat.le_refl _))
 | o::os,w,i+1,t,cs,h=>by
  have:=qP os (w.alloc o) i (by simpa using h);have e:(w.alloc o).heap.size+i=w.heap.size+(i+1):=by simp;omega
  rwa [e] at this
def vB (g:Nat) (T0 T1 T2 T3 T4 T5 T6 T7 T8:TypeId):List Obj:=
 [.cells #[.string ⟨#[]⟩,.int .i64 2,.int .i64 20,.int .i64 50,.slice (some ⟨g+1,0,none⟩) 2 2,.slice (some ⟨g+3,0,none⟩) 1 1,.slice (some ⟨g+6,0,none⟩) 1 1,.int .i64 1,.int .i64 4,.bool false,.slice (some ⟨g+7,0,none⟩) 1 1,.slice (some ⟨g+8,0,none⟩) 1 1,.int .i64 2,.string ⟨#[]⟩] T0, .cells #[.string ⟨#[97]⟩,.string ⟨#[98]⟩] T1,.cells #[.string ⟨#[120]⟩,.string ⟨#[121]⟩,.string ⟨#[122]⟩] T2, .cells #[.string ⟨#[109]⟩,.slice (some ⟨g+2,0,none⟩) 3 3,.int .i64 1,.int .i64 1,.int .i64 3,.int .i64 0,.int .i64 3,.int .i64 1,.int .i64 1] T3, .cells #[.int .i64 0,.int .i64 1] T4,.cells #[.int .i64 0] T5,.cells #[.string ⟨#[115]⟩,.slice (some ⟨g+4,0,none⟩) 2 2,.slice (some ⟨g+5,0,none⟩) 1 1] T6,.cells #[.int .u32 1] T7,.cells #[.int .u32 20] T8]
theorem Te {w W:World} {T0 T1 T2 T3 T4 T5 T6 T7 T8:TypeId} (hW:(vB w.heap.size T0 T1 T2 T3 T4 T5 T6 T7 T8).foldl World.alloc w=W) : aF.rep W (cY w W) [.string ⟨#[]⟩,.int .i64 2,.int .i64 20,.int .i64 50,.slice (some ⟨w.heap.size+1,0,none⟩) 2 2,.slice (some ⟨w.heap.size+3,0,none⟩) 1 1,.slice (some ⟨w.heap.size+6,0,none⟩) 1 1,.int .i64 1,.int .i64 4,.bool false,.slice (some ⟨w.heap.size+7,0,none⟩) 1 1,.slice (some ⟨w.heap.size+8,0,none⟩) 1 1,.int .i64 2,.string ⟨#[]⟩] dX:=by
 have hb:∀(i:Nat) {t:TypeId} {cs:Array Value},(vB w.heap.size T0 T1 T2 T3 T4 T5 T6 T7 T8)[i]?=some (.cells cs t)→dI W (w.heap.size+i) t cs:=fun i t cs h=>hW▸qP _ w i h;have hf:∀{g:Nat} {t:TypeId} {cs:Array Value},w.heap.size≤g→dI W g t cs→cY w W g:=fun h hk=>⟨h,hk.lt⟩;have b1:=hb 1 rfl;have b2:=hb 2 rfl;have b3:=hb 3 rfl;have b4:=hb 4 rfl;have b5:=hb 5 rfl;have b6:=hb 6 rfl;have b7:=hb 7 rfl;have b8:=hb 8 rfl;have m:∀k:Nat,k≤3→k≤maxLen:=fun k h=>by unfold maxLen;omega
 have r1:RS W (cY w W) (some ⟨w.heap.size+1,0,none⟩) 2 2 [(⟨#[97]⟩:ByteArray),⟨#[98]⟩]:=RS.of_blk b1 (Flat.cons (ds:=[_]) rfl (Flat.cons (ds:=[_]) rfl Flat.nil)) rfl (Nat.le_refl _) (m 2 (by omega)) (hf (by omega) b1);have r2:RS W (cY w W) (some ⟨w.heap.size+2,0,none⟩) 3 3 [(⟨#[120]⟩:ByteArray),⟨#[121]⟩,⟨#[122]⟩]:=RS.of_blk b2 (Flat.cons (ds:=[_]) rfl (Flat.cons (ds:=[_]) rfl (Flat.cons (ds:=[_]) rfl Flat.nil))) rfl (Nat.le_refl _) (m 3 (by omega)) (hf (by omega) b2);have r4:RS W (cY w W) (some ⟨w.heap.size+4,0,none⟩) 2 2 [(0:Int),1]:=RS.of_blk b4 (Flat.cons (ds:=[_]) rfl (Flat.cons (ds:=[_]) rfl Flat.nil)) rfl (Nat.le_refl _) (m 2 (by omega)) (hf (by omega) b4);have r5:RS W (cY w W) (some ⟨w.heap.size+5,0,none⟩) 1 1 [(0:Int)]:=RS.of_blk b5 (Flat.cons (ds:=[_]) rfl Flat.nil) rfl (Nat.le_refl _) (m 1 (by omega)) (hf (by omega) b5);have r7:RS W (cY w W) (some ⟨w.heap.size+7,0,none⟩) 1 1 [1#32]:=RS.of_blk b7 (Flat.cons (ds:=[_]) rfl Flat.nil) rfl (Nat.le_refl _) (m 1 (by omega)) (hf (by omega) b7);have r8:RS W (cY w W) (some ⟨w.heap.size+8,0,none⟩) 1 1 [20#32]:=RS.of_blk b8 (Flat.cons (ds:=[_]) rfl Flat.nil) rfl (Nat.le_refl _) (m 1 (by omega)) (hf (by omega) b8);have r3:RS W (cY w W) (some ⟨w.heap.size+3,0,none⟩) 1 1 dX.cont:=RS.of_blk b3 (Flat.cons (ds:=[_,_,_,_,_,_,_,_,_]) ⟨_,_,_,rfl,r2⟩ Flat.nil) rfl (Nat.le_refl _) (m 1 (by omega)) (hf (by omega) b3);have r6:RS W (cY w W) (some ⟨w.heap.size+6,0,none⟩) 1 1 dX.styl:=RS.of_blk b6 (Flat.cons (ds:=[_,_,_]) ⟨_,_,_,_,_,_,rfl,r4,r5⟩ Flat.nil) rfl (Nat.le_refl _) (m 1 (by omega)) (hf (by omega) b6);exact⟨_,_,_,_,_,_,_,_,_,_,_,_,_,_,_,rfl,r1,r3,r6,r7,r8⟩
theorem Kz {w:World}:Calls Tryz.prog 66 #[] w (iJ w dX):=by
 go_enter Tryz.func66,Tryz.ntmps66;go_wp2_with fail;refine bodyPost_ret (results_cell_row rfl _ _ w.heap.size _ _ (0,0) _ rfl (qP (vB w.heap.size _ _ _ _ _ _ _ _ _) w 0 rfl) Tryz.underlying30 rfl (by kernel_rfl)) rfl ?_;exact⟨_,rfl,⟨_,rfl,Te rfl⟩,ni (vB w.heap.size _ _ _ _ _ _ _ _ _) w (Nat.le_refl _)⟩
def bI (l:List ByteArray) (s:ByteArray):Bool:=decide (0≤Lib.idxOfS l s)
def eE.note (f:eE) (no line:Int):eE:=if f.no=0∧no≠0 then⟨no,line⟩ else f
def ox (s:ByteArray):Bool:=decide (1≤(s.size:Int))&&(decide ((s.size:Int)≤24)&&fQ s.data.toList)
def kH (l:List UInt8):Bool:=l.all digitB&&(decide (1≤l.length)&&(decide (l.length≤6)&&(decide (l.length=1)||!(l.head?==some 48))))
def dD (n:Int) (c:UInt8):Int:=10*n+(c.toNat:Int)-48
def dJ (l:List UInt8):Int×Bool:=((l.take 6).foldl dD 0,kH l)
def ja (l:List UInt8):Bool:=decide (l≠[])&&(((l.head?.map gz).getD false)&&decide ((l.takeWhile iB).length=l.length))
def bj (l:List ByteArray):ByteArray:=if l.length≠1 then⟨#[]⟩ else l.getD 0 ⟨#[]⟩
def dM (l:List ByteArray):Int:=if l.length≠1 then 7 else 0
def jh (l:List ByteArray):Int:=(dJ (bj l).data.toList).1
def jz (l:List ByteArray) (low high:Int):Int:=
 if l.length≠1 then 7 else if(dJ (bj l).data.toList).2=false then 5 else if jh l<low∨high<jh l then 4 else 0
def iN (l words:List ByteArray):Int:=Lib.idxOfS words (bj l)+1
def jA (l words:List ByteArray):Int:=if l.length≠1 then 7 else if Lib.idxOfS words (bj l)<0 then 2 else 0
def d9 (l:List UInt8):Int×Raw:=
 if jo l=false∨((dJ (ek l)).2&&(dJ (dQ l)).2)=false then(5,⟨false,[],[]⟩)
 else if(dJ (dQ l)).1=0∨1000*(dJ (ek l)).1<(dJ (dQ l)).1∨(dJ (dQ l)).1<2*(dJ (ek l)).1 then(4,⟨false,[],[]⟩)
 else(0,(eB false (dJ (ek l)).1.toNat (dJ (dQ l)).1.toNat).raw)
def jI (l:List ByteArray):Int:=if l.length≠1 then 7 else(d9 (bj l).data.toList).1
def kX (l:List ByteArray):Int:=if l.length≠1 then 7 else if bj l≠⟨#[]⟩∧ox (bj l)=false then 8 else 0
def eH:List ByteArray:=[⟨#[105,114,118]⟩,⟨#[109,101,101,107]⟩,⟨#[103,114,101,103,111,114,121]⟩]
def iR:List ByteArray:=[⟨#[98,97,99,107,119,97,114,100,115]⟩,⟨#[102,111,114,119,97,114,100,115]⟩,⟨#[108,111,116]⟩]
def iT:List ByteArray:=[⟨#[115,116,111,112]⟩,⟨#[115,107,105,112]⟩]
def iS:List ByteArray:=[⟨#[99,108,111,115,101]⟩,⟨#[115,116,111,112]⟩,⟨#[116,119,111]⟩]
def fA (c:ae) (f:ar):ae×Int:=
 if f.key=aM then({ c with method:=iN f.vals eH },jA f.vals eH)
 else if f.key=bb then({ c with seats:=jh f.vals },jz f.vals 1 5)
 else if f.key=bM then({ c with ranks:=jh f.vals },jz f.vals 1 7)
 else if f.key=ay then({ c with digits:=jh f.vals },jz f.vals 1 6)
 else if f.key=cT then({ c with ties:=iN f.vals iR },jA f.vals iR)
 else if f.key=aP then({ c with over:=iN f.vals iT },jA f.vals iT)
 else if f.key=cU then({ c with skip:=iN f.vals iS },jA f.vals iS)
 else({ c with cands:=f.vals },db f.vals 7)
def aK (kind key:ByteArray):List UInt8:=kind.data.toList++32::key.data.toList
def dw (kind:ByteArray) (e:aa) (f:ar):aa×Int:=
 if aK kind f.key=aK aH cV then({ e with dots:=jh f.vals },jz f.vals 2 7)
 else if aK kind f.key=aK aH bi then({ e with blank:=jh f.vals },jz f.vals 1 100)
 else if aK kind f.key=aK aH aW then({ e with marked:=jh f.vals },jz f.vals 1 100)
 else if aK kind f.key=aK ak bQ then({ e with scan:=jh f.vals },jz f.vals 1 6)
 else if aK kind f.key=aK ak bR then({ e with batch:=jh f.vals },jz f.vals 1 16)
 else if aK kind f.key=aK af bP then({ e with prec:=f.vals },db f.vals 12)
 else if aK kind f.key=aK aJ bH then({ e with risk:=(d9 (bj f.vals).data.toList).2 },jI f.vals)
 else if aK kind f.key=aK aJ cz then({ e with seed:=bj f.vals },kX f.vals)
 else if aK kind f.key=aK aN dm then({ e with cell:=jh f.vals },jz f.vals 1 400)
 else(e,0)
structure fe where
 e:aa
 seen:List ByteArray
 lines:List (Int×Int)
 names:List (List ByteArray×List ByteArray)
 f:eE
def fe.note (t:fe) (no line:Int):fe:={ t with f:=t.f.note no line }
def i7 (kind:ByteArray):Bool:=decide (kind=ah)||decide (kind=aC)
def j6 (t:fe) (kind nm:ByteArray):Int:=
 if aD kind=[] then 2
 else if i7 kind=true∧nm=⟨#[]⟩ then 6
 else if i7 kind=true∧(ja nm.data.toList=false∨24<nm.size) then 8
 else if i7 kind=true∧((kind=ah∧(t.e.cont.any fun c=>decide (c.name=nm))=true)∨(kind=aC∧(t.e.styl.any fun c=>decide (c.name=nm))=true)) then 3
 else if(kind=ah∧4≤t.e.cont.length)∨(kind=aC∧6≤t.e.styl.length) then 7
 else if i7 kind=false∧nm≠⟨#[]⟩ then 2
 else if i7 kind=false∧bI t.seen kind=true then 3
 else 0
structure dc where
 e:aa
 f:eE
 known:List ByteArray
 c:ae
 n0:List ByteArray
 n1:List ByteArray
 l0:Int
 l1:Int
 digits:Int
 seats:Int
def ae.zero:ae:=⟨⟨#[]⟩,[],0,0,0,0,0,0,0⟩
def aV (kind:ByteArray) (x:dc) (f:ar):dc:=
 let f2:=(x.f.note (if bI (aD kind) f.key=true then 0 else 2) f.line).note (if bI x.known f.key=true then 3 else 0) f.line
 let y:={ x with f:=f2,known:=x.known++[f.key] }
 if f2.no≠0 then y
 else if kind=ah then
  { y with c:=(fA x.c f).1,f:=f2.note (fA x.c f).2 f.line,digits:=if f.key=ay then f.line else x.digits,seats:=if f.key=bb then f.line else x.seats }
 else if kind=aC∧f.key=af then { y with n0:=f.vals,l0:=f.line,f:=f2.note (db f.vals 12) f.line }
 else if kind=aC then { y with n1:=f.vals,l1:=f.line,f:=f2.note (db f.vals 4) f.line }
 else { y with e:=(dw kind x.e f).1,f:=f2.note (dw kind x.e f).2 f.line }
def dS (kind:ByteArray):List ar→dc→dc
 | [],x=>x
 | f::l,x=>if x.f.no≠0 then x else dS kind l (aV kind x f)
def gd (known:List ByteArray) (method line:Int):List ByteArray→eE→eE
 | [],f=>f
 | k::l,f=>if f.no≠0 then f else gd known method line l (f.note (if bI known k=true∨(k=ay∧method≠2) then 0 else 6) line)
def ug (t:fe) (x:aw) (y:dc):fe:=
 let f:=gd y.known y.c.method x.line (aD x.kind) y.f
 let s:={ t with e:=y.e,f:=f,seen:=t.seen++[x.kind] }
 if f.no≠0 then s
 else if x.kind=ah then
  { s with e:={ y.e with cont:=y.e.cont++[{ y.c with name:=x.name }] },f:=(f.note (if bI y.known ay=true∧y.c.method≠2 then 5 else 0) y.digits).note (if y.c.method=1∧1<y.c.seats then 4 else 0) y.seats }
 else if x.kind=aC then
  { s with e:={ y.e with styl:=y.e.styl++[⟨x.name,[],[]⟩] },names:=t.names++[(y.n0,y.n1)],lines:=t.lines++[(y.l0,y.l1)] }
 else if x.kind=aH∧y.e.marked<y.e.blank then s.note 4 x.line
 else s
def dc.start (t:fe) (x:aw):dc:=⟨t.e,t.f.note (j6 t x.kind x.name) x.line,[],ae.zero,[],[],0,0,0,0⟩
def gp (t:fe) (x:aw):fe:=ug t x (dS x.kind x.fields (dc.start t x))
def dh:List aw→fe→fe
 | [],t=>t
 | x::l,t=>if t.f.no≠0 then t else dh l (gp t x)
def qG (names:List ByteArray) (line:Int):List ByteArray→List Int→Except eE (List Int)
 | [],ew=>.ok ew
 | s::l,ew=>if Lib.idxOfS names s<0 then .error ⟨2,line⟩ else qG names line l (ew++[Lib.idxOfS names s])
def jC (prec conts:List ByteArray):List (List ByteArray×List ByteArray)→List (Int×Int)→List aj→List Bool→List aj→Except eE (List aj)
 | v::vs,ln::lns,s::ss,used,done=>
  match dG prec ln.1 v.1 used [] with
  | .error e=>.error e
  | .ok (oa,ps)=>
   match qG conts ln.2 v.2 [] with
   | .error e=>.error e
   | .ok cs=>jC prec conts vs lns ss oa (done++[⟨s.name,ps,cs⟩])
 | _,_,_,used,done=>if used.contains false then .error ⟨6,0⟩ else .ok done
def lm (t:fe):Except eE (List aj):=jC t.e.prec (t.e.cont.map (·.name)) t.names t.lines t.e.styl (List.replicate t.e.prec.length false) []
def fe.start (title:ByteArray):fe:=⟨{ aa.zero with title:=title },[],[],[],(⟨0,0⟩:eE).note (if 60<title.size∨fQ title.data.toList=false then 8 else 0) 0⟩
def i9:List ByteArray:=[aH,ak,af,ah,aC,aJ,aN]
def cJ (s:cI):fe:=
 let t:=dh s.blocks (fe.start s.title)
 { t with f:=i9.foldl (fun f k=>f.note (if bI t.seen k=true then 0 else 6) 0) t.f }
def gM (s:cI):aa×eE:=
 if(cJ s).f.no≠0 then(aa.zero,(cJ s).f)
 else match lm (cJ s) with
  | .error e=>(aa.zero,e)
  | .ok l=>({ (cJ s).e with styl:=l },⟨0,0⟩)
def EG (n:Int):ByteArray:=if n<0∨999999<n then⟨#[]⟩ else⟨(bJ n.toNat).toArray⟩
def pO (n:Int) (l:List ByteArray):ByteArray:=if n<1∨(l.length:Int)<n then⟨#[]⟩ else l.getD (n.toNat-1) ⟨#[]⟩
def ez (k:ByteArray) (n:Int):ar:=⟨k,[EG n],0⟩
def gg (k:ByteArray) (n:Int) (l:List ByteArray):ar:=⟨k,[pO n l],0⟩
def em (c:ae):aw:=
 ⟨ah,c.name,[gg aM c.method eH,ez bb c.seats,ez bM c.ranks]++(if c.method=2 then[ez ay c.digits] else[])++[gg cT c.ties iR,gg aP c.over iT,gg cU c.skip iS,⟨bY,c.cands,0⟩],0⟩
def eW (e:aa):cI:=
 ⟨e.title,[⟨aH,⟨#[]⟩,[ez cV e.dots,ez bi e.blank,ez aW e.marked],0⟩,⟨ak,⟨#[]⟩,[ez bQ e.scan,ez bR e.batch],0⟩,⟨af,⟨#[]⟩,[⟨bP,e.prec,0⟩],0⟩]
  ++e.cont.map em++e.styl.map (fw e.prec (e.cont.map (·.name)))
  ++[⟨aJ,⟨#[]⟩,[⟨bH,[⟨(iC e.risk.q).toArray⟩],0⟩,⟨cz,[e.seed],0⟩],0⟩,⟨aN,⟨#[]⟩,[ez dm e.cell],0⟩]⟩
def lH (e:aa):Bool:=
 decide (e.prec.length≤12)&&(decide (e.cont.length≤4)&&(decide (e.styl.length≤6)&&(decide (e.risk.num.length≤1)&&(decide (e.risk.den.length≤1)
  &&(e.cont.all (fun c=>decide (c.cands.length≤7))&&e.styl.all (fun s=>decide (s.prec.length≤12)&&decide (s.cont.length≤4)))))))
def Vh (a b:aa):Bool:=
 decide (a.title=b.title)&&(decide (a.dots=b.dots)&&(decide (a.blank=b.blank)&&(decide (a.marked=b.marked)&&(decide (a.scan=b.scan)&&(decide (a.batch=b.batch)&&(decide (a.cell=b.cell)&&(decide (a.seed=b.seed)
  &&(decide (a.risk.neg=b.risk.neg)&&(decide (a.risk.num=b.risk.num)&&(decide (a.risk.den=b.risk.den)&&(decide (a.prec=b.prec)&&(gU bc a.cont b.cont&&gU bw a.styl b.styl))))))))))))
def lD (e:aa):Bool:=lH e&&(decide ((gM (eW e)).2.no=0)&&Vh (gM (eW e)).1 e)
end Go.Proofs.YtdbpbfglhbiadaaGreatDoor
