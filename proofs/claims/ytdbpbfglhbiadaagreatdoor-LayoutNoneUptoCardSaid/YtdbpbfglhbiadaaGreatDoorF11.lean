/- Str Elec Smp1 Smp2 RefD -/
import Derived.Test.YtdbpbfglhbiadaaGreatDoorF01
import Derived.Laws.Rows
import Derived.Test.YtdbpbfglhbiadaaGreatDoorProg
set_option maxHeartbeats 8000000
set_option maxRecDepth 100000
namespace Go.Proofs.YtdbpbfglhbiadaaGreatDoor
open Go.RowKit
def SV {α:Type} [ay α] (w:World) (S:Nat->Prop) (v:Value) (x:α):Prop:=∃cs:List Value,v=.agg cs.toArray/\ay.rep w S cs x
section
variable {α:Type} [ay α] {w w':World} {S S':Nat->Prop} {v:Value} {x:α}
theorem SV.keep (h:SV w S v x) (hS:∀b,S b->S' b) (hk:aw S w w'):SV w' S' v x:=by
 obtain⟨cs,e,hr⟩:=h;exact⟨cs,e,ay.keep hr hS hk⟩
theorem SV.below {B:Nat} (h:SV w S v x) (hb:Below B w w') (hS:∀b,S b->b<B):SV w' S v x:=h.keep (λ_ h=>h) ((aw.of_below hb).sub hS)
theorem SV.drew (h:SV w S v x):SV w.drew S v x:=h.keep (λ_ h=>h) (λ_ _=>rfl)
end
def gI {α:Type} [ay α] (w:World) (x:α) (e:Ending) (w':World):Prop:=∃v,e=.returned v/\SV w' (bZ w w') v x/\Below w.heap.size w w'
theorem ji {B:Nat} {a w:World} {g:Nat} (h:Below B a w) (hg:B<=g):∀(l:List Value) (i:Nat),Below B a (setAll w g i l):=by
 intro l;induction l generalizing w with
 | nil=>intro i;exact h
 | cons v l ih=>intro i;exact ih (h.setCell (by simpa using hg) v) (i+1)
theorem aw.setAll {S:Nat->Prop} {w w1:World} {g:Nat} (h:aw S w w1) (hg:¬S g):∀(l:List Value) (i:Nat),aw S w (setAll w1 g i l):=by
 intro l;induction l generalizing w1 with
 | nil=>intro i;exact h
 | cons v l ih=>intro i;exact ih (h.setCell (p:=⟨g,i,none⟩) hg v) (i+1)
theorem jK {g:Nat}:∀(l:List Value) (i:Nat) (w:World),(setAll w g i l).heap.size=w.heap.size:=by
 intro l;induction l with
 | nil=>intro i w;rfl
 | cons v l ih=>intro i w;rw[Go.Proofs.YtdbpbfglhbiadaaGreatDoor.setAll,ih];simp
theorem Own.fresh {α:Type} [ay α] {w w':World} {base:Nat} {e:TypeId} {A:Option Addr} {n c:Nat} {xs:List α} (h:Own w' (λ_=>False) base e (.slice A n c) xs) (hb:w.heap.size<=base):RS w' (bZ w w') A n c xs:=
 h.rs (λ_ h=>h.elim) (λ_ h1 h2=>⟨Nat.le_trans hb h1,h2⟩)
theorem cO.facts3 {w:World} {g:Nat} {t:TypeId} {a b c:Value} (h:cO w g t #[a,b,c]):w.cell? ⟨g,0,none⟩=some a/\w.cell? ⟨g,1,none⟩=some b/\w.cell? ⟨g,2,none⟩=some c/\w.frozen? ⟨g,0,none⟩=false/\w.frozen? ⟨g,1,none⟩=false/\w.frozen? ⟨g,2,none⟩=false:=
 ⟨h.cell 0,h.cell 1,h.cell 2,h.frozen 0,h.frozen 1,h.frozen 2⟩
theorem fJ {α:Type} [ay α] {P:Program} {fn:Func} {p:Tmp} {ty t:TypeId} {d:TypeDesc} {w w2:World} {tmps:Array Value} {defers:List Deferred} {g:Nat} {uT:Array Value} {cs:List Value} {S:Nat->Prop} {x:α} {R:Ending->World->Prop} (h:fn.results=#[.cell p ty]) (hp:tmps.getD p undef=.pointer (some ⟨g,0,none⟩)) (hg:w.heap.size<=g) (hk:cO w2 g t uT) (hl:uT.size=cs.length) (hu:P.underlying ty=some d) (hd:(match d with|.struct _|.array _ _=>true|_=>false)=true) (hi:(P.info? ty).map (·.size)=some cs.length) (hr:ay.rep w2 S cs x) (hS:∀b,S b->bZ w w2 b/\b≠g) (hb:Below w.heap.size w w2) (hdf:defers=[]) (hR:gI w x (.returned (.agg cs.toArray)) (setAll w2 g 0 cs)->R (.returned (.agg cs.toArray)) (setAll w2 g 0 cs)) : bodyPost P fn R Exit.ret { tmps:=tmps,defers:=defers } (setAll w2 g 0 cs):=by
 refine bodyPost_ret (results_cell_row h _ _ g t cs.toArray (0,0) d hp (hk.setAll cs hl) hu hd (by simpa using hi)) hdf ?_;refine hR ⟨_,rfl,⟨cs,rfl,ay.keep hr (λb hb=>?_) ((aw.refl _ _).setAll (λh=>(hS g h).2 rfl) cs 0)⟩,ji hb hg cs 0⟩;have:=(hS b hb).1;exact⟨this.1,by rw[jK];exact this.2⟩
theorem rE {a b c:World} (h:a.heap.size<=b.heap.size):∀g,bZ b c g->bZ a c g:=λ_ hg=>⟨Nat.le_trans h hg.1,hg.2⟩
theorem uJ {a b c:World} (h:b.heap.size<=c.heap.size):∀g,bZ a b g->bZ a c g:=λ_ hg=>⟨hg.1,Nat.lt_of_lt_of_le hg.2 h⟩
theorem gI.undrew {α:Type} [ay α] {w:World} {x:α} {e:Ending} {w':World} (h:gI w.drew x e w'):gI w x e w':=by
 obtain⟨v,he,hs,hb⟩:=h;exact⟨v,he,hs,E5 hb⟩
theorem u3 {α:Type} [ay α] {P:Program} {f:FuncId} {args:Array Value} {w:World} {x:α} (h:Calls P f args w.drew (gI w.drew x)):Calls P f args w.drew (gI w x):=h.mono λ_ _ h=>h.undrew
theorem rH {α:Type} [ay α] {P:Program} {f:FuncId} {args:Array Value} {w:World} {x:α} (h:Calls P f args w.drew.drew (gI w.drew.drew x)):Calls P f args w.drew.drew (gI w x):=h.mono λ_ _ h=>h.undrew.undrew
theorem cO.farAll {w:World} {g g':Nat} {t:TypeId} {cs:Array Value} (h:cO w g t cs) (hg:g≠g'):∀(l:List Value) (i:Nat),cO (Go.Proofs.YtdbpbfglhbiadaaGreatDoor.setAll w g' i l) g t cs:=by
 intro l;induction l generalizing w with
 | nil=>intro i;exact h
 | cons v l ih=>intro i;exact ih (h.far (p:=⟨g',i,none⟩) hg v) (i+1)
def Up (W w':World):Prop:=Below W.heap.size W w'
theorem Up.out {W w':World} (h:Up W w'):Below W.heap.size W w':=h
theorem Up.start (W:World):Up W W.drew:=(Below.refl _ _).drew
theorem Up.more {W w1 w2:World} (h:Up W w1) (k:Below w1.heap.size w1 w2):Up W w2:=ak h k
structure aa where
 title:ByteArray
 dots:Int
 blank:Int
 marked:Int
 prec:List ByteArray
 cont:List ae
 styl:List ai
 scan:Int
 batch:Int
 risk:Raw
 cell:Int
 seed:ByteArray
def aa.zero:aa:=⟨⟨#[]⟩,0,0,0,[],[],[],0,0,⟨false,[],[]⟩,0,⟨#[]⟩⟩
def JF (e:aa) (vP vC vS vN vD:Value):List Value:=
 [.string e.title,.int .i64 e.dots,.int .i64 e.blank,.int .i64 e.marked,vP,vC,vS,.int .i64 e.scan,.int .i64 e.batch,.bool e.risk.neg,vN,vD,.int .i64 e.cell,.string e.seed]
instance:ay aa where
 sz:=14
 rep w S cs x:=∃A n c A2 n2 c2 A3 n3 c3 A4 n4 c4 A5 n5 c5,cs=JF x (.slice A n c) (.slice A2 n2 c2) (.slice A3 n3 c3) (.slice A4 n4 c4) (.slice A5 n5 c5)
  /\RS w S A n c x.prec/\RS w S A2 n2 c2 x.cont/\RS w S A3 n3 c3 x.styl/\RS w S A4 n4 c4 x.risk.num/\RS w S A5 n5 c5 x.risk.den
 len h:=by obtain⟨A,n,c,A2,n2,c2,A3,n3,c3,A4,n4,c4,A5,n5,c5,rfl,_⟩:=h;rfl
 keep h hS hk:=by
  obtain⟨A,n,c,A2,n2,c2,A3,n3,c3,A4,n4,c4,A5,n5,c5,rfl,h1,h2,h3,h4,h5⟩:=h;exact⟨A,n,c,A2,n2,c2,A3,n3,c3,A4,n4,c4,A5,n5,c5,rfl,h1.keep hS hk,h2.keep hS hk,h3.keep hS hk,h4.keep hS hk,h5.keep hS hk⟩
structure av where
 kind:ByteArray
 name:ByteArray
 fields:List ao
 line:Int
instance:ay av where
 sz:=4
 rep w S cs x:=∃A n c,cs=[.string x.kind,.string x.name,.slice A n c,.int .i64 x.line]/\RS w S A n c x.fields
 len h:=by obtain⟨A,n,c,rfl,_⟩:=h;rfl
 keep h hS hk:=by
  obtain⟨A,n,c,rfl,h1⟩:=h;exact⟨A,n,c,rfl,h1.keep hS hk⟩
structure bP where
 title:ByteArray
 blocks:List av
instance:ay bP where
 sz:=2
 rep w S cs x:=∃A n c,cs=[.string x.title,.slice A n c]/\RS w S A n c x.blocks
 len h:=by obtain⟨A,n,c,rfl,_⟩:=h;rfl
 keep h hS hk:=by
  obtain⟨A,n,c,rfl,h1⟩:=h;exact⟨A,n,c,rfl,h1.keep hS hk⟩
structure cm where
 e:aa
 names:ByteArray->Option (List ByteArray)
 vals:List aF
def cm.of (b:cm) (k:ByteArray):List ByteArray:=(b.names k).getD []
def aO:ByteArray:=⟨#[115,99,97,110,110,101,114,115]⟩
def af:ByteArray:=⟨#[112,114,101,99,105,110,99,116,115]⟩
def aA:ByteArray:=⟨#[115,116,121,108,101]⟩
def bG:ByteArray:=⟨#[97,117,100,105,116]⟩
def bo:ByteArray:=⟨#[112,114,105,118,97,99,121]⟩
def il:ByteArray:=⟨#[100,111,116,115]⟩
def fq:ByteArray:=⟨#[99,111,117,110,116]⟩
def fu:ByteArray:=⟨#[98,97,116,99,104]⟩
def ed:ByteArray:=⟨#[110,97,109,101,115]⟩
def ft:ByteArray:=⟨#[99,97,110,100,105,100,97,116,101,115]⟩
def gg:ByteArray:=⟨#[114,97,110,107,115]⟩
def gV:ByteArray:=⟨#[116,105,101,115]⟩
def bV:ByteArray:=⟨#[111,118,101,114,118,111,116,101]⟩
def gW:ByteArray:=⟨#[115,107,105,112]⟩
def im:ByteArray:=⟨#[99,101,108,108]⟩
def ax:ByteArray:=⟨#[99,111,110,116,101,115,116,115]⟩
def aF.s (v:aF) (k:ByteArray):List ByteArray:=(v.lst k).getD []
def dC (nm:ByteArray) (v:aF):ae:=⟨nm,v.s ft,v.n be,v.n bz,v.n gg,v.n aC,v.n gV,v.n bV,v.n gW⟩
def aV (kind nm:ByteArray) (v:aF) (b:cm):cm:=
 if kind=bR then { b with e:={ b.e with dots:=v.n il,blank:=v.n ct,marked:=v.n bF } }
 else if kind=aO then { b with e:={ b.e with scan:=v.n fq,batch:=v.n fu } }
 else if kind=af then { b with e:={ b.e with prec:=v.s ed } }
 else if kind=aj then { b with e:={ b.e with cont:=b.e.cont++[dC nm v] } }
 else if kind=aA then { b with e:={ b.e with styl:=b.e.styl++[⟨nm,[],[]⟩] },vals:=b.vals++[v] }
 else if kind=bG then { b with e:={ b.e with risk:=v.risk,seed:=v.seed } }
 else if kind=bo then { b with e:={ b.e with cell:=v.n im } }
 else b
def dM (kind:ByteArray):List ao->aF->dH×aF
 | [],v=>(⟨0,0⟩,v)
 | f::l,v=>if(bN kind f v).1≠0 then(⟨(bN kind f v).1,f.line⟩,(bN kind f v).2) else dM kind l (bN kind f v).2
def cm.named (b:cm) (kind nm:ByteArray):cm:={ b with names:=setF b.names kind (b.of kind++[nm]) }
def fw (x:av) (b:cm):dH×cm:=
 if eR x.kind x.name (b.of x.kind)≠0 then(⟨eR x.kind x.name (b.of x.kind),x.line⟩,b)
 else if(dM x.kind x.fields aF.zero).1.no≠0 then((dM x.kind x.fields aF.zero).1,b.named x.kind x.name)
 else if(dS x.kind x.line (dM x.kind x.fields aF.zero).2).no≠0 then(dS x.kind x.line (dM x.kind x.fields aF.zero).2,b.named x.kind x.name)
 else(⟨0,0⟩,aV x.kind x.name (dM x.kind x.fields aF.zero).2 (b.named x.kind x.name))
def ck:List av->cm->dH×cm
 | [],b=>(⟨0,0⟩,b)
 | x::l,b=>if(fw x b).1.no≠0 then fw x b else ck l (fw x b).2
def cM (prec:List ByteArray) (line:Int):List ByteArray->List Bool->List Int->Except dH (List Bool×List Int)
 | [],used,dy=>.ok (used,dy)
 | s::l,used,dy=>
  if Lib.idxOfS prec s<0 then .error ⟨2,line⟩
  else if used.getD (Lib.idxOfS prec s).toNat false=true then .error ⟨3,line⟩
  else cM prec line l (used.set (Lib.idxOfS prec s).toNat true) (dy++[Lib.idxOfS prec s])
def bf (nm:ByteArray):List ae->Nat->Int
 | [],_=>-1
 | c::l,i=>if c.name=nm then(i:Int) else bf nm l (i+1)
def dl (cont:List ae) (line:Int):List ByteArray->List Int->Except dH (List Int)
 | [],dy=>.ok dy
 | s::l,dy=>if bf s cont 0<0 then .error ⟨2,line⟩ else dl cont line l (dy++[bf s cont 0])
def dN (prec:List ByteArray) (cont:List ae):List aF->List ai->List Bool->List ai->Except dH (List ai)
 | v::vs,s::ss,used,done=>
  match cM prec (v.l af) (v.s af) used [] with
  | .error e=>.error e
  | .ok (lX,ps)=>
   match dl cont (v.l ax) (v.s ax) [] with
   | .error e=>.error e
   | .ok cs=>dN prec cont vs ss lX (done++[⟨s.name,ps,cs⟩])
 | _,_,used,done=>if used.contains false then .error ⟨6,0⟩ else .ok done
def nM (b:cm):Except dH (List ai):=dN b.e.prec b.e.cont b.vals b.e.styl (List.replicate b.e.prec.length false) []
def cm.start (title:ByteArray):cm:=⟨{ aa.zero with title:=title },λ_=>none,[]⟩
def bY (s:bP):aa×dH:=
 if cU s.title 0 60=false then(aa.zero,⟨8,0⟩)
 else if(ck s.blocks (cm.start s.title)).1.no≠0 then(aa.zero,(ck s.blocks (cm.start s.title)).1)
 else if dU.any (λk=>decide ((ck s.blocks (cm.start s.title)).2.of k=[])) then(aa.zero,⟨6,0⟩)
 else match nM (ck s.blocks (cm.start s.title)).2 with
  | .error e=>(aa.zero,e)
  | .ok l=>({ (ck s.blocks (cm.start s.title)).2.e with styl:=l },⟨0,0⟩)
def fM (k:ByteArray) (n:Int):ao:=⟨k,[o9 n],0⟩
def iS (k:ByteArray) (n:Int):ao:=⟨k,[iF k n],0⟩
def eu (c:ae):av:=
 ⟨aj,c.name,[iS be c.method,fM bz c.seats,fM gg c.ranks]++(if c.method=2 then[fM aC c.digits] else[])++[iS gV c.ties,iS bV c.over,iS gW c.skip,⟨ft,c.cands,0⟩],0⟩
def eG (prec conts:List ByteArray) (s:ai):av:=⟨aA,s.name,[⟨af,cV s.prec prec,0⟩,⟨ax,cV s.cont conts,0⟩],0⟩
def dY (e:aa):bP:=
 ⟨e.title,[⟨bR,⟨#[]⟩,[fM il e.dots,fM ct e.blank,fM bF e.marked],0⟩,⟨aO,⟨#[]⟩,[fM fq e.scan,fM fu e.batch],0⟩,⟨af,⟨#[]⟩,[⟨ed,e.prec,0⟩],0⟩]
  ++e.cont.map eu++e.styl.map (eG e.prec (e.cont.map (·.name)))
  ++[⟨bG,⟨#[]⟩,[⟨dP,[⟨(gD e.risk.q).toArray⟩],0⟩,⟨gm,[e.seed],0⟩],0⟩,⟨bo,⟨#[]⟩,[fM im e.cell],0⟩]⟩
def fY {α:Type} (f:α->α->Bool):List α->List α->Bool
 | [],[]=>true
 | x::l,y::m=>f x y&&fY f l m
 | _,_=>false
def jz (a b:aa):Bool:=
 decide (a.title=b.title)&&(decide (a.dots=b.dots)&&(decide (a.blank=b.blank)&&(decide (a.marked=b.marked)&&(decide (a.prec=b.prec)&&(fY aK a.cont b.cont&&(fY aZ a.styl b.styl
  &&(decide (a.scan=b.scan)&&(decide (a.batch=b.batch)&&(decide (mG a.risk.q b.risk.flip.q=0)&&(decide (a.cell=b.cell)&&decide (a.seed=b.seed)))))))))))
def fp (e:aa):Bool:=decide ((bY (dY e)).2.no=0)&&(e.risk.valid&&jz (bY (dY e)).1 e)
def dh:aa:=⟨⟨#[]⟩,2,20,50,[⟨#[97]⟩,⟨#[98]⟩],[⟨⟨#[109]⟩,[⟨#[120]⟩,⟨#[121]⟩,⟨#[122]⟩],1,1,3,0,3,1,1⟩],[⟨⟨#[115]⟩,[0,1],[0]⟩],1,4,⟨false,[1#32],[20#32]⟩,2,⟨#[]⟩⟩
theorem t1:(gD dh.risk.q)=[49,47,50,48]:=by kernel_rfl
theorem t2:o9 20=⟨#[50,48]⟩:=by kernel_rfl
theorem t3:fp dh=true:=by kernel_rfl
theorem lz {n:Nat}:∀(os:List Obj) (w:World),n<=w.heap.size->Below n w (os.foldl World.alloc w)
 | [],w,_=>Below.refl _ _
 | o::os,w,h=>((Below.refl _ _).alloc h _).trans (lz os (w.alloc o) (by simp;omega))
theorem oE:∀(os:List Obj) (w:World) (i:Nat) {t:TypeId} {cs:Array Value},os[i]?=some (.cells cs t)->cO (os.foldl World.alloc w) (w.heap.size+i) t cs
 | [],_,_,_,_,h=>by simp at h
 | o::os,w,0,t,cs,h=>by
  obtain rfl:o=.cells cs t:=by simpa using h
  exact(cO.new w t cs).keep (lz os _ (Nat.le_refl _))
 | o::os,w,i+1,t,cs,h=>by
  have:=oE os (w.alloc o) i (by simpa using h);have e:(w.alloc o).heap.size+i=w.heap.size+(i+1):=by simp;omega
  rwa [e] at this
def si (g:Nat) (T0 T1 T2 T3 T4 T5 T6 T7 T8:TypeId):List Obj:=
 [.cells #[.string ⟨#[]⟩,.int .i64 2,.int .i64 20,.int .i64 50,.slice (some ⟨g+1,0,none⟩) 2 2,.slice (some ⟨g+3,0,none⟩) 1 1,.slice (some ⟨g+6,0,none⟩) 1 1,.int .i64 1,.int .i64 4,.bool false,.slice (some ⟨g+7,0,none⟩) 1 1,.slice (some ⟨g+8,0,none⟩) 1 1,.int .i64 2,.string ⟨#[]⟩] T0, .cells #[.string ⟨#[97]⟩,.string ⟨#[98]⟩] T1,.cells #[.string ⟨#[120]⟩,.string ⟨#[121]⟩,.string ⟨#[122]⟩] T2, .cells #[.string ⟨#[109]⟩,.slice (some ⟨g+2,0,none⟩) 3 3,.int .i64 1,.int .i64 1,.int .i64 3,.int .i64 0,.int .i64 3,.int .i64 1,.int .i64 1] T3, .cells #[.int .i64 0,.int .i64 1] T4,.cells #[.int .i64 0] T5,.cells #[.string ⟨#[115]⟩,.slice (some ⟨g+4,0,none⟩) 2 2,.slice (some ⟨g+5,0,none⟩) 1 1] T6,.cells #[.int .u32 1] T7,.cells #[.int .u32 20] T8]
theorem Qx {w W:World} {T0 T1 T2 T3 T4 T5 T6 T7 T8:TypeId} (hW:(si w.heap.size T0 T1 T2 T3 T4 T5 T6 T7 T8).foldl World.alloc w=W) : ay.rep W (bZ w W) [.string ⟨#[]⟩,.int .i64 2,.int .i64 20,.int .i64 50,.slice (some ⟨w.heap.size+1,0,none⟩) 2 2,.slice (some ⟨w.heap.size+3,0,none⟩) 1 1,.slice (some ⟨w.heap.size+6,0,none⟩) 1 1,.int .i64 1,.int .i64 4,.bool false,.slice (some ⟨w.heap.size+7,0,none⟩) 1 1,.slice (some ⟨w.heap.size+8,0,none⟩) 1 1,.int .i64 2,.string ⟨#[]⟩] dh:=by
 have hb:∀(i:Nat) {t:TypeId} {cs:Array Value},(si w.heap.size T0 T1 T2 T3 T4 T5 T6 T7 T8)[i]?=some (.cells cs t)->cO W (w.heap.size+i) t cs:=λi t cs h=>hW▸oE _ w i h;have hf:∀{g:Nat} {t:TypeId} {cs:Array Value},w.heap.size<=g->cO W g t cs->bZ w W g:=λh hk=>⟨h,hk.lt⟩;have b1:=hb 1 rfl;have b2:=hb 2 rfl;have b3:=hb 3 rfl;have b4:=hb 4 rfl;have b5:=hb 5 rfl;have b6:=hb 6 rfl;have b7:=hb 7 rfl;have b8:=hb 8 rfl;have m:∀k:Nat,k<=3->k<=maxLen:=λk h=>by unfold maxLen;omega
 have r1:RS W (bZ w W) (some ⟨w.heap.size+1,0,none⟩) 2 2 [(⟨#[97]⟩:ByteArray),⟨#[98]⟩]:=RS.of_blk b1 (Flat.cons (ds:=[_]) rfl (Flat.cons (ds:=[_]) rfl Flat.nil)) rfl (Nat.le_refl _) (m 2 (by omega)) (hf (by omega) b1);have r2:RS W (bZ w W) (some ⟨w.heap.size+2,0,none⟩) 3 3 [(⟨#[120]⟩:ByteArray),⟨#[121]⟩,⟨#[122]⟩]:=RS.of_blk b2 (Flat.cons (ds:=[_]) rfl (Flat.cons (ds:=[_]) rfl (Flat.cons (ds:=[_]) rfl Flat.nil))) rfl (Nat.le_refl _) (m 3 (by omega)) (hf (by omega) b2);have r4:RS W (bZ w W) (some ⟨w.heap.size+4,0,none⟩) 2 2 [(0:Int),1]:=RS.of_blk b4 (Flat.cons (ds:=[_]) rfl (Flat.cons (ds:=[_]) rfl Flat.nil)) rfl (Nat.le_refl _) (m 2 (by omega)) (hf (by omega) b4);have r5:RS W (bZ w W) (some ⟨w.heap.size+5,0,none⟩) 1 1 [(0:Int)]:=RS.of_blk b5 (Flat.cons (ds:=[_]) rfl Flat.nil) rfl (Nat.le_refl _) (m 1 (by omega)) (hf (by omega) b5);have r7:RS W (bZ w W) (some ⟨w.heap.size+7,0,none⟩) 1 1 [1#32]:=RS.of_blk b7 (Flat.cons (ds:=[_]) rfl Flat.nil) rfl (Nat.le_refl _) (m 1 (by omega)) (hf (by omega) b7);have r8:RS W (bZ w W) (some ⟨w.heap.size+8,0,none⟩) 1 1 [20#32]:=RS.of_blk b8 (Flat.cons (ds:=[_]) rfl Flat.nil) rfl (Nat.le_refl _) (m 1 (by omega)) (hf (by omega) b8);have r3:RS W (bZ w W) (some ⟨w.heap.size+3,0,none⟩) 1 1 dh.cont:=RS.of_blk b3 (Flat.cons (ds:=[_,_,_,_,_,_,_,_,_]) ⟨_,_,_,rfl,r2⟩ Flat.nil) rfl (Nat.le_refl _) (m 1 (by omega)) (hf (by omega) b3);have r6:RS W (bZ w W) (some ⟨w.heap.size+6,0,none⟩) 1 1 dh.styl:=RS.of_blk b6 (Flat.cons (ds:=[_,_,_]) ⟨_,_,_,_,_,_,rfl,r4,r5⟩ Flat.nil) rfl (Nat.le_refl _) (m 1 (by omega)) (hf (by omega) b6);exact⟨_,_,_,_,_,_,_,_,_,_,_,_,_,_,_,rfl,r1,r3,r6,r7,r8⟩
theorem Iu {w:World}:Calls Tryz.prog 66 #[] w (gI w dh):=by
 go_enter Tryz.func66,Tryz.ntmps66;go_wp2_with fail;refine bodyPost_ret (results_cell_row rfl _ _ w.heap.size _ _ (0,0) _ rfl (oE (si w.heap.size _ _ _ _ _ _ _ _ _) w 0 rfl) Tryz.underlying30 rfl (by kernel_rfl)) rfl ?_;exact⟨_,rfl,⟨_,rfl,Qx rfl⟩,lz (si w.heap.size _ _ _ _ _ _ _ _ _) w (Nat.le_refl _)⟩
def cW (l:List ByteArray) (s:ByteArray):Bool:=decide (0<=Lib.idxOfS l s)
def dH.note (f:dH) (no line:Int):dH:=if f.no=0/\no≠0 then⟨no,line⟩ else f
def mj (s:ByteArray):Bool:=decide (1<=(s.size:Int))&&(decide ((s.size:Int)<=24)&&eW s.data.toList)
def ju (l:List UInt8):Bool:=l.all digitB&&(decide (1<=l.length)&&(decide (l.length<=6)&&(decide (l.length=1)||!(l.head?==some 48))))
def cK (n:Int) (c:UInt8):Int:=10*n+(c.toNat:Int)-48
def cP (l:List UInt8):Int×Bool:=((l.take 6).foldl cK 0,ju l)
def gX (l:List UInt8):Bool:=decide (l≠[])&&(((l.head?.map fB).getD false)&&decide ((l.takeWhile gC).length=l.length))
def bc (l:List ByteArray):ByteArray:=if l.length≠1 then⟨#[]⟩ else l.getD 0 ⟨#[]⟩
def cT (l:List ByteArray):Int:=if l.length≠1 then 7 else 0
def kV (l:List ByteArray):Int:=(cP (bc l).data.toList).1
def pX (l:List ByteArray) (low high:Int):Int:=
 if l.length≠1 then 7 else if(cP (bc l).data.toList).2=false then 5 else if kV l<low\/high<kV l then 4 else 0
def jG (l words:List ByteArray):Int:=Lib.idxOfS words (bc l)+1
def oD (l words:List ByteArray):Int:=if l.length≠1 then 7 else if Lib.idxOfS words (bc l)<0 then 2 else 0
def dK (l:List UInt8):Int×Raw:=
 if ij l=false\/((cP (dn l)).2&&(cP (cY l)).2)=false then(5,⟨false,[],[]⟩)
 else if(cP (cY l)).1=0\/1000*(cP (dn l)).1<(cP (cY l)).1\/(cP (cY l)).1<2*(cP (dn l)).1 then(4,⟨false,[],[]⟩)
 else(0,(dE false (cP (dn l)).1.toNat (cP (cY l)).1.toNat).raw)
def jM (l:List ByteArray):Int:=if l.length≠1 then 7 else(dK (bc l).data.toList).1
def ma (l:List ByteArray):Int:=if l.length≠1 then 7 else if bc l≠⟨#[]⟩/\mj (bc l)=false then 8 else 0
def fR:List ByteArray:=[⟨#[105,114,118]⟩,⟨#[109,101,101,107]⟩,⟨#[103,114,101,103,111,114,121]⟩]
def kq:List ByteArray:=[⟨#[98,97,99,107,119,97,114,100,115]⟩,⟨#[102,111,114,119,97,114,100,115]⟩,⟨#[108,111,116]⟩]
def ku:List ByteArray:=[⟨#[115,116,111,112]⟩,⟨#[115,107,105,112]⟩]
def kr:List ByteArray:=[⟨#[99,108,111,115,101]⟩,⟨#[115,116,111,112]⟩,⟨#[116,119,111]⟩]
def j0 (c:ae) (f:ao):ae×Int:=
 if f.key=be then({ c with method:=jG f.vals fR },oD f.vals fR)
 else if f.key=bz then({ c with seats:=kV f.vals },pX f.vals 1 5)
 else if f.key=gg then({ c with ranks:=kV f.vals },pX f.vals 1 7)
 else if f.key=aC then({ c with digits:=kV f.vals },pX f.vals 1 6)
 else if f.key=gV then({ c with ties:=jG f.vals kq },oD f.vals kq)
 else if f.key=bV then({ c with over:=jG f.vals ku },oD f.vals ku)
 else if f.key=gW then({ c with skip:=jG f.vals kr },oD f.vals kr)
 else({ c with cands:=f.vals },dc f.vals 7)
def cw (kind key:ByteArray):List UInt8:=kind.data.toList++32::key.data.toList
def gA (kind:ByteArray) (e:aa) (f:ao):aa×Int:=
 if cw kind f.key=cw bR il then({ e with dots:=kV f.vals },pX f.vals 2 7)
 else if cw kind f.key=cw bR ct then({ e with blank:=kV f.vals },pX f.vals 1 100)
 else if cw kind f.key=cw bR bF then({ e with marked:=kV f.vals },pX f.vals 1 100)
 else if cw kind f.key=cw aO fq then({ e with scan:=kV f.vals },pX f.vals 1 6)
 else if cw kind f.key=cw aO fu then({ e with batch:=kV f.vals },pX f.vals 1 16)
 else if cw kind f.key=cw af ed then({ e with prec:=f.vals },dc f.vals 12)
 else if cw kind f.key=cw bG dP then({ e with risk:=(dK (bc f.vals).data.toList).2 },jM f.vals)
 else if cw kind f.key=cw bG gm then({ e with seed:=bc f.vals },ma f.vals)
 else if cw kind f.key=cw bo im then({ e with cell:=kV f.vals },pX f.vals 1 400)
 else(e,0)
structure eh where
 e:aa
 seen:List ByteArray
 lines:List (Int×Int)
 names:List (List ByteArray×List ByteArray)
 f:dH
def eh.note (t:eh) (no line:Int):eh:={ t with f:=t.f.note no line }
def gT (kind:ByteArray):Bool:=decide (kind=aj)||decide (kind=aA)
def iX (t:eh) (kind nm:ByteArray):Int:=
 if aJ kind=[] then 2
 else if gT kind=true/\nm=⟨#[]⟩ then 6
 else if gT kind=true/\(gX nm.data.toList=false\/24<nm.size) then 8
 else if gT kind=true/\((kind=aj/\(t.e.cont.any λc=>decide (c.name=nm))=true)\/(kind=aA/\(t.e.styl.any λc=>decide (c.name=nm))=true)) then 3
 else if(kind=aj/\4<=t.e.cont.length)\/(kind=aA/\6<=t.e.styl.length) then 7
 else if gT kind=false/\nm≠⟨#[]⟩ then 2
 else if gT kind=false/\cW t.seen kind=true then 3
 else 0
structure dT where
 e:aa
 f:dH
 known:List ByteArray
 c:ae
 n0:List ByteArray
 n1:List ByteArray
 l0:Int
 l1:Int
 digits:Int
 seats:Int
def ae.zero:ae:=⟨⟨#[]⟩,[],0,0,0,0,0,0,0⟩
def eA (kind:ByteArray) (x:dT) (f:ao):dT:=
 let f2:=(x.f.note (if cW (aJ kind) f.key=true then 0 else 2) f.line).note (if cW x.known f.key=true then 3 else 0) f.line
 let y:={ x with f:=f2,known:=x.known++[f.key] }
 if f2.no≠0 then y
 else if kind=aj then
  { y with c:=(j0 x.c f).1,f:=f2.note (j0 x.c f).2 f.line,digits:=if f.key=aC then f.line else x.digits,seats:=if f.key=bz then f.line else x.seats }
 else if kind=aA/\f.key=af then { y with n0:=f.vals,l0:=f.line,f:=f2.note (dc f.vals 12) f.line }
 else if kind=aA then { y with n1:=f.vals,l1:=f.line,f:=f2.note (dc f.vals 4) f.line }
 else { y with e:=(gA kind x.e f).1,f:=f2.note (gA kind x.e f).2 f.line }
def da (kind:ByteArray):List ao->dT->dT
 | [],x=>x
 | f::l,x=>if x.f.no≠0 then x else da kind l (eA kind x f)
def fh (known:List ByteArray) (method line:Int):List ByteArray->dH->dH
 | [],f=>f
 | k::l,f=>if f.no≠0 then f else fh known method line l (f.note (if cW known k=true\/(k=aC/\method≠2) then 0 else 6) line)
def qM (t:eh) (x:av) (y:dT):eh:=
 let f:=fh y.known y.c.method x.line (aJ x.kind) y.f
 let s:={ t with e:=y.e,f:=f,seen:=t.seen++[x.kind] }
 if f.no≠0 then s
 else if x.kind=aj then
  { s with e:={ y.e with cont:=y.e.cont++[{ y.c with name:=x.name }] },f:=(f.note (if cW y.known aC=true/\y.c.method≠2 then 5 else 0) y.digits).note (if y.c.method=1/\1<y.c.seats then 4 else 0) y.seats }
 else if x.kind=aA then
  { s with e:={ y.e with styl:=y.e.styl++[⟨x.name,[],[]⟩] },names:=t.names++[(y.n0,y.n1)],lines:=t.lines++[(y.l0,y.l1)] }
 else if x.kind=bR/\y.e.marked<y.e.blank then s.note 4 x.line
 else s
def dT.start (t:eh) (x:av):dT:=⟨t.e,t.f.note (iX t x.kind x.name) x.line,[],ae.zero,[],[],0,0,0,0⟩
def fv (t:eh) (x:av):eh:=qM t x (da x.kind x.fields (dT.start t x))
def cj:List av->eh->eh
 | [],t=>t
 | x::l,t=>if t.f.no≠0 then t else cj l (fv t x)
def oq (names:List ByteArray) (line:Int):List ByteArray->List Int->Except dH (List Int)
 | [],dy=>.ok dy
 | s::l,dy=>if Lib.idxOfS names s<0 then .error ⟨2,line⟩ else oq names line l (dy++[Lib.idxOfS names s])
def iD (prec conts:List ByteArray):List (List ByteArray×List ByteArray)->List (Int×Int)->List ai->List Bool->List ai->Except dH (List ai)
 | v::vs,ln::lns,s::ss,used,done=>
  match cM prec ln.1 v.1 used [] with
  | .error e=>.error e
  | .ok (lX,ps)=>
   match oq conts ln.2 v.2 [] with
   | .error e=>.error e
   | .ok cs=>iD prec conts vs lns ss lX (done++[⟨s.name,ps,cs⟩])
 | _,_,_,used,done=>if used.contains false then .error ⟨6,0⟩ else .ok done
def jP (t:eh):Except dH (List ai):=iD t.e.prec (t.e.cont.map (·.name)) t.names t.lines t.e.styl (List.replicate t.e.prec.length false) []
def eh.start (title:ByteArray):eh:=⟨{ aa.zero with title:=title },[],[],[],(⟨0,0⟩:dH).note (if 60<title.size\/eW title.data.toList=false then 8 else 0) 0⟩
def gU:List ByteArray:=[bR,aO,af,aj,aA,bG,bo]
def bQ (s:bP):eh:=
 let t:=cj s.blocks (eh.start s.title)
 { t with f:=gU.foldl (λf k=>f.note (if cW t.seen k=true then 0 else 6) 0) t.f }
def fO (s:bP):aa×dH:=
 if(bQ s).f.no≠0 then(aa.zero,(bQ s).f)
 else match jP (bQ s) with
  | .error e=>(aa.zero,e)
  | .ok l=>({ (bQ s).e with styl:=l },⟨0,0⟩)
def BR (n:Int):ByteArray:=if n<0\/999999<n then⟨#[]⟩ else⟨(bj n.toNat).toArray⟩
def nJ (n:Int) (l:List ByteArray):ByteArray:=if n<1\/(l.length:Int)<n then⟨#[]⟩ else l.getD (n.toNat-1) ⟨#[]⟩
def dB (k:ByteArray) (n:Int):ao:=⟨k,[BR n],0⟩
def fj (k:ByteArray) (n:Int) (l:List ByteArray):ao:=⟨k,[nJ n l],0⟩
def dp (c:ae):av:=
 ⟨aj,c.name,[fj be c.method fR,dB bz c.seats,dB gg c.ranks]++(if c.method=2 then[dB aC c.digits] else[])++[fj gV c.ties kq,fj bV c.over ku,fj gW c.skip kr,⟨ft,c.cands,0⟩],0⟩
def dX (e:aa):bP:=
 ⟨e.title,[⟨bR,⟨#[]⟩,[dB il e.dots,dB ct e.blank,dB bF e.marked],0⟩,⟨aO,⟨#[]⟩,[dB fq e.scan,dB fu e.batch],0⟩,⟨af,⟨#[]⟩,[⟨ed,e.prec,0⟩],0⟩]
  ++e.cont.map dp++e.styl.map (eG e.prec (e.cont.map (·.name)))
  ++[⟨bG,⟨#[]⟩,[⟨dP,[⟨(gD e.risk.q).toArray⟩],0⟩,⟨gm,[e.seed],0⟩],0⟩,⟨bo,⟨#[]⟩,[dB im e.cell],0⟩]⟩
def j6 (e:aa):Bool:=
 decide (e.prec.length<=12)&&(decide (e.cont.length<=4)&&(decide (e.styl.length<=6)&&(decide (e.risk.num.length<=1)&&(decide (e.risk.den.length<=1)
  &&(e.cont.all (λc=>decide (c.cands.length<=7))&&e.styl.all (λs=>decide (s.prec.length<=12)&&decide (s.cont.length<=4)))))))
def SL (a b:aa):Bool:=
 decide (a.title=b.title)&&(decide (a.dots=b.dots)&&(decide (a.blank=b.blank)&&(decide (a.marked=b.marked)&&(decide (a.scan=b.scan)&&(decide (a.batch=b.batch)&&(decide (a.cell=b.cell)&&(decide (a.seed=b.seed)
  &&(decide (a.risk.neg=b.risk.neg)&&(decide (a.risk.num=b.risk.num)&&(decide (a.risk.den=b.risk.den)&&(decide (a.prec=b.prec)&&(fY aK a.cont b.cont&&fY aZ a.styl b.styl))))))))))))
def j2 (e:aa):Bool:=j6 e&&(decide ((fO (dX e)).2.no=0)&&SL (fO (dX e)).1 e)
end Go.Proofs.YtdbpbfglhbiadaaGreatDoor
