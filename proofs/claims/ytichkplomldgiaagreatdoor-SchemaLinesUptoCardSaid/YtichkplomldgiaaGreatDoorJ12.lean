/- Str -/
import Derived.Test.YtichkplomldgiaaGreatDoorJ01
import Derived.Laws.Rows
set_option maxHeartbeats 4000000
set_option maxRecDepth 100000
namespace Go.Proofs.YtichkplomldgiaaGreatDoor
open Go.RowKit
def SV {α:Type} [ak α] (w:World) (S:Nat->Prop) (v:Value) (x:α):Prop:=∃cs:List Value,v=.agg cs.toArray/\ak.rep w S cs x
section
variable {α:Type} [ak α] {w w':World} {S S':Nat->Prop} {v:Value} {x:α}
theorem SV.keep (h:SV w S v x) (hS:∀b,S b->S' b) (hk:af S w w'):SV w' S' v x:=by
 obtain⟨cs,e,hr⟩:=h;exact⟨cs,e,ak.keep hr hS hk⟩
theorem SV.below {B:Nat} (h:SV w S v x) (hb:Below B w w') (hS:∀b,S b->b<B):SV w' S v x:=h.keep (λ_ h=>h) ((af.of_below hb).sub hS)
theorem SV.drew (h:SV w S v x):SV w.drew S v x:=h.keep (λ_ h=>h) (λ_ _=>rfl)
end
def em {α:Type} [ak α] (w:World) (x:α) (e:Ending) (w':World):Prop:=∃v,e=.returned v/\SV w' (cm w w') v x/\Below w.heap.size w w'
theorem fk {B:Nat} {a w:World} {g:Nat} (h:Below B a w) (hg:B<=g):∀(l:List Value) (i:Nat),Below B a (setAll w g i l):=by
 intro l;induction l generalizing w with
 | nil=>intro i;exact h
 | cons v l ih=>intro i;exact ih (h.setCell (by simpa using hg) v) (i+1)
theorem af.setAll {S:Nat->Prop} {w w1:World} {g:Nat} (h:af S w w1) (hg:¬S g):∀(l:List Value) (i:Nat),af S w (setAll w1 g i l):=by
 intro l;induction l generalizing w1 with
 | nil=>intro i;exact h
 | cons v l ih=>intro i;exact ih (h.setCell (p:=⟨g,i,none⟩) hg v) (i+1)
theorem fO {g:Nat}:∀(l:List Value) (i:Nat) (w:World),(setAll w g i l).heap.size=w.heap.size:=by
 intro l;induction l with
 | nil=>intro i w;rfl
 | cons v l ih=>intro i w;rw[Go.Proofs.YtichkplomldgiaaGreatDoor.setAll,ih];simp
theorem Own.fresh {α:Type} [ak α] {w w':World} {base:Nat} {e:TypeId} {A:Option Addr} {n c:Nat} {xs:List α} (h:Own w' (λ_=>False) base e (.slice A n c) xs) (hb:w.heap.size<=base):RS w' (cm w w') A n c xs:=
 h.rs (λ_ h=>h.elim) (λ_ h1 h2=>⟨Nat.le_trans hb h1,h2⟩)
theorem bS.facts3 {w:World} {g:Nat} {t:TypeId} {a b c:Value} (h:bS w g t #[a,b,c]):w.cell? ⟨g,0,none⟩=some a/\w.cell? ⟨g,1,none⟩=some b/\w.cell? ⟨g,2,none⟩=some c/\w.frozen? ⟨g,0,none⟩=false/\w.frozen? ⟨g,1,none⟩=false/\w.frozen? ⟨g,2,none⟩=false:=
 ⟨h.cell 0,h.cell 1,h.cell 2,h.frozen 0,h.frozen 1,h.frozen 2⟩
theorem dq {α:Type} [ak α] {P:Program} {fn:Func} {p:Tmp} {ty t:TypeId} {d:TypeDesc} {w w2:World} {tmps:Array Value} {defers:List Deferred} {g:Nat} {sp:Array Value} {cs:List Value} {S:Nat->Prop} {x:α} {R:Ending->World->Prop} (h:fn.results=#[.cell p ty]) (hp:tmps.getD p undef=.pointer (some ⟨g,0,none⟩)) (hg:w.heap.size<=g) (hk:bS w2 g t sp) (hl:sp.size=cs.length) (hu:P.underlying ty=some d) (hd:(match d with|.struct _|.array _ _=>true|_=>false)=true) (hi:(P.info? ty).map (·.size)=some cs.length) (hr:ak.rep w2 S cs x) (hS:∀b,S b->cm w w2 b/\b≠g) (hb:Below w.heap.size w w2) (hdf:defers=[]) (hR:em w x (.returned (.agg cs.toArray)) (setAll w2 g 0 cs)->R (.returned (.agg cs.toArray)) (setAll w2 g 0 cs)) : bodyPost P fn R Exit.ret { tmps:=tmps,defers:=defers } (setAll w2 g 0 cs):=by
 refine bodyPost_ret (results_cell_row h _ _ g t cs.toArray (0,0) d hp (hk.setAll cs hl) hu hd (by simpa using hi)) hdf ?_;refine hR ⟨_,rfl,⟨cs,rfl,ak.keep hr (λb hb=>?_) ((af.refl _ _).setAll (λh=>(hS g h).2 rfl) cs 0)⟩,fk hb hg cs 0⟩;have:=(hS b hb).1;exact⟨this.1,by rw[fO];exact this.2⟩
theorem lR {a b c:World} (h:a.heap.size<=b.heap.size):∀g,cm b c g->cm a c g:=λ_ hg=>⟨Nat.le_trans h hg.1,hg.2⟩
theorem nX {a b c:World} (h:b.heap.size<=c.heap.size):∀g,cm a b g->cm a c g:=λ_ hg=>⟨hg.1,Nat.lt_of_lt_of_le hg.2 h⟩
theorem em.undrew {α:Type} [ak α] {w:World} {x:α} {e:Ending} {w':World} (h:em w.drew x e w'):em w x e w':=by
 obtain⟨v,he,hs,hb⟩:=h;exact⟨v,he,hs,wT hb⟩
theorem ol {α:Type} [ak α] {P:Program} {f:FuncId} {args:Array Value} {w:World} {x:α} (h:Calls P f args w.drew (em w.drew x)):Calls P f args w.drew (em w x):=h.mono λ_ _ h=>h.undrew
theorem lU {α:Type} [ak α] {P:Program} {f:FuncId} {args:Array Value} {w:World} {x:α} (h:Calls P f args w.drew.drew (em w.drew.drew x)):Calls P f args w.drew.drew (em w x):=h.mono λ_ _ h=>h.undrew.undrew
theorem bS.farAll {w:World} {g g':Nat} {t:TypeId} {cs:Array Value} (h:bS w g t cs) (hg:g≠g'):∀(l:List Value) (i:Nat),bS (Go.Proofs.YtichkplomldgiaaGreatDoor.setAll w g' i l) g t cs:=by
 intro l;induction l generalizing w with
 | nil=>intro i;exact h
 | cons v l ih=>intro i;exact ih (h.far (p:=⟨g',i,none⟩) hg v) (i+1)
def Up (W w':World):Prop:=Below W.heap.size W w'
theorem Up.out {W w':World} (h:Up W w'):Below W.heap.size W w':=h
theorem Up.start (W:World):Up W W.drew:=(Below.refl _ _).drew
theorem Up.more {W w1 w2:World} (h:Up W w1) (k:Below w1.heap.size w1 w2):Up W w2:=ah h k
end Go.Proofs.YtichkplomldgiaaGreatDoor
