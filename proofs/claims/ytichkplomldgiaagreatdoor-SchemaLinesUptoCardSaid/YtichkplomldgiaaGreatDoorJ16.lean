/- Dat Mp0 MDat MTab MTy MStTab MAv -/
import Derived.Test.YtichkplomldgiaaGreatDoorJ02
import Derived.Test.YtichkplomldgiaaGreatDoorChecked
import Derived.Test.YtichkplomldgiaaGreatDoorJ01
import Derived.Maps.OwnSet
import Derived.Maps.OwnOps
import Derived.Test.YtichkplomldgiaaGreatDoorJ15
set_option maxHeartbeats 4000000
set_option maxRecDepth 100000
namespace Go.Proofs.YtichkplomldgiaaGreatDoor
open Go.RowKit Go Go.Maps Go.WideMaps
structure gO where
 prec:Int
 issued:Int
 spoilt:Int
 cast:Int
instance:ak gO where
 sz:=4
 rep _ _ cs x:=cs=[.int .i64 x.prec,.int .i64 x.issued,.int .i64 x.spoilt,.int .i64 x.cast]
 len h:=by rw[h];rfl
 keep h _ _:=h
structure Bn where
 prec:Int
 papers:Int
 recs:Int
 missing:Int
 extra:Int
 unbal:Bool
instance:ak Bn where
 sz:=6
 rep _ _ cs x:=cs=[.int .i64 x.prec,.int .i64 x.papers,.int .i64 x.recs,.int .i64 x.missing,.int .i64 x.extra,.bool x.unbal]
 len h:=by rw[h];rfl
 keep h _ _:=h
structure Ns where
 prec:Int
 votes:Value
 doubt:Bool
instance:ak Ns where
 sz:=3
 rep _ _ cs x:=∃A n c,x.votes=.slice A n c/\cs=[.int .i64 x.prec,.slice A n c,.bool x.doubt]
 len h:=by obtain⟨_,_,_,_,rfl⟩:=h;rfl
 keep h _ _:=h
structure Bi where
 prec:Int
 votes:Value
 doubt:Bool
instance:ak Bi where
 sz:=3
 rep _ _ cs x:=cs=[.int .i64 x.prec,x.votes,.bool x.doubt]/\x.votes.oneCell'=true
 len h:=by rw[h.1];rfl
 keep h _ _:=h
inductive Kt where
 | s
 | i
def Kt.K:Kt->Type
 | .s=>ByteArray
 | .i=>Int
def Kt.val:(k:Kt)->k.K->Value
 | .s,(x:ByteArray)=>.string x
 | .i,(x:Int)=>.int .i64 x
def Kt.lit:(k:Kt)->k.K->Lit
 | .s,(x:ByteArray)=>.string x.data.toList
 | .i,(x:Int)=>.int .i64 x
def Kt.id:Kt->TypeId
 | .s=>9
 | .i=>3
def Kt.ok:(k:Kt)->k.K->Prop
 | .s,(x:ByteArray)=>x.size<=maxLen
 | .i,(x:Int)=>-9223372036854775808<=x/\x<=9223372036854775807
def Rq (x y:ByteArray):Bool:=decide (x=y)
def Rr (x y:Int):Bool:=decide (x=y)
def Kt.eqb:(k:Kt)->k.K->k.K->Bool
 | .s,x,y=>Rq x y
 | .i,x,y=>Rr x y
def Kt.eq?:(a b:Kt)->Option (PLift (a=b))
 | .s,.s=>some ⟨rfl⟩
 | .i,.i=>some ⟨rfl⟩
 | _,_=>none
def gU {α:Type} (kt:Kt) (f:kt.K->Option α) (k:kt.K) (x:α):kt.K->Option α:=λt=>if kt.eqb t k then some x else f t
theorem Fi {x y:ByteArray}:Rq x y=true↔x=y:=decide_eq_true_iff
theorem Fj {x y:Int}:Rr x y=true↔x=y:=decide_eq_true_iff
theorem Kt.eqb_iff:{kt:Kt}->{a b:kt.K}->(kt.eqb a b=true↔a=b)
 | .s,_,_=>Fi
 | .i,_,_=>Fj
theorem dC {α:Type} {kt:Kt} {f:kt.K->Option α} {k:kt.K} {x:α}:gU kt f k x k=some x:=if_pos (Kt.eqb_iff.2 rfl)
theorem fQ {α:Type} {kt:Kt} {f:kt.K->Option α} {k t:kt.K} {x:α} (h:t≠k):gU kt f k x t=f t:=if_neg λe=>h (Kt.eqb_iff.1 e)
theorem PY {x:Int} (h:-9223372036854775808<=x/\x<=9223372036854775807):(Lit.int .i64 x).wf=true:=Bool.and_eq_true_iff.2 ⟨decide_eq_true h.1,decide_eq_true h.2⟩
theorem Kt.keyed:(kt:Kt)->Keyed Tryz.prog kt.id
 | .s=>string_keyed Tryz.underlying9
 | .i=>int_keyed Tryz.underlying3
theorem Kt.key:{kt:Kt}->{x:kt.K}->kt.ok x->keyOf Tryz.prog kt.id (kt.val x)=some (kt.lit x)
 | .s,_,h=>keyOf_string_mk Tryz.underlying9 h
 | .i,_,h=>keyOf_int_mk Tryz.underlying3 (PY h)
theorem Kt.inj:{kt:Kt}->{x y:kt.K}->kt.lit x=kt.lit y->x=y
 | .s,_,_,h=>by injection h with h;exact ByteArray.ext (Array.toList_inj.1 h)
 | .i,_,_,h=>by injection h
theorem Kt.isKey:(kt:Kt)->(x:kt.K)->WideAt.IsKeyLit (kt.lit x)
 | .s,_=>trivial
 | .i,_=>trivial
def EO (v:Value):Option (DataW Value×List MemPlace):=some (.held v,[])
theorem Ka {v u:Value} {ps:List MemPlace} (h:EO v=some (.held u,ps)):v=u:=by
 simp only[EO,Option.some.injEq,Prod.mk.injEq,DataW.held.injEq] at h;exact h.1
def fK (w:World) (kt:Kt) (b n:Nat) (f:kt.K->Option Value):Prop:=
 ∃D:DataW Value,w.ownsMap Tryz.prog kt.id EO b n D/\IsMap D/\(∀s,has D (kt.lit s)=(f s).isSome)/\∀s z,D.atKey (kt.lit s) (.held z)=.held ((f s).getD z)
section
variable {w w':World} {kt:Kt} {b n:Nat} {f:kt.K->Option Value}
theorem fK.lt (h:fK w kt b n f):b<w.heap.size:=h.elim λ_ h=>h.1.lt
theorem fK.made (w:World):fK (w.alloc (.map #[] 0)) kt w.heap.size 0 (λ_=>none):=⟨.map [],World.ownsMap_made w _ _ _,isMap_empty,λ_=>rfl,λ_ _=>rfl⟩
theorem fK.kept {row:Option Nat} (h:fK w kt b n f) (hg:w.grownBy w' row) (hne:some b≠row):fK w' kt b n f:=let ⟨D,h1,h2⟩:=h;⟨D,h1.kept hg hne,h2⟩
theorem fK.same (h:fK w kt b n f) (hb:w'.heap[b]?=w.heap[b]?):fK w' kt b n f:=let ⟨D,⟨es,clock,h0,h1⟩,h2⟩:=h;⟨D,⟨es,clock,hb.trans h0,h1⟩,h2⟩
variable {t e:TypeId} {z u:Value} {s:kt.K}
theorem fK.look (h:fK w kt b n f) (ht:Tryz.prog.underlying t=some (.map kt.id e)) (hz:(zeroValue e).run Tryz.prog w=.ok z w) (hs:kt.ok s):(Instr.lookup t (.map (some b)) (kt.val s) false).run Tryz.prog w=.ok ((f s).getD z) w:=by
 obtain⟨D,h1,_,_,h3⟩:=h;obtain⟨v,ps,iP,hv⟩:=h1.lookup kt.keyed ht hz (zd:=.held z) (zp:=[]) rfl (Kt.key hs);rw[h3] at hv;rw[iP,Ka hv]
theorem fK.look2 (h:fK w kt b n f) (ht:Tryz.prog.underlying t=some (.map kt.id e)) (hz:(zeroValue e).run Tryz.prog w=.ok z w) (hs:kt.ok s):(Instr.lookup t (.map (some b)) (kt.val s) true).run Tryz.prog w=.ok (.tuple #[(f s).getD z,.bool (f s).isSome]) w:=by
 obtain⟨D,h1,_,h2,h3⟩:=h;obtain⟨v,ps,iP,hv⟩:=h1.look_ok kt.keyed ht hz (zd:=.held z) (zp:=[]) rfl (Kt.key hs);rw[h3] at hv;rw[iP,Ka hv,h2]
theorem fK.store (h:fK w kt b n f) (ht:Tryz.prog.underlying t=some (.map kt.id e)) (hn:n<maxLen) (hs:kt.ok s):∃w',(Instr.mapUpdate t (.map (some b)) (kt.val s) u).run Tryz.prog w=.ok () w'/\fK w' kt b (n+1) (gU kt f s u)/\w.grownBy w' (some b):=by
 obtain⟨D,h1,h0,h2,h3⟩:=h;obtain⟨w',iP,r1,r2⟩:=h1.update (key:=kt.val s) (val:=u) kt.keyed ht hn (Kt.key hs) (d:=.held u) (ps:=[]) rfl;refine⟨w',iP,⟨_,r1,h0.put _ _,λr=>?_,λr y=>?_⟩,r2⟩
 ·by_cases hr:r=s
  ·subst hr;rw[has_put_same h0 (kt.isKey r),dC];rfl
  ·rw[has_put_other (λe=>hr (Kt.inj e)),h2,fQ hr]
 ·by_cases hr:r=s
  ·subst hr;rw[atKey_put_same h0 (kt.isKey r),dC];rfl
  ·rw[atKey_put_other (λe=>hr (Kt.inj e)),h3,fQ hr]
end
theorem look_nil {w:World} {kt:Kt} {t e:TypeId} {z:Value} {s:kt.K} (ht:Tryz.prog.underlying t=some (.map kt.id e)) (hz:(zeroValue e).run Tryz.prog w=.ok z w) (hs:kt.ok s):(Instr.lookup t (.map none) (kt.val s) false).run Tryz.prog w=.ok z w/\(Instr.lookup t (.map none) (kt.val s) true).run Tryz.prog w=.ok (.tuple #[z,.bool false]) w:=by
 have hc:=kt.keyed.check w true (Kt.key hs);rcases kt.keyed.find w (Kt.key hs) [] (λ_ h=>by cases h) with⟨hf,_⟩|⟨j,e,_,h,_⟩
 ·constructor<;>simp[Instr.lookup,run_underlying ht,hc,hf,hz,Result.andThen]
 ·cases h
def ox {α:Type} [ak α] (w:World) (S:Nat->Prop):Option α->Option Value->Prop
 | none,y=>y=none
 | some x,y=>∃c,y=some c/\ak.rep w S [c] x
theorem ox.keep {α:Type} [ak α] {w w':World} {S S':Nat->Prop} {x:Option α} {y:Option Value} (h:ox w S x y) (hS:∀b,S b->S' b) (hk:af S w w'):ox w' S' x y:=by
 cases x with
 | none=>exact h
 | some x=>obtain⟨c,e,h⟩:=h;exact⟨c,e,ak.keep h hS hk⟩
abbrev vF (kt:Kt) {α:Type} [ak α]:ak (kt.K->Option α) where
 sz:=1
 rep w S cs f:=(cs=[.map none]/\∀k,f k=none)\/∃b n g,cs=[.map (some b)]/\S b/\fK w kt b n g/\∀k,ox w S (f k) (g k)
 len h:=by rcases h with⟨h,_⟩|⟨b,n,g,h,_⟩<;>rw[h]<;>rfl
 keep h hS hk:=by
  rcases h with h|⟨b,n,g,e,hb,hm,h⟩
  ·exact .inl h
  ·exact .inr ⟨b,n,g,e,hS b hb,hm.same (hk b hb),λk=>(h k).keep hS hk⟩
def gN:List (Value->Prop)->List Value->Prop
 | [],cs=>cs=[]
 | p::ps,cs=>∃c r,cs=c::r/\p c/\gN ps r
theorem gN.len:∀{ps:List (Value->Prop)} {cs:List Value},gN ps cs->cs.length=ps.length
 | [],_,h=>by rw[show _=[] from h];rfl
 | _::_,_,⟨_,_,e,_,h⟩=>by rw[e,List.length_cons,h.len];rfl
section
variable {w w':World} {S S':Nat->Prop}
abbrev pI (n:Int) (c:Value):Prop:=[c]=[Value.int .i64 n]
abbrev pB (b:Bool) (c:Value):Prop:=[c]=[Value.bool b]
abbrev pS (s:ByteArray) (c:Value):Prop:=[c]=[Value.string s]
abbrev pL {α:Type} [ak α] (w:World) (S:Nat->Prop) (xs:List α) (c:Value):Prop:=∃A n q,[c]=[Value.slice A n q]/\RS w S A n q xs
abbrev Le (kt:Kt) {α:Type} [ak α] (w:World) (S:Nat->Prop) (f:kt.K->Option α) (c:Value):Prop:=(vF kt (α:=α)).rep w S [c] f
theorem pL.keep {α:Type} [ak α] {xs:List α} {c:Value} (h:pL w S xs c) (hS:∀b,S b->S' b) (hk:af S w w'):pL w' S' xs c:=let ⟨A,n,q,e,h⟩:=h;⟨A,n,q,e,h.keep hS hk⟩
theorem Le.keep {kt:Kt} {α:Type} [ak α] {f:kt.K->Option α} {c:Value} (h:Le kt w S f c) (hS:∀b,S b->S' b) (hk:af S w w'):Le kt w' S' f c:=(vF kt (α:=α)).keep h hS hk
theorem gN.c {p q:Value->Prop} {ps qs:List (Value->Prop)} {cs:List Value} (h:gN (p::ps) cs) (h1:∀c,p c->q c) (h2:∀cs,gN ps cs->gN qs cs):gN (q::qs) cs:=let ⟨c,r,e,h,k⟩:=h;⟨c,r,e,h1 c h,h2 r k⟩
end
instance:ak am where
 sz:=7
 rep w S cs x:=gN [Le .s w S x.num,Le .s w S x.lst,Le .s w S x.ln,pB x.risk.neg,pL w S x.risk.num,pL w S x.risk.den,pS x.seed] cs
 len h:=h.len
 keep h hS hk:=h.c (λ_ h=>h.keep hS hk) λ_ h=>h.c (λ_ h=>h.keep hS hk) λ_ h=>h.c (λ_ h=>h.keep hS hk) λ_ h=>h.c (λ_ h=>h) λ_ h=>h.c (λ_ h=>h.keep hS hk) λ_ h=>h.c (λ_ h=>h.keep hS hk) λ_ h=>h
structure sO where
 e:ae
 styn:List ByteArray
 names:ByteArray->Option (List ByteArray)
 vals:List am
abbrev j5:ak ByteArray where
 sz:=3
 rep _ _ cs x:=cs=[.string x,.slice none 0 0,.slice none 0 0]
 len h:=by rw[h];rfl
 keep h _ _:=h
instance:ak sO where
 sz:=16
 rep w S cs x:=gN [pS x.e.title,pI x.e.dots,pI x.e.blank,pI x.e.marked,pL w S x.e.prec,pL w S x.e.cont,@pL _ j5 w S x.styn,pI x.e.scan,pI x.e.batch,pB x.e.risk.neg,pL w S x.e.risk.num,pL w S x.e.risk.den,pI x.e.cell,pS x.e.seed,Le .s w S x.names,pL w S x.vals] cs
 len h:=h.len
 keep h hS hk:=h.c (λ_ h=>h) λ_ h=>h.c (λ_ h=>h) λ_ h=>h.c (λ_ h=>h) λ_ h=>h.c (λ_ h=>h) λ_ h=>h.c (λ_ h=>h.keep hS hk) λ_ h=>h.c (λ_ h=>h.keep hS hk) λ_ h=>h.c (λ_ h=>@pL.keep _ _ _ _ _ j5 _ _ h hS hk) λ_ h=>h.c (λ_ h=>h) λ_ h=>h.c (λ_ h=>h) λ_ h=>h.c (λ_ h=>h) λ_ h=>h.c (λ_ h=>h.keep hS hk) λ_ h=>h.c (λ_ h=>h.keep hS hk) λ_ h=>h.c (λ_ h=>h) λ_ h=>h.c (λ_ h=>h) λ_ h=>h.c (λ_ h=>h.keep hS hk) λ_ h=>h.c (λ_ h=>h.keep hS hk) λ_ h=>h
def Wd (w:World):Prop:=∃B,B<=w.heap.size/\Fx B w
theorem Wd.up {w w':World} (h:Wd w) (hb:Below w.heap.size w w'):Wd w':=let ⟨B,h1,h2⟩:=h;⟨B,Nat.le_trans h1 hb.size,h2.up h1 hb⟩
theorem Yw {w:World} (h:Wd w) (w':World) (h1:w.heap.size<=w'.heap.size) (h2:w'.os=w.os) (h3:w'.tape=w.tape) (h4:w'.output=w.output) (h5:∀b,b<w.heap.size->¬False->w'.heap[b]?=w.heap[b]?):Wd w':=h.up ⟨h2,h3,h4,h1,λb hb=>h5 b hb id⟩
instance rQ:ak (List ByteArray×List ByteArray) where
 sz:=2
 rep w S cs x:=∃A n c A2 n2 c2,cs=[.slice A n c,.slice A2 n2 c2]/\RS w S A n c x.1/\RS w S A2 n2 c2 x.2
 len h:=by obtain⟨A,n,c,A2,n2,c2,rfl,_⟩:=h;rfl
 keep h hS hk:=by
  obtain⟨A,n,c,A2,n2,c2,rfl,h1,h2⟩:=h;exact⟨A,n,c,A2,n2,c2,rfl,h1.keep hS hk,h2.keep hS hk⟩
instance rR:ak (Int×Int) where
 sz:=2
 rep _ _ cs x:=cs=[.int .i64 x.1,.int .i64 x.2]
 len h:=by rw[h];rfl
 keep h _ _:=h
instance tW:ak (Bool×List Bool×List Bool) where
 sz:=3
 rep w S cs x:=∃A n c A2 n2 c2,cs=[.bool x.1,.slice A n c,.slice A2 n2 c2]/\RS w S A n c x.2.1/\RS w S A2 n2 c2 x.2.2
 len h:=by obtain⟨A,n,c,A2,n2,c2,rfl,_⟩:=h;rfl
 keep h hS hk:=by
  obtain⟨A,n,c,A2,n2,c2,rfl,h1,h2⟩:=h;exact⟨A,n,c,A2,n2,c2,rfl,h1.keep hS hk,h2.keep hS hk⟩
instance bw:ak Unit where
 sz:=0
 rep _ _ cs _:=cs=[]
 len h:=by rw[h];rfl
 keep h _ _:=h
abbrev m0 (k:IntKind):ak Int where
 sz:=1
 rep _ _ cs x:=cs=[.int k x]
 len h:=by rw[h];rfl
 keep h _ _:=h
abbrev cO {α β:Type} (_:ak α) (_:ak β):ak (α×β) where
 sz:=ak.sz β+1
 rep w S cs x:=∃c r,cs=c::r/\true=true/\ak.rep w S [c] x.1/\ak.rep w S r x.2
 len h:=by
  obtain⟨c,r,rfl,_,_,h⟩:=h;rw[List.length_cons,ak.len h]
 keep h hS hk:=by
  obtain⟨c,r,e,t,h1,h2⟩:=h;exact⟨c,r,e,t,ak.keep h1 hS hk,ak.keep h2 hS hk⟩
abbrev dU:ak Int:=inferInstance
abbrev O2:ak Bool:=inferInstance
abbrev CP:ak ByteArray:=inferInstance
abbrev lG {α:Type} (r:ak α):ak (List α):=@instRepList α r
abbrev Xn:=List Int×Unit
abbrev gM:=Int×ByteArray×Int×Unit
abbrev Rz:=Int×Int×Int×Int×Int×Unit
abbrev Xm:=Int×Int×Int×Int×Int×List Rz×Unit
abbrev Tf:=Int×List (List Int)×Unit
abbrev Xl:=Int×List Tf×Bool×Unit
abbrev Xk:=Int×Int×List Int×Unit
abbrev Xj:=Int×Int×Int×Int×Int×List Rz×Int×Int×Unit
abbrev bh:=List gM×Int×Int×Unit
abbrev T25:=List gM×Int×Int×Unit
abbrev Xi:=Int×Int×Bool×Int×Unit
abbrev uY:=Int×Unit
abbrev Xh:=ByteArray×Unit
abbrev O4:ak uY:=cO dU bw
abbrev O3:ak Xh:=cO CP bw
abbrev Pb:ak Xn:=cO (lG (m0 .u8)) bw
abbrev JH:ak gM:=cO dU (cO CP (cO dU bw))
abbrev CU:ak Rz:=cO dU (cO dU (cO dU (cO dU (cO dU bw))))
abbrev O9:ak Xm:=cO dU (cO dU (cO dU (cO dU (cO dU (cO (lG CU) bw)))))
abbrev JG:ak Tf:=cO dU (cO (lG (lG dU)) bw)
abbrev O8:ak Xl:=cO dU (cO (lG JG) (cO O2 bw))
abbrev O7:ak Xk:=cO dU (cO dU (cO (lG (m0 .u8)) bw))
abbrev O6:ak Xj:=cO dU (cO dU (cO dU (cO dU (cO dU (cO (lG CU) (cO dU (cO dU bw)))))))
abbrev JF:ak bh:=cO (lG JH) (cO dU (cO dU bw))
abbrev O5:ak Xi:=cO dU (cO dU (cO O2 (cO dU bw)))
def wX:Nat->Type
 | 0=>ay
 | 1=>ao
 | 2=>aX
 | 3=>ai
 | 4=>ax
 | 5=>ae
 | 6=>List ByteArray×List ByteArray
 | 7=>Int×Int
 | 8=>Raw
 | 9=>Bool×List Bool×List Bool
 | 10=>ByteArray
 | 11=>gO
 | 12=>Bn
 | 13=>Bi
 | 14=>am
 | 15=>sO
 | 16=>Xn
 | 17=>gM
 | 18=>Rz
 | 19=>Xm
 | 20=>Tf
 | 21=>Xl
 | 22=>Xk
 | 23=>Xj
 | 24=>bh
 | 25=>T25
 | 26=>Xi
 | 27=>uY
 | 28=>Xh
 | _=>Unit
abbrev o5:(k:Nat)->ak (wX k)
 | 0=>inferInstanceAs (ak ay)
 | 1=>inferInstanceAs (ak ao)
 | 2=>inferInstanceAs (ak aX)
 | 3=>inferInstanceAs (ak ai)
 | 4=>inferInstanceAs (ak ax)
 | 5=>inferInstanceAs (ak ae)
 | 6=>rQ
 | 7=>rR
 | 8=>inferInstanceAs (ak Raw)
 | 9=>tW
 | 10=>j5
 | 11=>inferInstanceAs (ak gO)
 | 12=>inferInstanceAs (ak Bn)
 | 13=>inferInstanceAs (ak Bi)
 | 14=>inferInstanceAs (ak am)
 | 15=>inferInstanceAs (ak sO)
 | 16=>Pb
 | 17=>JH
 | 18=>CU
 | 19=>O9
 | 20=>JG
 | 21=>O8
 | 22=>O7
 | 23=>O6
 | 24=>JF
 | 25=>JF
 | 26=>O5
 | 27=>O4
 | 28=>O3
 | _+29=>bw
def stD:(k:Nat)->wX k
 | 0=>(⟨⟨#[]⟩,[],0⟩:ay)
 | 1=>(⟨⟨#[]⟩,⟨#[]⟩,[],0⟩:ao)
 | 2=>(⟨⟨#[]⟩,[]⟩:aX)
 | 3=>(⟨⟨#[]⟩,[],0,0,0,0,0,0,0⟩:ai)
 | 4=>(⟨⟨#[]⟩,[],[]⟩:ax)
 | 5=>ae.zero
 | 6=>(([],[]):List ByteArray×List ByteArray)
 | 7=>((0,0):Int×Int)
 | 8=>(⟨false,[],[]⟩:Raw)
 | 9=>((false,[],[]):Bool×List Bool×List Bool)
 | 10=>(⟨#[]⟩:ByteArray)
 | 11=>(⟨0,0,0,0⟩:gO)
 | 12=>(⟨0,0,0,0,0,false⟩:Bn)
 | 13=>(⟨0,.bool false,false⟩:Bi)
 | 14=>am.zero
 | 15=>(⟨ae.zero,[],λ_=>none,[]⟩:sO)
 | 16=>(([],()):Xn)
 | 17=>((0,⟨#[]⟩,0,()):gM)
 | 18=>((0,0,0,0,0,()):Rz)
 | 19=>((0,0,0,0,0,[],()):Xm)
 | 20=>((0,[],()):Tf)
 | 21=>((0,[],false,()):Xl)
 | 22=>((0,0,[],()):Xk)
 | 23=>((0,0,0,0,0,[],0,0,()):Xj)
 | 24=>(([],0,0,()):bh)
 | 25=>(([],0,0,()):T25)
 | 26=>((0,0,false,0,()):Xi)
 | 27=>((0,()):uY)
 | 28=>((⟨#[]⟩,()):Xh)
 | _+29=>()
inductive Ty where
 | int (k:IntKind)
 | bool
 | str
 | byte
 | limb
 | nil
 | raw
 | list (t:Ty)
 | st (k:Nat)
 | mp (kt:Kt) (t:Ty)
def Ty.eq?:(a b:Ty)->Option (PLift (a=b))
 | .int j,.int k=>if h:j=k then some ⟨by rw[h]⟩ else none
 | .bool,.bool=>some ⟨rfl⟩
 | .str,.str=>some ⟨rfl⟩
 | .byte,.byte=>some ⟨rfl⟩
 | .limb,.limb=>some ⟨rfl⟩
 | .nil,.nil=>some ⟨rfl⟩
 | .raw,.raw=>some ⟨rfl⟩
 | .list a,.list b=>match Ty.eq? a b with
  | some h=>some ⟨by rw[h.down]⟩
  | none=>none
 | .st j,.st k=>if h:j=k then some ⟨by rw[h]⟩ else none
 | .mp j a,.mp k b=>match Kt.eq? j k,Ty.eq? a b with
  | some h,some h'=>some ⟨by rw[h.down,h'.down]⟩
  | _,_=>none
 | _,_=>none
def El:Ty->Type
 | .int _=>Int
 | .bool=>Bool
 | .str=>ByteArray
 | .byte=>UInt8
 | .limb=>BitVec 32
 | .nil=>Unit
 | .raw=>Value
 | .list t=>List (El t)
 | .st k=>wX k
 | .mp kt t=>kt.K->Option (El t)
abbrev KY:ak Unit where
 sz:=1
 rep _ _ cs _:=cs=[.slice none 0 0]
 len h:=by rw[h];rfl
 keep h _ _:=h
abbrev KX:ak Value where
 sz:=1
 rep _ _ cs x:=cs=[x]/\x.oneCell'=true
 len h:=by rw[h.1];rfl
 keep h _ _:=h
structure fl (k:Nat) where
 cells:List Value
 len:cells.length=k
instance (k:Nat):ak (fl k) where
 sz:=k
 rep _ _ cs x:=cs=x.cells
 len h:=by rw[h];exact fl.len _
 keep h _ _:=h
abbrev CQ:(t:Ty)->ak (El t)
 | .int k=>m0 k
 | .bool=>inferInstanceAs (ak Bool)
 | .str=>inferInstanceAs (ak ByteArray)
 | .byte=>inferInstanceAs (ak UInt8)
 | .limb=>inferInstanceAs (ak (BitVec 32))
 | .nil=>KY
 | .raw=>KX
 | .list t=>@instRepList (El t) (CQ t)
 | .st k=>o5 k
 | .mp kt t=>@vF kt (El t) (CQ t)
instance fp (t:Ty):ak (El t):=CQ t
def sW:(t:Ty)->El t
 | .int _=>(0:Int)
 | .bool=>false
 | .str=>⟨#[]⟩
 | .byte=>(0:UInt8)
 | .limb=>(0:BitVec 32)
 | .nil=>()
 | .raw=>Value.bool false
 | .list _=>[]
 | .st k=>stD k
 | .mp _ _=>λ_=>none
def yZ:List Ty->Type
 | []=>Unit
 | t::ts=>El t×yZ ts
def Ty.one:Ty->Bool
 | .st _=>false
 | _=>true
def FR (w:World) (S:Nat->Prop):(ts:List Ty)->List Value->yZ ts->Prop
 | [],cs,_=>cs=[]
 | t::ts,cs,x=>∃c r,cs=c::r/\t.one=true/\ak.rep w S [c] x.1/\FR w S ts r x.2
abbrev tI:Ty:=.int .i64
def lZ:Nat->List Ty
 | 0=>[.str,.list .str,tI]
 | 1=>[.str,.str,.list (.st 0),tI]
 | 2=>[.str,.list (.st 1)]
 | 3=>[.str,.list .str,tI,tI,tI,tI,tI,tI,tI]
 | 4=>[.str,.list tI,.list tI]
 | 5=>[.str,tI,tI,tI,.list .str,.list (.st 3),.list (.st 4),tI,tI,.bool,.list .limb,.list .limb,tI,.str]
 | 6=>[.list .str,.list .str]
 | 7=>[tI,tI]
 | 8=>[.bool,.list .limb,.list .limb]
 | 9=>[.bool,.list .bool,.list .bool]
 | 10=>[.str,.nil,.nil]
 | 11=>[tI,tI,tI,tI]
 | 12=>[tI,tI,tI,tI,tI,.bool]
 | 13=>[tI,.raw,.bool]
 | 14=>[.mp .s tI,.mp .s (.list .str),.mp .s tI,.bool,.list .limb,.list .limb,.str]
 | 15=>[.str,tI,tI,tI,.list .str,.list (.st 3),.list (.st 10),tI,tI,.bool,.list .limb,.list .limb,tI,.str,.mp .s (.list .str),.list (.st 14)]
 | 16=>[.list (.int .u8)]
 | 17=>[tI,.str,tI]
 | 18=>[tI,tI,tI,tI,tI]
 | 19=>[tI,tI,tI,tI,tI,.list (.st 18)]
 | 20=>[tI,.list (.list tI)]
 | 21=>[tI,.list (.st 20),.bool]
 | 22=>[tI,tI,.list (.int .u8)]
 | 23=>[tI,tI,tI,tI,tI,.list (.st 18),tI,tI]
 | 24=>[.list (.st 17),tI,tI]
 | 25=>[.list (.st 17),tI,tI]
 | 26=>[tI,tI,.bool,tI]
 | 27=>[tI]
 | 28=>[.str]
 | _=>[]
def tf:(k:Nat)->wX k->yZ (lZ k)
 | 0,(x:ay)=>(x.key,x.vals,x.line,())
 | 1,(x:ao)=>(x.kind,x.name,x.fields,x.line,())
 | 2,(x:aX)=>(x.title,x.blocks,())
 | 3,(x:ai)=>(x.name,x.cands,x.method,x.seats,x.ranks,x.digits,x.ties,x.over,x.skip,())
 | 4,(x:ax)=>(x.name,x.prec,x.cont,())
 | 5,(x:ae)=>(x.title,x.dots,x.blank,x.marked,x.prec,x.cont,x.styl,x.scan,x.batch,x.risk.neg,x.risk.num,x.risk.den,x.cell,x.seed,())
 | 6,(x:List ByteArray×List ByteArray)=>(x.1,x.2,())
 | 7,(x:Int×Int)=>(x.1,x.2,())
 | 8,(x:Raw)=>(x.neg,x.num,x.den,())
 | 9,(x:Bool×List Bool×List Bool)=>(x.1,x.2.1,x.2.2,())
 | 10,(x:ByteArray)=>(x,(),(),())
 | 11,(x:gO)=>(x.prec,x.issued,x.spoilt,x.cast,())
 | 12,(x:Bn)=>(x.prec,x.papers,x.recs,x.missing,x.extra,x.unbal,())
 | 13,(x:Bi)=>(x.prec,x.votes,x.doubt,())
 | 14,(x:am)=>(x.num,x.lst,x.ln,x.risk.neg,x.risk.num,x.risk.den,x.seed,())
 | 15,(x:sO)=>(x.e.title,x.e.dots,x.e.blank,x.e.marked,x.e.prec,x.e.cont,x.styn,x.e.scan,x.e.batch,x.e.risk.neg,x.e.risk.num,x.e.risk.den,x.e.cell,x.e.seed,x.names,x.vals,())
 | 16,x=>x
 | 17,x=>x
 | 18,x=>x
 | 19,x=>x
 | 20,x=>x
 | 21,x=>x
 | 22,x=>x
 | 23,x=>x
 | 24,x=>x
 | 25,x=>x
 | 26,x=>x
 | 27,x=>x
 | 28,x=>x
 | _+29,_=>()
def OP:(k:Nat)->yZ (lZ k)->wX k
 | 0,(a,b,c,_)=>(⟨a,b,c⟩:ay)
 | 1,(a,b,c,d,_)=>(⟨a,b,c,d⟩:ao)
 | 2,(a,b,_)=>(⟨a,b⟩:aX)
 | 3,(a,b,c,d,e,f,g,h,i,_)=>(⟨a,b,c,d,e,f,g,h,i⟩:ai)
 | 4,(a,b,c,_)=>(⟨a,b,c⟩:ax)
 | 5,(a,b,c,d,e,f,g,h,i,j,k,l,m,n,_)=>(⟨a,b,c,d,e,f,g,h,i,⟨j,k,l⟩,m,n⟩:ae)
 | 6,(a,b,_)=>((a,b):List ByteArray×List ByteArray)
 | 7,(a,b,_)=>((a,b):Int×Int)
 | 8,(a,b,c,_)=>(⟨a,b,c⟩:Raw)
 | 9,(a,b,c,_)=>((a,b,c):Bool×List Bool×List Bool)
 | 10,(a,_)=>(a:ByteArray)
 | 11,(a,b,c,d,_)=>(⟨a,b,c,d⟩:gO)
 | 12,(a,b,c,d,e,f,_)=>(⟨a,b,c,d,e,f⟩:Bn)
 | 13,(a,b,c,_)=>(⟨a,b,c⟩:Bi)
 | 14,(a,b,c,d,e,f,g,_)=>(⟨a,b,c,⟨d,e,f⟩,g⟩:am)
 | 15,(a,b,c,d,e,f,g,h,i,j,k,l,m,n,o,p,_)=>(⟨⟨a,b,c,d,e,f,[],h,i,⟨j,k,l⟩,m,n⟩,g,o,p⟩:sO)
 | 16,x=>x
 | 17,x=>x
 | 18,x=>x
 | 19,x=>x
 | 20,x=>x
 | 21,x=>x
 | 22,x=>x
 | 23,x=>x
 | 24,x=>x
 | 25,x=>x
 | 26,x=>x
 | 27,x=>x
 | 28,x=>x
 | _+29,_=>()
theorem KH:∀{k:Nat} {u:yZ (lZ k)},tf k (OP k u)=u
 | 0,_|1,_|2,_|3,_|4,_|5,_|6,_|7,_|8,_|9,_|10,_|11,_|12,_|13,_|14,_|15,_|16,_|17,_|18,_|19,_|20,_|21,_|22,_|23,_|24,_|25,_|26,_|27,_|28,_|_+29,_=>rfl
section
variable {w:World} {S:Nat->Prop}
theorem rI {c:Value} {n:Int}:@ak.rep (El tI) (fp tI) w S [c] n↔c=.int .i64 n:=by
 show[c]=[_]↔_;simp
theorem rB {c:Value} {b:Bool}:@ak.rep (El .bool) (fp .bool) w S [c] b↔c=.bool b:=by
 show[c]=[_]↔_;simp
theorem rS {c:Value} {s:ByteArray}:@ak.rep (El .str) (fp .str) w S [c] s↔c=.string s:=by
 show[c]=[_]↔_;simp
theorem rN {c:Value} {x:Unit}:@ak.rep (El .nil) (fp .nil) w S [c] x↔c=.slice none 0 0:=by
 show[c]=[_]↔_;simp
theorem rV {c x:Value}:@ak.rep (El .raw) (fp .raw) w S [c] x↔c=x/\x.oneCell'=true:=by
 show([c]=[_]/\_)↔_;simp
theorem rL {t:Ty} {c:Value} {xs:List (El t)}:@ak.rep (El (.list t)) (fp (.list t)) w S [c] xs↔∃A n q,c=.slice A n q/\RS (α:=El t) w S A n q xs:=by
 show(∃A n q,[c]=[Value.slice A n q]/\_)↔_;simp only[List.cons.injEq,and_true]
theorem FR.c {t:Ty} {ts:List Ty} {c:Value} {r:List Value} {x:yZ (t::ts)} (h1:t.one=true) (h2:ak.rep w S [c] x.1) (h3:FR w S ts r x.2):FR w S (t::ts) (c::r) x:=⟨c,r,rfl,h1,h2,h3⟩
def ml (w:World) (S:Nat->Prop):(ts:List Ty)->yZ ts->List (Value->Prop)
 | [],_=>[]
 | t::ts,x=>(λc=>ak.rep (α:=El t) w S [c] x.1)::ml w S ts x.2
theorem kQ:∀{ts:List Ty} {x:yZ ts} {cs:List Value},ts.all Ty.one=true->(gN (ml w S ts x) cs↔FR w S ts cs x)
 | [],_,_,_=>Iff.rfl
 | t::ts,x,cs,h=>by
  rw[List.all_cons,Bool.and_eq_true] at h;exact⟨λ⟨c,r,e,h1,h2⟩=>⟨c,r,e,h.1,h1,(kQ h.2).1 h2⟩,λ⟨c,r,e,_,h1,h2⟩=>⟨c,r,e,h1,(kQ h.2).2 h2⟩⟩
theorem OO:∀{k:Nat} {cs:List Value} {x:wX k},@ak.rep (wX k) (o5 k) w S cs x↔FR w S (lZ k) cs (tf k x)
 | 0,cs,x=>by
  constructor
  ·rintro⟨A1,n1,c1,rfl,h1⟩;exact(FR.c rfl (rS.2 rfl) (FR.c rfl (rL.2 ⟨_,_,_,rfl,h1⟩) (FR.c rfl (rI.2 rfl) rfl)))
  ·intro h;obtain⟨_,_,rfl,_,e,h⟩:=h;obtain rfl:=rS.1 e;obtain⟨_,_,rfl,_,e,h⟩:=h;obtain⟨_,_,_,rfl,h1⟩:=rL.1 e;obtain⟨_,_,rfl,_,e,h⟩:=h;obtain rfl:=rI.1 e;obtain rfl:_=[]:=h;exact⟨_,_,_,rfl,h1⟩
 | 1,cs,x=>by
  constructor
  ·rintro⟨A2,n2,c2,rfl,h2⟩;exact(FR.c rfl (rS.2 rfl) (FR.c rfl (rS.2 rfl) (FR.c rfl (rL.2 ⟨_,_,_,rfl,h2⟩) (FR.c rfl (rI.2 rfl) rfl))))
  ·intro h;obtain⟨_,_,rfl,_,e,h⟩:=h;obtain rfl:=rS.1 e;obtain⟨_,_,rfl,_,e,h⟩:=h;obtain rfl:=rS.1 e;obtain⟨_,_,rfl,_,e,h⟩:=h;obtain⟨_,_,_,rfl,h2⟩:=rL.1 e;obtain⟨_,_,rfl,_,e,h⟩:=h;obtain rfl:=rI.1 e;obtain rfl:_=[]:=h;exact⟨_,_,_,rfl,h2⟩
 | 2,cs,x=>by
  constructor
  ·rintro⟨A1,n1,c1,rfl,h1⟩;exact(FR.c rfl (rS.2 rfl) (FR.c rfl (rL.2 ⟨_,_,_,rfl,h1⟩) rfl))
  ·intro h;obtain⟨_,_,rfl,_,e,h⟩:=h;obtain rfl:=rS.1 e;obtain⟨_,_,rfl,_,e,h⟩:=h;obtain⟨_,_,_,rfl,h1⟩:=rL.1 e;obtain rfl:_=[]:=h;exact⟨_,_,_,rfl,h1⟩
 | 3,cs,x=>by
  constructor
  ·rintro⟨A1,n1,c1,rfl,h1⟩;exact(FR.c rfl (rS.2 rfl) (FR.c rfl (rL.2 ⟨_,_,_,rfl,h1⟩) (FR.c rfl (rI.2 rfl) (FR.c rfl (rI.2 rfl) (FR.c rfl (rI.2 rfl) (FR.c rfl (rI.2 rfl) (FR.c rfl (rI.2 rfl) (FR.c rfl (rI.2 rfl) (FR.c rfl (rI.2 rfl) rfl)))))))))
  ·intro h;obtain⟨_,_,rfl,_,e,h⟩:=h;obtain rfl:=rS.1 e;obtain⟨_,_,rfl,_,e,h⟩:=h;obtain⟨_,_,_,rfl,h1⟩:=rL.1 e;obtain⟨_,_,rfl,_,e,h⟩:=h;obtain rfl:=rI.1 e;obtain⟨_,_,rfl,_,e,h⟩:=h;obtain rfl:=rI.1 e;obtain⟨_,_,rfl,_,e,h⟩:=h;obtain rfl:=rI.1 e;obtain⟨_,_,rfl,_,e,h⟩:=h;obtain rfl:=rI.1 e;obtain⟨_,_,rfl,_,e,h⟩:=h;obtain rfl:=rI.1 e;obtain⟨_,_,rfl,_,e,h⟩:=h;obtain rfl:=rI.1 e;obtain⟨_,_,rfl,_,e,h⟩:=h;obtain rfl:=rI.1 e;obtain rfl:_=[]:=h;exact⟨_,_,_,rfl,h1⟩
 | 4,cs,x=>by
  constructor
  ·rintro⟨A1,n1,c1,A2,n2,c2,rfl,h1,h2⟩;exact(FR.c rfl (rS.2 rfl) (FR.c rfl (rL.2 ⟨_,_,_,rfl,h1⟩) (FR.c rfl (rL.2 ⟨_,_,_,rfl,h2⟩) rfl)))
  ·intro h;obtain⟨_,_,rfl,_,e,h⟩:=h;obtain rfl:=rS.1 e;obtain⟨_,_,rfl,_,e,h⟩:=h;obtain⟨_,_,_,rfl,h1⟩:=rL.1 e;obtain⟨_,_,rfl,_,e,h⟩:=h;obtain⟨_,_,_,rfl,h2⟩:=rL.1 e;obtain rfl:_=[]:=h;exact⟨_,_,_,_,_,_,rfl,h1,h2⟩
 | 5,cs,x=>by
  constructor
  ·rintro⟨A4,n4,c4,A5,n5,c5,A6,n6,c6,A10,n10,WT,A11,n11,WS,rfl,h4,h5,h6,h10,h11⟩;exact(FR.c rfl (rS.2 rfl) (FR.c rfl (rI.2 rfl) (FR.c rfl (rI.2 rfl) (FR.c rfl (rI.2 rfl) (FR.c rfl (rL.2 ⟨_,_,_,rfl,h4⟩) (FR.c rfl (rL.2 ⟨_,_,_,rfl,h5⟩) (FR.c rfl (rL.2 ⟨_,_,_,rfl,h6⟩) (FR.c rfl (rI.2 rfl) (FR.c rfl (rI.2 rfl) (FR.c rfl (rB.2 rfl) (FR.c rfl (rL.2 ⟨_,_,_,rfl,h10⟩) (FR.c rfl (rL.2 ⟨_,_,_,rfl,h11⟩) (FR.c rfl (rI.2 rfl) (FR.c rfl (rS.2 rfl) rfl))))))))))))))
  ·intro h;obtain⟨_,_,rfl,_,e,h⟩:=h;obtain rfl:=rS.1 e;obtain⟨_,_,rfl,_,e,h⟩:=h;obtain rfl:=rI.1 e;obtain⟨_,_,rfl,_,e,h⟩:=h;obtain rfl:=rI.1 e;obtain⟨_,_,rfl,_,e,h⟩:=h;obtain rfl:=rI.1 e;obtain⟨_,_,rfl,_,e,h⟩:=h;obtain⟨_,_,_,rfl,h4⟩:=rL.1 e;obtain⟨_,_,rfl,_,e,h⟩:=h;obtain⟨_,_,_,rfl,h5⟩:=rL.1 e;obtain⟨_,_,rfl,_,e,h⟩:=h;obtain⟨_,_,_,rfl,h6⟩:=rL.1 e;obtain⟨_,_,rfl,_,e,h⟩:=h;obtain rfl:=rI.1 e;obtain⟨_,_,rfl,_,e,h⟩:=h;obtain rfl:=rI.1 e;obtain⟨_,_,rfl,_,e,h⟩:=h;obtain rfl:=rB.1 e;obtain⟨_,_,rfl,_,e,h⟩:=h;obtain⟨_,_,_,rfl,h10⟩:=rL.1 e;obtain⟨_,_,rfl,_,e,h⟩:=h;obtain⟨_,_,_,rfl,h11⟩:=rL.1 e;obtain⟨_,_,rfl,_,e,h⟩:=h;obtain rfl:=rI.1 e;obtain⟨_,_,rfl,_,e,h⟩:=h;obtain rfl:=rS.1 e;obtain rfl:_=[]:=h;exact⟨_,_,_,_,_,_,_,_,_,_,_,_,_,_,_,rfl,h4,h5,h6,h10,h11⟩
 | 6,cs,x=>by
  constructor
  ·rintro⟨A0,n0,c0,A1,n1,c1,rfl,h0,h1⟩;exact(FR.c rfl (rL.2 ⟨_,_,_,rfl,h0⟩) (FR.c rfl (rL.2 ⟨_,_,_,rfl,h1⟩) rfl))
  ·intro h;obtain⟨_,_,rfl,_,e,h⟩:=h;obtain⟨_,_,_,rfl,h0⟩:=rL.1 e;obtain⟨_,_,rfl,_,e,h⟩:=h;obtain⟨_,_,_,rfl,h1⟩:=rL.1 e;obtain rfl:_=[]:=h;exact⟨_,_,_,_,_,_,rfl,h0,h1⟩
 | 7,cs,x=>by
  constructor
  ·rintro rfl;exact(FR.c rfl (rI.2 rfl) (FR.c rfl (rI.2 rfl) rfl))
  ·intro h;obtain⟨_,_,rfl,_,e,h⟩:=h;obtain rfl:=rI.1 e;obtain⟨_,_,rfl,_,e,h⟩:=h;obtain rfl:=rI.1 e;obtain rfl:_=[]:=h;exact rfl
 | 8,cs,x=>by
  constructor
  ·rintro⟨A1,n1,c1,A2,n2,c2,rfl,h1,h2⟩;exact(FR.c rfl (rB.2 rfl) (FR.c rfl (rL.2 ⟨_,_,_,rfl,h1⟩) (FR.c rfl (rL.2 ⟨_,_,_,rfl,h2⟩) rfl)))
  ·intro h;obtain⟨_,_,rfl,_,e,h⟩:=h;obtain rfl:=rB.1 e;obtain⟨_,_,rfl,_,e,h⟩:=h;obtain⟨_,_,_,rfl,h1⟩:=rL.1 e;obtain⟨_,_,rfl,_,e,h⟩:=h;obtain⟨_,_,_,rfl,h2⟩:=rL.1 e;obtain rfl:_=[]:=h;exact⟨_,_,_,_,_,_,rfl,h1,h2⟩
 | 9,cs,x=>by
  constructor
  ·rintro⟨A1,n1,c1,A2,n2,c2,rfl,h1,h2⟩;exact(FR.c rfl (rB.2 rfl) (FR.c rfl (rL.2 ⟨_,_,_,rfl,h1⟩) (FR.c rfl (rL.2 ⟨_,_,_,rfl,h2⟩) rfl)))
  ·intro h;obtain⟨_,_,rfl,_,e,h⟩:=h;obtain rfl:=rB.1 e;obtain⟨_,_,rfl,_,e,h⟩:=h;obtain⟨_,_,_,rfl,h1⟩:=rL.1 e;obtain⟨_,_,rfl,_,e,h⟩:=h;obtain⟨_,_,_,rfl,h2⟩:=rL.1 e;obtain rfl:_=[]:=h;exact⟨_,_,_,_,_,_,rfl,h1,h2⟩
 | 10,cs,x=>by
  constructor
  ·rintro rfl;exact(FR.c rfl (rS.2 rfl) (FR.c rfl (rN.2 rfl) (FR.c rfl (rN.2 rfl) rfl)))
  ·intro h;obtain⟨_,_,rfl,_,e,h⟩:=h;obtain rfl:=rS.1 e;obtain⟨_,_,rfl,_,e,h⟩:=h;obtain rfl:=rN.1 e;obtain⟨_,_,rfl,_,e,h⟩:=h;obtain rfl:=rN.1 e;obtain rfl:_=[]:=h;exact rfl
 | 11,cs,x=>by
  constructor
  ·rintro rfl;exact(FR.c rfl (rI.2 rfl) (FR.c rfl (rI.2 rfl) (FR.c rfl (rI.2 rfl) (FR.c rfl (rI.2 rfl) rfl))))
  ·intro h;obtain⟨_,_,rfl,_,e,h⟩:=h;obtain rfl:=rI.1 e;obtain⟨_,_,rfl,_,e,h⟩:=h;obtain rfl:=rI.1 e;obtain⟨_,_,rfl,_,e,h⟩:=h;obtain rfl:=rI.1 e;obtain⟨_,_,rfl,_,e,h⟩:=h;obtain rfl:=rI.1 e;obtain rfl:_=[]:=h;exact rfl
 | 12,cs,x=>by
  constructor
  ·rintro rfl;exact(FR.c rfl (rI.2 rfl) (FR.c rfl (rI.2 rfl) (FR.c rfl (rI.2 rfl) (FR.c rfl (rI.2 rfl) (FR.c rfl (rI.2 rfl) (FR.c rfl (rB.2 rfl) rfl))))))
  ·intro h;obtain⟨_,_,rfl,_,e,h⟩:=h;obtain rfl:=rI.1 e;obtain⟨_,_,rfl,_,e,h⟩:=h;obtain rfl:=rI.1 e;obtain⟨_,_,rfl,_,e,h⟩:=h;obtain rfl:=rI.1 e;obtain⟨_,_,rfl,_,e,h⟩:=h;obtain rfl:=rI.1 e;obtain⟨_,_,rfl,_,e,h⟩:=h;obtain rfl:=rI.1 e;obtain⟨_,_,rfl,_,e,h⟩:=h;obtain rfl:=rB.1 e;obtain rfl:_=[]:=h;exact rfl
 | 13,cs,x=>by
  constructor
  ·rintro⟨rfl,ho⟩;exact(FR.c rfl (rI.2 rfl) (FR.c rfl (rV.2 ⟨rfl,ho⟩) (FR.c rfl (rB.2 rfl) rfl)))
  ·intro h;obtain⟨_,_,rfl,_,e,h⟩:=h;obtain rfl:=rI.1 e;obtain⟨_,_,rfl,_,e,h⟩:=h;obtain⟨rfl,ho⟩:=rV.1 e;obtain⟨_,_,rfl,_,e,h⟩:=h;obtain rfl:=rB.1 e;obtain rfl:_=[]:=h;exact⟨rfl,ho⟩
 | 14,cs,x=>(show @ak.rep (wX 14) (o5 14) w S cs x↔gN (ml w S (lZ 14) (tf 14 x)) cs from Iff.rfl).trans (kQ (ts:=lZ 14) (x:=tf 14 x) rfl)
 | 15,cs,x=>(show @ak.rep (wX 15) (o5 15) w S cs x↔gN (ml w S (lZ 15) (tf 15 x)) cs from Iff.rfl).trans (kQ (ts:=lZ 15) (x:=tf 15 x) rfl)
 | 16,_,_|17,_,_|18,_,_|19,_,_|20,_,_|21,_,_|22,_,_|23,_,_|24,_,_|25,_,_|26,_,_|27,_,_|28,_,_=>Iff.rfl
 | _+29,_,_=>Iff.rfl
end
inductive AV where
 | val (v:Value)
 | sym (v:Value)
 | list (t:Ty) (xs:List (El t)) (q:Bool)
 | ptr (o off:Nat)
 | own (o:Nat)
 | ref (t:Ty) (x:El t) (off:Nat)
 | elo (o i sz off:Nat)
 | any (o:Nat)
 | sub (o o2 off:Nat)
 | mp (o:Nat)
 | map (kt:Kt) (t:Ty) (f:kt.K->Option (El t))
 | mrow (q:Nat) (kt:Kt) (k:kt.K)
 | clo (k:FuncId) (o:Nat)
 | cl (k:FuncId) (t:Ty) (x:El t)
inductive XV where
 | one (a:AV)
 | agg (cs:List AV)
 | tup (l:List (Bool×List AV))
inductive aa where
 | cells (ty:TypeId) (cs:List AV)
 | row (t:Ty) (e:TypeId) (rs:List (El t))
 | zc (e:TypeId) (t tn:Ty) (dQ:Nat) (done:List (El t)) (rest:List (El tn))
 | zip (o2:Nat) (e:TypeId) (t tn:Ty) (dQ:Nat) (done:List (El t)) (cur:List AV) (rest:List (El tn))
 | dead
 | mp (kt:Kt) (t:Ty) (n:Nat) (f:kt.K->Option (El t))
 | mq (q:Nat)
 | mr (p:Nat) (kt:Kt) (t:Ty) (e:TypeId) (n:Nat) (f:kt.K->Option (List (El t)))
 | mx (p:Nat) (kt:Kt) (t:Ty) (e:TypeId) (n:Nat) (f:kt.K->Option (List (El t))) (k:kt.K)
inductive F2 {α β:Type} (R:α->β->Prop):List α->List β->Prop where
 | nil:F2 R [] []
 | cons {x:α} {y:β} {l:List α} {m:List β}:R x y->F2 R l m->F2 R (x::l) (y::m)
section
variable {α β γ:Type} {R R':α->β->Prop}
theorem F2.mono {l:List α} {m:List β} (h:F2 R l m) (hr:∀x y,R x y->R' x y):F2 R' l m:=by
 induction h with
 | nil=>exact .nil
 | cons h _ ih=>exact .cons (hr _ _ h) ih
theorem F2.length {l:List α} {m:List β} (h:F2 R l m):l.length=m.length:=by
 induction h with
 | nil=>rfl
 | cons _ _ ih=>simp[ih]
theorem F2.get {l:List α} {m:List β} (h:F2 R l m):∀{i:Nat} {x:α},l[i]?=some x->∃y,m[i]?=some y/\R x y:=by
 induction h with
 | nil=>intro i x h;cases h
 | cons h _ ih=>
  intro i x hx;cases i with
  | zero=>injection hx with hx;subst hx;exact⟨_,rfl,h⟩
  | succ i=>exact ih (by simpa using hx)
theorem F2.append {l l':List α} {m m':List β} (h:F2 R l m) (h':F2 R l' m'):F2 R (l++l') (m++m'):=by
 induction h with
 | nil=>exact h'
 | cons h _ ih=>exact .cons h ih
theorem F2.take {l:List α} {m:List β} (h:F2 R l m):∀n,F2 R (l.take n) (m.take n):=by
 induction h with
 | nil=>intro n;simp;exact .nil
 | cons h _ ih=>intro n;cases n with
  | zero=>exact .nil
  | succ n=>exact .cons h (ih n)
theorem F2.drop {l:List α} {m:List β} (h:F2 R l m):∀n,F2 R (l.drop n) (m.drop n):=by
 induction h with
 | nil=>intro n;simp;exact .nil
 | cons h k ih=>intro n;cases n with
  | zero=>exact .cons h k
  | succ n=>exact ih n
theorem F2.right {l:List α} {m:List β} (h:F2 R l m):∀y∈m,∃x∈l,R x y:=by
 induction h with
 | nil=>intro y h;cases h
 | cons h _ ih=>
  intro y hy;rcases List.mem_cons.1 hy with rfl|hy
  ·exact⟨_,List.mem_cons_self,h⟩
  ·obtain⟨x,hx,hr⟩:=ih y hy;exact⟨x,List.mem_cons_of_mem _ hx,hr⟩
end
def nE:Value->Bool
 | .tuple _=>false
 | _=>true
theorem yW {v:Value} (h:v.oneCell'=true):nE v=true:=by
 cases v with
 | tuple _=>cases h
 | _=>rfl
def lD (b:Nat) (l:List (Value×Value)):Value:=.agg ((.map (some b))::l.map λp=>.agg #[p.1,p.2]).toArray
theorem uI:∀{l l':List (Value×Value)},(l.map λp=>Value.agg #[p.1,p.2])=(l'.map λp=>Value.agg #[p.1,p.2])->l=l'
 | [],[],_=>rfl
 | [],_::_,h=>by cases h
 | _::_,[],h=>by cases h
 | p::l,p'::l',h=>by
  simp only[List.map_cons,List.cons.injEq,Value.agg.injEq] at h;have h1:=Array.toList_inj.2 h.1;simp only[List.cons.injEq,and_true] at h1;rw[uI h.2];exact congrArg (·::l') (Prod.ext h1.1 h1.2)
theorem gL {b b':Nat} {l l':List (Value×Value)} (h:lD b l=lD b' l'):b=b'/\l=l':=by
 injection h with h
 have h:=Array.toList_inj.2 h;simp only[List.cons.injEq,Value.map.injEq,Option.some.injEq] at h;exact⟨h.1,uI h.2⟩
def eI (bs aD:List Value):Prop:=∀(o:Nat) (u:Value),bs[o]?=some u->nE u=true->aD[o]?=some u
theorem eI.refl (bs:List Value):eI bs bs:=λ_ _ h _=>h
def VR (bs:List Value) (w:World) (S:Nat->Prop):AV->Value->Prop
 | .val u,v=>v=u/\u.oneCell'=true
 | .sym u,v=>v=u/\u.oneCell'=true
 | .list t xs q,v=>∃A n c,v=.slice A n c/\RS (α:=El t) w S A n c xs/\(q=true->xs=[]->A=none)
 | .ptr o off,v=>∃g,bs[o]?=some (.pointer (some ⟨g,0,none⟩))/\v=.pointer (some ⟨g,off,none⟩)
 | .own o,v=>bs[o]?=some v/\∃A n c,v=.slice A n c
 | .ref t x off,v=>∃b p cs,S b/\v=.pointer (some ⟨b,p+off,none⟩)/\ak.rep (α:=El t) w S cs x/\bb w ⟨b,p,none⟩ cs
 | .elo o i sz off,v=>∃g n c,bs[o]?=some (.slice (some ⟨g,0,none⟩) n c)/\i<n/\v=.pointer (some ⟨g,i*sz+off,none⟩)
 | .any o,v=>bs[o]?=some v/\v.oneCell'=true
 | .sub _ o2 off,v=>∃g p,bs[o2]?=some (.pointer (some ⟨g,p,none⟩))/\v=.pointer (some ⟨g,p+off,none⟩)
 | .mp o,v=>bs[o]?=some v/\∃b,v=.map (some b)
 | .map kt t f,v=>ak.rep (α:=El (.mp kt t)) w S [v] f
 | .mrow q kt k,v=>∃b l,bs[q]?=some (lD b l)/\((kt.val k,v)∈l\/(v=.slice none 0 0/\∀u,(kt.val k,u)∉l))/\∃A n c,v=.slice A n c
 | .clo k o,v=>∃g,bs[o]?=some (.pointer (some ⟨g,0,none⟩))/\v=.func (.func k) #[] #[.pointer (some ⟨g,0,none⟩)]
 | .cl k t x,v=>∃b cs,S b/\v=.func (.func k) #[] #[.pointer (some ⟨b,0,none⟩)]/\ak.rep (α:=El t) w S cs x/\bb w ⟨b,0,none⟩ cs
section
variable {bs aD:List Value} {w w':World} {S S':Nat->Prop} {a:AV} {v:Value}
theorem VR.keep (h:VR bs w S a v) (hS:∀b,S b->S' b) (hk:af S w w') (hb:eI bs aD):VR aD w' S' a v:=by
 cases a with
 | val u=>exact h
 | sym u=>exact h
 | list t xs q=>obtain⟨A,n,c,e,h,hq⟩:=h;exact⟨A,n,c,e,h.keep hS hk,hq⟩
 | ptr o off=>obtain⟨g,h1,h2⟩:=h;exact⟨g,hb _ _ h1 rfl,h2⟩
 | own o=>obtain⟨h,A,n,c,rfl⟩:=h;exact⟨hb _ _ h rfl,_,_,_,rfl⟩
 | ref t x off=>obtain⟨b,p,cs,h1,h2,h3,h4⟩:=h;exact⟨b,p,cs,hS _ h1,h2,ak.keep h3 hS hk,h4.keep hk h1⟩
 | elo o i sz off=>obtain⟨g,n,c,h1,h2⟩:=h;exact⟨g,n,c,hb _ _ h1 rfl,h2⟩
 | any o=>exact⟨hb _ _ h.1 (yW h.2),h.2⟩
 | sub o o2 off=>obtain⟨g,p,h1,h2⟩:=h;exact⟨g,p,hb _ _ h1 rfl,h2⟩
 | mp o=>obtain⟨h,b,rfl⟩:=h;exact⟨hb _ _ h rfl,b,rfl⟩
 | map kt t f=>exact ak.keep (α:=El (.mp kt t)) h hS hk
 | mrow q kt k=>obtain⟨b,l,h1,h2⟩:=h;exact⟨b,l,hb _ _ h1 rfl,h2⟩
 | clo k o=>obtain⟨g,h1,h2⟩:=h;exact⟨g,hb _ _ h1 rfl,h2⟩
 | cl k t x=>obtain⟨b,cs,h1,h2,h3,h4⟩:=h;exact⟨b,cs,hS _ h1,h2,ak.keep h3 hS hk,h4.keep hk h1⟩
theorem VR.one (h:VR bs w S a v):v.oneCell'=true:=by
 cases a with
 | val u=>rw[h.1];exact h.2
 | sym u=>rw[h.1];exact h.2
 | list t xs q=>obtain⟨A,n,c,rfl,_⟩:=h;rfl
 | ptr o off=>obtain⟨g,_,rfl⟩:=h;rfl
 | own o=>obtain⟨_,A,n,c,rfl⟩:=h;rfl
 | ref t x off=>obtain⟨b,p,cs,_,rfl,_⟩:=h;rfl
 | elo o i sz off=>obtain⟨g,n,c,_,_,rfl⟩:=h;rfl
 | any o=>exact h.2
 | sub o o2 off=>obtain⟨g,p,_,rfl⟩:=h;rfl
 | mp o=>obtain⟨_,b,rfl⟩:=h;rfl
 | map kt t f=>
  rcases h with⟨e,_⟩|⟨b,n,g,e,_⟩
  ·injection e with e;rw[e];rfl
  ·injection e with e;rw[e];rfl
 | mrow q kt k=>obtain⟨b,l,_,_,A,n,c,rfl⟩:=h;rfl
 | clo k o=>obtain⟨g,_,rfl⟩:=h;rfl
 | cl k t x=>obtain⟨b,cs,_,rfl,_⟩:=h;rfl
end
def CR (bs:List Value) (w:World) (S:Nat->Prop) (ag:Bool) (cs:List AV) (v:Value):Prop:=
 if ag then∃vs:List Value,v=.agg vs.toArray/\F2 (VR bs w S) cs vs else∃a,cs=[a]/\VR bs w S a v
def XR (bs:List Value) (w:World) (S:Nat->Prop):XV->Value->Prop
 | .one a,v=>VR bs w S a v
 | .agg cs,v=>CR bs w S true cs v
 | .tup l,v=>∃vs:List Value,v=.tuple vs.toArray/\F2 (λp v=>CR bs w S p.1 p.2 v) l vs
section
variable {bs aD:List Value} {w w':World} {S S':Nat->Prop} {v:Value}
theorem CR.keep {ag:Bool} {cs:List AV} (h:CR bs w S ag cs v) (hS:∀b,S b->S' b) (hk:af S w w') (hb:eI bs aD):CR aD w' S' ag cs v:=by
 unfold CR at h ⊢;cases ag with
 | true=>obtain⟨vs,e,h⟩:=h;exact⟨vs,e,h.mono λ_ _ h=>h.keep hS hk hb⟩
 | false=>obtain⟨a,e,h⟩:=h;exact⟨a,e,h.keep hS hk hb⟩
theorem XR.keep {x:XV} (h:XR bs w S x v) (hS:∀b,S b->S' b) (hk:af S w w') (hb:eI bs aD):XR aD w' S' x v:=by
 cases x with
 | one a=>exact VR.keep h hS hk hb
 | agg cs=>exact CR.keep h hS hk hb
 | tup l=>obtain⟨vs,e,h⟩:=h;exact⟨vs,e,h.mono λ_ _ h=>h.keep hS hk hb⟩
end
def one:(t:Ty)->El t->AV
 | .int k,n=>.sym (.int k n)
 | .bool,b=>.sym (.bool b)
 | .str,s=>.sym (.string s)
 | .byte,x=>.sym (.int .u8 (x.toNat:Int))
 | .limb,x=>.sym (.int .u32 (x.toNat:Int))
 | .list t,xs=>.list t xs false
 | .nil,_=>.val (.slice none 0 0)
 | .raw,x=>.sym x
 | .st _,_=>.val undef
 | .mp kt t,f=>.map kt t f
def yH:(ts:List Ty)->yZ ts->List AV
 | [],_=>[]
 | t::ts,x=>one t x.1::yH ts x.2
def kS:(t:Ty)->El t->List AV
 | .st k,x=>yH (lZ k) (tf k x)
 | t,x=>[one t x]
def B8 (k:IntKind):AV->Option Int
 | .val (.int j n)|.sym (.int j n)=>if j=k then some n else none
 | _=>none
def vh:AV->Option Bool
 | .val (.bool b)|.sym (.bool b)=>some b
 | _=>none
def BV:AV->Option ByteArray
 | .val (.string b)|.sym (.string b)=>some b
 | _=>none
def gd (t:Ty):AV->Option (List (El t))
 | .list t' xs _=>match Ty.eq? t' t with
  | some h=>some (h.down▸xs)
  | none=>none
 | .val (.slice none 0 0)=>some []
 | _=>none
def B6:AV->Option Unit
 | .val (.slice none 0 0)=>some ()
 | _=>none
def BW:AV->Option Value
 | .val v|.sym v=>some v
 | _=>none
def vg:AV->Option (BitVec 32)
 | .val (.int .u32 n)=>if((BitVec.ofInt 32 n).toNat:Int)=n then some (BitVec.ofInt 32 n) else none
 | _=>none
def B7 (kt:Kt) (t:Ty):AV->Option (El (.mp kt t))
 | .map fU t' f=>match Ty.eq? (.mp fU t') (.mp kt t) with
  | some h=>some (h.down▸(f:El (.mp fU t')))
  | none=>none
 | .val (.map none)=>some λ_=>none
 | _=>none
def Ca:(t:Ty)->AV->Option (El t)
 | .limb,a=>vg a
 | .mp kt t,a=>B7 kt t a
 | .nil,a=>B6 a
 | .raw,a=>BW a
 | .int k,a=>B8 k a
 | .bool,a=>vh a
 | .str,a=>BV a
 | .list t,a=>gd t a
 | _,_=>none
def OL:(ts:List Ty)->List AV->Option (yZ ts)
 | [],[]=>some ()
 | t::ts,a::l=>match Ca t a,OL ts l with
  | some x,some y=>if t.one then some (x,y) else none
  | _,_=>none
 | _,_=>none
def un:(t:Ty)->List AV->Option (El t)
 | .st k,cs=>(OL (lZ k) cs).map (OP k)
 | t,[a]=>Ca t a
 | _,_=>none
section
variable {bs:List Value} {w:World} {S:Nat->Prop}
theorem mn {t:Ty} {x:El t} {c:Value} (ht:t.one=true) (h:ak.rep w S [c] x):VR bs w S (one t x) c:=by
 cases t with
 | int k=>have h':[c]=[Value.int k x]:=h;injection h' with h';exact⟨h',rfl⟩
 | bool=>have h':[c]=[Value.bool x]:=h;injection h' with h';exact⟨h',rfl⟩
 | str=>have h':[c]=[Value.string x]:=h;injection h' with h';exact⟨h',rfl⟩
 | byte=>have h':[c]=[Value.int .u8 (UInt8.toNat x:Int)]:=h;injection h' with h';exact⟨h',rfl⟩
 | limb=>have h':[c]=[Value.int .u32 (BitVec.toNat x:Int)]:=h;injection h' with h';exact⟨h',rfl⟩
 | list t=>obtain⟨A,n,q,e,h⟩:=h;injection e with e;exact⟨A,n,q,e,h,λe=>by cases e⟩
 | nil=>have h':[c]=[Value.slice none 0 0]:=h;injection h' with h';exact⟨h',rfl⟩
 | raw=>obtain⟨h',ho⟩:=h;injection h' with h';exact⟨h',ho⟩
 | st k=>cases ht
 | mp kt t=>exact h
theorem pZ:∀{ts:List Ty} {cs:List Value} {x:yZ ts},FR w S ts cs x->F2 (VR bs w S) (yH ts x) cs
 | [],_,_,h=>by have h':_=[]:=h;subst h';exact .nil
 | t::ts,_,x,h=>by
  obtain⟨c,r,rfl,ht,h1,h2⟩:=h;exact .cons (mn ht h1) (pZ h2)
theorem fZ {t:Ty} {cs:List Value} {x:El t} (h:ak.rep w S cs x):F2 (VR bs w S) (kS t x) cs:=by
 have hl:=ak.len h;cases t with
 | st k=>exact pZ ((OO (k:=k)).1 h)
 | int k=>have h':cs=[Value.int k x]:=h;subst h';exact .cons ⟨rfl,rfl⟩ .nil
 | bool=>have h':cs=[Value.bool x]:=h;subst h';exact .cons ⟨rfl,rfl⟩ .nil
 | str=>have h':cs=[Value.string x]:=h;subst h';exact .cons ⟨rfl,rfl⟩ .nil
 | byte=>have h':cs=[Value.int .u8 (UInt8.toNat x:Int)]:=h;subst h';exact .cons ⟨rfl,rfl⟩ .nil
 | limb=>have h':cs=[Value.int .u32 (BitVec.toNat x:Int)]:=h;subst h';exact .cons ⟨rfl,rfl⟩ .nil
 | list t=>obtain⟨A,n,q,e,h⟩:=h;subst e;exact .cons ⟨A,n,q,rfl,h,λe=>by cases e⟩ .nil
 | nil=>have h':cs=[Value.slice none 0 0]:=h;subst h';exact .cons ⟨rfl,rfl⟩ .nil
 | raw=>obtain⟨h',ho⟩:=h;subst h';exact .cons ⟨rfl,ho⟩ .nil
 | mp kt t=>
  rcases h with⟨rfl,h⟩|⟨b,n,g,rfl,h⟩
  ·exact .cons (.inl ⟨rfl,h⟩) .nil
  ·exact .cons (.inr ⟨b,n,g,rfl,h⟩) .nil
theorem jh {t:Ty} {a:AV} {x:El t} {v:Value} (hu:Ca t a=some x) (h:VR bs w S a v):ak.rep w S [v] x:=by
 cases t with
 | int k=>
  have hu:B8 k a=some x:=hu;show[v]=[Value.int k x];unfold B8 at hu;split at hu
  ·split at hu
   ·rename_i e;injection hu with hu;subst e hu;rw[h.1]
   ·cases hu
  ·split at hu
   ·rename_i e;injection hu with hu;subst e hu;rw[h.1]
   ·cases hu
  ·cases hu
 | bool=>
  have hu:vh a=some x:=hu;show[v]=[Value.bool x];unfold vh at hu;split at hu
  ·injection hu with hu;subst hu;rw[h.1]
  ·injection hu with hu;subst hu;rw[h.1]
  ·cases hu
 | str=>
  have hu:BV a=some x:=hu;show[v]=[Value.string x];unfold BV at hu;split at hu
  ·injection hu with hu;subst hu;rw[h.1]
  ·injection hu with hu;subst hu;rw[h.1]
  ·cases hu
 | list t=>
  have hu:gd t a=some x:=hu;show∃A n c,[v]=[Value.slice A n c]/\RS w S A n c x;unfold gd at hu;split at hu
  ·split at hu
   ·rename_i t' xs _ _ e _;injection hu with hu
    obtain⟨A,n,c,rfl,h,_⟩:=h;obtain⟨e⟩:=e;subst e hu;exact⟨A,n,c,rfl,h⟩
   ·cases hu
  ·injection hu with hu;subst hu;rw[h.1];exact⟨none,0,0,rfl,RS.nil _ _⟩
  ·cases hu
 | nil=>
  have hu:B6 a=some x:=hu;show[v]=[Value.slice none 0 0];unfold B6 at hu;split at hu
  ·rw[h.1]
  ·cases hu
 | raw=>
  have hu:BW a=some x:=hu;unfold BW at hu;split at hu
  ·injection hu with hu;subst hu;exact⟨by rw[h.1],h.2⟩
  ·injection hu with hu;subst hu;exact⟨by rw[h.1],h.2⟩
  ·cases hu
 | limb=>
  have hu:vg a=some x:=hu;show[v]=[Value.int .u32 (BitVec.toNat x:Int)];unfold vg at hu;split at hu
  ·split at hu
   ·rename_i e;injection hu with hu
    subst hu;rw[h.1,e]
   ·cases hu
  ·cases hu
 | mp kt t=>
  have hu:B7 kt t a=some x:=hu;unfold B7 at hu;split at hu
  ·split at hu
   ·rename_i e _;injection hu with hu
    obtain⟨e⟩:=e;injection e with e1 e2
    subst e1 e2 hu;exact h
   ·cases hu
  ·injection hu with hu;subst hu;exact .inl ⟨by rw[h.1],λ_=>rfl⟩
  ·cases hu
 | _=>cases hu
theorem xn:∀{ts:List Ty} {us:List AV} {x:yZ ts} {cs:List Value},OL ts us=some x->F2 (VR bs w S) us cs->FR w S ts cs x
 | [],[],_,_,_,h=>by cases h;rfl
 | t::ts,a::l,x,_,hu,h=>by
  cases h with
  | cons h1 h2=>
   unfold OL at hu;split at hu
   ·rename_i y z hy hz;split at hu
    ·rename_i ht;injection hu with hu
     subst hu;exact⟨_,_,rfl,ht,jh hy h1,xn hz h2⟩
    ·cases hu
   ·cases hu
 | [],_::_,_,_,hu,_=>by cases hu
 | _::_,[],_,_,hu,_=>by cases hu
theorem gQ {t:Ty} {us:List AV} {x:El t} {cs:List Value} (hu:un t us=some x) (h:F2 (VR bs w S) us cs):ak.rep w S cs x:=by
 unfold un at hu;split at hu
 ·rename_i k;cases e:OL (lZ k) us with
  | none=>rw[e] at hu;cases hu
  | some y=>
   rw[e] at hu;injection hu with hu
   subst hu;exact(OO (k:=k)).2 (by rw[KH];exact xn e h)
 ·cases h with
  | cons h1 h2=>cases h2;exact jh hu h1
 ·cases hu
end
end Go.Proofs.YtichkplomldgiaaGreatDoor
