/- Fld2 -/
import Derived.Test.YtjlhbfbdcfajfaaGreatDoorB31
namespace Go.Proofs.YtjlhbfbdcfajfaaGreatDoor
open Go.RowKit
theorem Tryz.blkTy:cW Tryz.prog 79 110 4 64:=cW.mk' (z:=.agg #[.string ⟨#[]⟩,.string ⟨#[]⟩,.slice none 0 0,.int .i64 0]) Tryz.underlying79 (by kernel_rfl) rfl (by omega)
def SD (W w:World) (g:Nat) (v v4:Value) (b:Nat):Prop:=W.heap.size≤b∧b<w.heap.size∧b≠g∧some b≠v.ownBlock∧some b≠v4.ownBlock
structure i9 (W w:World) (g:Nat) (title:ByteArray) (A:Option Addr) (n c:Nat) (bs:List ap) (v4:Value) (ns:List ByteArray):Prop where
 blk:aK w g 81 #[.string title,.slice A n c]
 own:Own w (SD W w g (.slice A n c) v4) W.heap.size 110 (.slice A n c) bs
 ne:(Value.slice A n c).ownBlock≠some g
 hg:W.heap.size≤g
 bel:Below W.heap.size W w
 nms:Own w aA W.heap.size 9 v4 ns
 ne4:v4.ownBlock≠some g
 nev:∀b,v4.ownBlock=some b→(Value.slice A n c).ownBlock≠some b
section
variable {W w w':World} {g:Nat} {title:ByteArray} {A:Option Addr} {n c:Nat} {bs:List ap} {v4:Value} {ns:List ByteArray}
theorem i9.base (h:i9 W w g title A n c bs v4 ns):W.heap.size≤w.heap.size:=h.bel.size
theorem i9.grow (h:i9 W w g title A n c bs v4 ns) (hb:Below w.heap.size w w'):i9 W w' g title A n c bs v4 ns:=by
 refine⟨h.blk.keep hb,?_,h.ne,h.hg,h.bel.trans (hb.mono h.bel.size),h.nms.below hb,h.ne4,h.nev⟩;exact(h.own.below hb).widen (fun b bq=>⟨bq.1,Nat.lt_of_lt_of_le bq.2.1 hb.size,bq.2.2⟩) (fun b bq=>⟨bq.2.1,bq.2.2.2.1⟩)
theorem i9.apart_of {w0:World} (h0:i9 W w0 g title A n c bs v4 ns) {b:Nat} (h1:w0.heap.size≤b) (h2:b<w.heap.size):SD W w g (.slice A n c) v4 b:=
 ⟨Nat.le_trans h0.base h1,h2,by have:=h0.blk.lt;omega,fun e=>by have:=(h0.own.lt b e.symm).2;omega,fun e=>by have:=(h0.nms.lt b e.symm).2;omega⟩
theorem i9.rs (h:i9 W w g title A n c bs v4 ns):RS w (fun b=>W.heap.size≤b∧b<w.heap.size) A n c bs:=h.own.rs (fun _b hb=>⟨hb.1,hb.2.1⟩) (fun _g h1 h2=>⟨h1,h2⟩)
theorem i9.next (h:i9 W w g title A n c bs v4 ns) {A':Option Addr} {n' c':Nat} {ys:List ap} (q1:Own w' (SD W w g (.slice A n c) v4) W.heap.size 110 (.slice A' n' c') (bs++ys)) (q2:w.grownBy w' (Value.slice A n c).ownBlock) (q3:(Value.slice A' n' c').ownBlock=(Value.slice A n c).ownBlock∨(Value.slice A' n' c').ownBlock=some w.heap.size):i9 W (w'.setCell ⟨g,1,none⟩ (.slice A' n' c')) g title A' n' c' (bs++ys) v4 ns:=by
 have dA:(Value.slice A' n' c').ownBlock≠some g:=fun e=>by
  rcases q3 with q|q
  ·exact h.ne (by rw[←q];exact e)
  ·rw[q] at e;injection e with e
   have:=h.blk.lt;omega
 have hs:(w'.setCell ⟨g,1,none⟩ (.slice A' n' c')).heap.size=w'.heap.size:=by simp
 have hk:v4.ownBlock=none∨v4.ownBlock≠(Value.slice A n c).ownBlock:=by
  cases hv:v4.ownBlock with
  | none=>exact .inl rfl
  | some b=>exact .inr fun e=>h.nev b hv e.symm
 refine⟨(h.blk.grown q2 (fun e=>h.ne e.symm)).set_ 1 _,?_,dA,h.hg,(h.bel.grown q2 h.base (fun k hk=>(h.own.lt k hk).1)).setCell (p:=⟨g,1,none⟩) h.hg _,(h.nms.keep q2 hk (fun b hb=>hb.elim)).setCell (p:=⟨g,1,none⟩) h.ne4 (fun b hb=>hb.elim) _,h.ne4,fun b hb e=>?_⟩
 ·have h1:=q1.setCell (p:=⟨g,1,none⟩) dA (fun b hb=>hb.2.2.1) (.slice A' n' c');have h2:=q1.apart;exact h1.widen (fun b hb=>⟨hb.1,by rw[hs];exact Nat.lt_of_lt_of_le hb.2.1 q2.size,hb.2.2.1,(h2 b hb).2,hb.2.2.2.2⟩) (fun b hb=>⟨hb.2.1,hb.2.2.2.1⟩)
 ·rcases q3 with q|q
  ·exact h.nev b hb (by rw[←q];exact e)
  ·rw[q] at e;injection e with e
   have:=(h.nms.lt b hb).2;omega
theorem i9.name (h:i9 W w g title A n c bs v4 ns) {v':Value} {x:ByteArray} {o:Obj} (q1:Own w' aA W.heap.size 9 v' (ns++[x])) (q2:(w.alloc o).grownBy w' v4.ownBlock) (q3:v'.ownBlock=v4.ownBlock∨v'.ownBlock=some (w.heap.size+1)):i9 W w' g title A n c bs v' (ns++[x]):=by
 have ha:Below w.heap.size w (w.alloc o):=aT _ _;have hs:w.heap.size≤w'.heap.size:=Nat.le_trans ha.size q2.size;have h1:=h.grow ha;have Cm:∀b,b<w.heap.size→some b≠v4.ownBlock→some b≠v'.ownBlock:=fun b hb dA e=>by
  rcases q3 with q|q
  ·exact dA (by rw[e,q])
  ·rw[q] at e;injection e with e
   omega
 have hk:(Value.slice A n c).ownBlock=none∨(Value.slice A n c).ownBlock≠v4.ownBlock:=by
  cases hv:(Value.slice A n c).ownBlock with
  | none=>exact .inl rfl
  | some b=>exact .inr fun e=>h.nev b e.symm hv
 refine⟨h1.blk.grown q2 (fun e=>h.ne4 e.symm),?_,h.ne,h.hg,h1.bel.grown q2 h1.base (fun k hk=>(h.nms.lt k hk).1),q1,fun e=>Cm g h.blk.lt (fun e2=>h.ne4 e2.symm) e.symm,fun b hb e=>?_⟩
 ·have hA:∀b,SD W w g (.slice A n c) v4 b→SD W w' g (.slice A n c) v' b:=fun b hb=>⟨hb.1,Nat.lt_of_lt_of_le hb.2.1 hs,hb.2.2.1,hb.2.2.2.1,Cm b hb.2.1 hb.2.2.2.2⟩;have h2:Own (w.alloc o) (SD W w g (.slice A n c) v4) W.heap.size 110 (.slice A n c) bs:=h.own.below ha;exact(h2.keep q2 hk (fun b hb=>hb.2.2.2.2)).widen hA (fun b hb=>⟨hb.2.1,hb.2.2.2.1⟩)
 ·exact Cm b (h.own.lt b e).2 (fun e2=>h.nev b e2.symm e) hb.symm
theorem PW {k i sU n:Nat} {col:Nat→Nat} {cs:List Value} {Hn:Array Value} (hb:Below W.heap.size W w) (hg:W.heap.size≤g) (hc:col g=k) (hk:aK w g 81 Hn) (YF:i≠k) (hg13:W.heap.size≤sU) (N4:col sU=i) (qO:aK w sU 110 cs.toArray) (hf:Flat w (fun b=>RD W k col w b∧col b≠i) cs bs) (hn:n=bs.length) (hm:n≤maxLen):i9 W (w.setRow g #[.string title,.slice (some ⟨sU,0,none⟩) n n]) g title (some ⟨sU,0,none⟩) n n bs (.slice none 0 0) []:=by
 have dA:sU≠g:=fun e=>YF (by rw[←N4,←hc,e]);have hs:(w.setRow g #[.string title,.slice (some ⟨sU,0,none⟩) n n]).heap.size=w.heap.size:=by simp
 refine⟨setRow_heap _ _ _ _ _ _ hk,?_,fun e=>dA (by injection e),hg,below_setRow hb hg _,Own.nil _ _ _,(fun e=>by cases e),fun b hb=>by cases hb⟩;refine Ip (S:=SD W (w.setRow g #[.string title,.slice (some ⟨sU,0,none⟩) n n]) g (.slice (some ⟨sU,0,none⟩) n n) (.slice none 0 0)) hg13 ((setRow_other _ _ _ _ dA).trans qO) (hf.keep (fun b bq=>⟨bq.1.1,by rw[hs];exact bq.1.2.1,fun e=>bq.1.2.2 (by rw[e];exact hc),fun e=>?_,fun e=>by cases e⟩) (fun p hp=>?_)) hn hm (fun b bq=>⟨bq.2.1,fun e=>bq.2.2.2.1 (by rw[e];rfl)⟩)
 ·injection e with e
  exact bq.2 (by rw[e];exact N4)
 ·exact cell_setRow_other _ _ _ _ (fun e=>hp.1.2.2 (by rw[e];exact hc))
end
end Go.Proofs.YtjlhbfbdcfajfaaGreatDoor
