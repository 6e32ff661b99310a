/- Fld -/
import Derived.Test.YtjlhbfbdcfajfaaGreatDoorB28
import Derived.Test.YtjlhbfbdcfajfaaGreatDoorB29
namespace Go.Proofs.YtjlhbfbdcfajfaaGreatDoor
open Go.RowKit
def Mq (v:Int):Prop:= -9223372036854775808≤v∧v≤9223372036854775807
def Fc (x:ay):Prop:=Mq x.method∧Mq x.seats∧Mq x.ranks∧Mq x.digits∧Mq x.ties∧Mq x.over∧Mq x.skip∧x.cands.length≤274877906944
theorem Tryz.fldTy:cW Tryz.prog 108 113 3 48:=cW.mk' (z:=.agg #[.string ⟨#[]⟩,.slice none 0 0,.int .i64 0]) Tryz.underlying108 (by kernel_rfl) rfl (by omega)
theorem ΦL.of_clone {W w w':World} {k i:Nat} {e:Ending} {col:Nat→Nat} {xs:List ByteArray} (h:od w 9 xs e w') (hW:W.heap.size≤w.heap.size) (hi:i≠k):∃v,e=.returned v∧Below w.heap.size w w'∧ΦL W k xs v (tJ col w i) w':=by
 obtain⟨v',rfl,ho,hb⟩:=h;obtain⟨A,n,c,rfl,_⟩:=ho.slice;exact⟨_,rfl,hb,A,n,c,rfl,ho.rs (fun _ h=>h.elim) fun g h1 h2=>⟨Nat.le_trans hW h1,h2,by rw[nW h1];exact hi⟩⟩
structure rF (W w:World) (g:Nat) (kind name:ByteArray) (A:Option Addr) (n c:Nat) (fs:List ag):Prop where
 blk:aK w g 110 #[.string kind,.string name,.slice A n c,.int .i64 0]
 own:Own w (fun b=>W.heap.size≤b∧b<w.heap.size∧b≠g∧some b≠(Value.slice A n c).ownBlock) W.heap.size 113 (.slice A n c) fs
 ne:(Value.slice A n c).ownBlock≠some g
 hg:W.heap.size≤g
 bel:Below W.heap.size W w
section
variable {W w w':World} {g:Nat} {kind name:ByteArray} {A:Option Addr} {n c:Nat} {fs:List ag}
theorem rF.base (h:rF W w g kind name A n c fs):W.heap.size≤w.heap.size:=h.bel.size
theorem rF.grow (h:rF W w g kind name A n c fs) (hb:Below w.heap.size w w'):rF W w' g kind name A n c fs:=by
 refine⟨h.blk.keep hb,?_,h.ne,h.hg,h.bel.trans (hb.mono h.bel.size)⟩;exact(h.own.below hb).widen (fun b bq=>⟨bq.1,Nat.lt_of_lt_of_le bq.2.1 hb.size,bq.2.2⟩) (fun b bq=>⟨bq.2.1,bq.2.2.2⟩)
theorem rF.apart_of {w0:World} (_:rF W w g kind name A n c fs) (h0:rF W w0 g kind name A n c fs) {b:Nat} (h1:w0.heap.size≤b) (h2:b<w.heap.size):W.heap.size≤b∧b<w.heap.size∧b≠g∧some b≠(Value.slice A n c).ownBlock:=
 ⟨Nat.le_trans h0.base h1,h2,by have:=h0.blk.lt;omega,fun e=>by have:=(h0.own.lt b e.symm).2;omega⟩
theorem rF.rs (h:rF W w g kind name A n c fs):RS w (fun b=>W.heap.size≤b∧b<w.heap.size) A n c fs:=h.own.rs (fun _b hb=>⟨hb.1,hb.2.1⟩) (fun _g h1 h2=>⟨h1,h2⟩)
theorem rF.next (h:rF W w g kind name A n c fs) {A':Option Addr} {n' c':Nat} {ys:List ag} (q1:Own w' (fun b=>W.heap.size≤b∧b<w.heap.size∧b≠g∧some b≠(Value.slice A n c).ownBlock) W.heap.size 113 (.slice A' n' c') (fs++ys)) (q2:w.grownBy w' (Value.slice A n c).ownBlock) (q3:(Value.slice A' n' c').ownBlock=(Value.slice A n c).ownBlock∨(Value.slice A' n' c').ownBlock=some w.heap.size):rF W (w'.setCell ⟨g,2,none⟩ (.slice A' n' c')) g kind name A' n' c' (fs++ys):=by
 have dA:(Value.slice A' n' c').ownBlock≠some g:=fun e=>by
  rcases q3 with q|q
  ·exact h.ne (by rw[←q];exact e)
  ·rw[q] at e;injection e with e
   have:=h.blk.lt;omega
 have hs:(w'.setCell ⟨g,2,none⟩ (.slice A' n' c')).heap.size=w'.heap.size:=by simp
 refine⟨(h.blk.grown q2 (fun e=>h.ne e.symm)).set_ 2 _,?_,dA,h.hg,(h.bel.grown q2 h.base (fun k hk=>(h.own.lt k hk).1)).setCell (p:=⟨g,2,none⟩) h.hg _⟩;have h1:=q1.setCell (p:=⟨g,2,none⟩) dA (fun b hb=>hb.2.2.1) (.slice A' n' c');have h2:=q1.apart;refine h1.widen (fun b hb=>⟨hb.1,by rw[hs];exact Nat.lt_of_lt_of_le hb.2.1 q2.size,hb.2.2.1,(h2 b hb).2⟩) (fun b hb=>⟨hb.2.1,hb.2.2.2⟩)
theorem Q9 {k i sU n:Nat} {col:Nat→Nat} {cs:List Value} {Hn:Array Value} (hb:Below W.heap.size W w) (hg:W.heap.size≤g) (hc:col g=k) (hk:aK w g 110 Hn) (YF:i≠k) (hg13:W.heap.size≤sU) (N4:col sU=i) (qO:aK w sU 113 cs.toArray) (hf:Flat w (fun b=>RD W k col w b∧col b≠i) cs fs) (hn:n=fs.length) (hm:n≤maxLen):rF W (w.setRow g #[.string kind,.string name,.slice (some ⟨sU,0,none⟩) n n,.int .i64 0]) g kind name (some ⟨sU,0,none⟩) n n fs:=by
 have dA:sU≠g:=fun e=>YF (by rw[←N4,←hc,e]);have hs:(w.setRow g #[.string kind,.string name,.slice (some ⟨sU,0,none⟩) n n,.int .i64 0]).heap.size=w.heap.size:=by simp
 refine⟨setRow_heap _ _ _ _ _ _ hk,?_,fun e=>dA (by injection e),hg,below_setRow hb hg _⟩;refine Ip (S:=fun b=>W.heap.size≤b∧b<(w.setRow g #[.string kind,.string name,.slice (some ⟨sU,0,none⟩) n n,.int .i64 0]).heap.size∧b≠g∧some b≠(Value.slice (some ⟨sU,0,none⟩) n n).ownBlock) hg13 ((setRow_other _ _ _ _ dA).trans qO) (hf.keep (fun b bq=>⟨bq.1.1,by rw[hs];exact bq.1.2.1,fun e=>bq.1.2.2 (by rw[e];exact hc),fun e=>?_⟩) (fun p hp=>?_)) hn hm (fun b bq=>⟨bq.2.1,fun e=>bq.2.2.2 (by rw[e];rfl)⟩)
 ·injection e with e
  exact bq.2 (by rw[e];exact N4)
 ·exact cell_setRow_other _ _ _ _ (fun e=>hp.1.2.2 (by rw[e];exact hc))
end
end Go.Proofs.YtjlhbfbdcfajfaaGreatDoor
