/- Lib -/
import Derived.WalkKit
import Derived.WalkSpells
import Derived.WalkLawsBesides
import Derived.Deep.QuietTactic
import Derived.BigQuiet
import Derived.Lib.Hide
import Derived.Maps.AppendAt
import Derived.Deep.AppendLies
import Derived.RegionTactic
import Derived.OwnWalk
namespace Go.Proofs.YtjlhbfbdcfajfaaGreatDoor
open Go.RowKit
theorem zH {p:Prop} (h:p):Hid p:=h
def eT (w:World) (a:Addr) (cs:List Value):Prop:=∀j u,cs[j]?=some u→w.cell? (a.add j)=some u
theorem zm (a:Addr) (n:Nat):(a.add n).block=a.block:=by unfold Addr.add;split<;>rfl
theorem lm (a:Addr) (i j:Nat):(a.add i).add j=a.add (i+j):=by
 unfold Addr.add;by_cases hi:i=0<;>by_cases hj:j=0<;>simp[hi,hj,Nat.add_assoc]
theorem Gw {w:World} {a:Addr} {u:Value} (h:w.cell? a=some u):a.spot=none:=by
 unfold World.cell? at h;split at h
 ·cases hs:a.spot with
  | none=>rfl
  | some x=>simp[hs] at h
 ·cases h
def aD (S:Nat→Prop) (w w':World):Prop:=∀p:Addr,S p.block→w'.cell? p=w.cell? p
theorem aD.refl (S:Nat→Prop) (w:World):aD S w w:=fun _ _=>rfl
theorem aD.of_below {B:Nat} {w w':World} (h:Below B w w'):aD (·<B) w w':=fun _ hp=>h.cell hp
theorem aD.sub {S S':Nat→Prop} {w w':World} (h:aD S w w') (hS:∀b,S' b→S b):aD S' w w':=fun p hp=>h p (hS _ hp)
theorem aD.trans {S:Nat→Prop} {a b c:World} (h:aD S a b) (k:aD S b c):aD S a c:=fun p hp=>(k p hp).trans (h p hp)
theorem aD.grown {w w':World} {row:Option Nat} (hg:w.grownBy w' row):aD (fun b=>b<w.heap.size∧some b≠row) w w':=
 fun p hp=>World.cell?_of_block (hg.block p.block hp.1 hp.2)
theorem eT.keep {w w':World} {S:Nat→Prop} {a:Addr} {cs:List Value} (h:eT w a cs) (hk:aD S w w') (ha:S a.block):eT w' a cs:=
 fun j u hj=>(hk _ (by rw[zm];exact ha)).trans (h j u hj)
class bG (α:Type) where
 sz:Nat
 rep:World→(Nat→Prop)→List Value→α→Prop
 len:∀{w S cs x},rep w S cs x→cs.length=sz
 keep:∀{w w' S S' cs x},rep w S cs x→(∀b,S b→S' b)→aD S w w'→rep w' S' cs x
instance:bG Int where
 sz:=1
 rep _ _ cs x:=cs=[.int .i64 x]
 len h:=by rw[h];rfl
 keep h _ _:=h
instance:bG Bool where
 sz:=1
 rep _ _ cs x:=cs=[.bool x]
 len h:=by rw[h];rfl
 keep h _ _:=h
instance:bG ByteArray where
 sz:=1
 rep _ _ cs x:=cs=[.string x]
 len h:=by rw[h];rfl
 keep h _ _:=h
instance:bG UInt8 where
 sz:=1
 rep _ _ cs x:=cs=[.int .u8 (x.toNat:Int)]
 len h:=by rw[h];rfl
 keep h _ _:=h
def PP {α:Type} [bG α] (w:World) (S:Nat→Prop) (a:Addr) (xs:List α):Prop:=
 ∀i x,xs[i]?=some x→∃cs,bG.rep w S cs x∧eT w (a.add (i*bG.sz α)) cs
theorem PP.keep {α:Type} [bG α] {w w':World} {S S':Nat→Prop} {a:Addr} {xs:List α} (h:PP w S a xs) (ha:S a.block) (hS:∀b,S b→S' b) (hk:aD S w w'):PP w' S' a xs:=
 fun i x hi=>let ⟨cs,h1,h2⟩:=h i x hi;⟨cs,bG.keep h1 hS hk,h2.keep hk (by rw[zm];exact ha)⟩
def RS {α:Type} [bG α] (w:World) (S:Nat→Prop) (A:Option Addr) (n c:Nat) (xs:List α):Prop:=
 n=xs.length∧n≤c∧c≤maxLen∧(0<n→∃b o,A=some ⟨b,o,none⟩∧S b∧PP w S ⟨b,o,none⟩ xs)
theorem RS.keep {α:Type} [bG α] {w w':World} {S S':Nat→Prop} {A:Option Addr} {n c:Nat} {xs:List α} (h:RS w S A n c xs) (hS:∀b,S b→S' b) (hk:aD S w w'):RS w' S' A n c xs:=by
 obtain⟨h1,h2,hm,h3⟩:=h;exact⟨h1,h2,hm,fun hn=>let ⟨b,o,e,hb,he⟩:=h3 hn;⟨b,o,e,hS _ hb,he.keep hb hS hk⟩⟩
instance {α:Type} [bG α]:bG (List α) where
 sz:=1
 rep w S cs xs:=∃A n c,cs=[.slice A n c]∧RS w S A n c xs
 len h:=by obtain⟨A,n,c,rfl,_⟩:=h;rfl
 keep h hS hk:=by
  obtain⟨A,n,c,rfl,h⟩:=h;exact⟨A,n,c,rfl,h.keep hS hk⟩
section
variable {α:Type} [bG α] {w w':World} {S S':Nat→Prop} {A:Option Addr} {n c:Nat} {xs:List α}
theorem RS.below {B:Nat} (h:RS w S A n c xs) (hb:Below B w w') (hS:∀b,S b→b<B):RS w' S A n c xs:=
 h.keep (fun _ h=>h) ((aD.of_below hb).sub hS)
theorem RS.sub (h:RS w S A n c xs) (hS:∀b,S b→S' b):RS w S' A n c xs:=h.keep hS (aD.refl _ _)
theorem RS.drew (h:RS w S A n c xs):RS w.drew S A n c xs:=h.keep (fun _ h=>h) (fun _ _=>rfl)
theorem RS.drewN (h:RS w S A n c xs) (k:Nat):RS (w.drewN k) S A n c xs:=h.keep (fun _ h=>h) (fun _ _=>rfl)
theorem RS.len (h:RS w S A n c xs):xs.length=n:=h.1.symm
theorem RS.cap (h:RS w S A n c xs):n≤c∧c≤9223372036854775807:=⟨h.2.1,by have:=h.2.2.1;unfold maxLen at this;exact this⟩
theorem RS.max (h:RS w S A n c xs):n≤9223372036854775807:=Nat.le_trans h.cap.1 h.cap.2
theorem RS.nil (w:World) (S:Nat→Prop):RS w S none 0 0 ([]:List α):=⟨rfl,Nat.le_refl _,Nat.zero_le _,fun h=>absurd h (by omega)⟩
theorem RS.empty (w:World) (S:Nat→Prop) (A:Option Addr) (c:Nat) (hc:c≤maxLen):RS w S A 0 c ([]:List α):=⟨rfl,Nat.zero_le _,hc,fun h=>absurd h (by omega)⟩
theorem RS.at_ (h:RS w S A n c xs) {k:Nat} (hk:k<n) : ∃b o x cs,A=some ⟨b,o,none⟩∧S b∧xs[k]?=some x∧bG.rep w S cs x∧∀j u,cs[j]?=some u→w.cell? ⟨b,o+(k*bG.sz α+j),none⟩=some u:=by
 obtain⟨h1,h2,_,h3⟩:=h;obtain⟨b,o,e,hb,he⟩:=h3 (by omega);have hl:k<xs.length:=by omega
 obtain⟨cs,hr,hc⟩:=he k xs[k] (List.getElem?_eq_getElem hl);refine⟨b,o,xs[k],cs,e,hb,List.getElem?_eq_getElem hl,hr,fun j u hj=>?_⟩;have:=hc j u hj;rw[lm] at this;rw[←this];unfold Addr.add;split
 ·rename_i h0;rw[h0];rfl
 ·rfl
theorem RS.drop (h:RS w S A n c xs) {k:Nat} (hk:k≤n) : RS w S (if c=k then A else A.map (·.add (k*bG.sz α))) (n-k) (c-k) (xs.drop k):=by
 obtain⟨h1,h2,hm,h3⟩:=h;refine⟨by simp[h1],by omega,by omega,fun hn=>?_⟩;obtain⟨b,o,e,hb,he⟩:=h3 (by omega);subst e;rw[if_neg (by omega)];have hx:(⟨b,o,none⟩:Addr).add (k*bG.sz α)=⟨b,o+k*bG.sz α,none⟩:=by unfold Addr.add;split<;>simp_all
 refine⟨b,o+k*bG.sz α,by simp[hx],hb,fun i x hi=>?_⟩;rw[List.getElem?_drop] at hi;obtain⟨cs,hr,hc⟩:=he _ x hi;refine⟨cs,hr,?_⟩;have:((⟨b,o+k*bG.sz α,none⟩:Addr).add (i*bG.sz α))=(⟨b,o,none⟩:Addr).add ((k+i)*bG.sz α):=by
  rw[←hx,lm,Nat.add_mul]
 rw[this];exact hc
theorem RS.take (h:RS w S A n c xs) {k:Nat} (hk:k≤n):RS w S A k c (xs.take k):=by
 obtain⟨h1,h2,hm,h3⟩:=h;refine⟨by simp;omega,by omega,hm,fun hn=>?_⟩;obtain⟨b,o,e,hb,he⟩:=h3 (by omega);refine⟨b,o,e,hb,fun i x hi=>?_⟩;rw[List.getElem?_take] at hi;split at hi
 ·exact he i x hi
 ·cases hi
end
theorem RS.int_at {w:World} {S:Nat→Prop} {A:Option Addr} {n c:Nat} {xs:List Int} (h:RS w S A n c xs) {k:Nat} (hk:k<n) : ∃b o x,A=some ⟨b,o,none⟩∧S b∧xs[k]?=some x∧w.cell? ⟨b,o+k,none⟩=some (.int .i64 x):=by
 obtain⟨b,o,x,cs,e,hb,hx,hr,hc⟩:=h.at_ hk;have qN:cs=[.int .i64 x]:=hr;subst qN;exact⟨b,o,x,e,hb,hx,by simpa[bG.sz] using hc 0 _ rfl⟩
theorem RS.str_at {w:World} {S:Nat→Prop} {A:Option Addr} {n c:Nat} {xs:List ByteArray} (h:RS w S A n c xs) {k:Nat} (hk:k<n) : ∃b o x,A=some ⟨b,o,none⟩∧S b∧xs[k]?=some x∧w.cell? ⟨b,o+k,none⟩=some (.string x):=by
 obtain⟨b,o,x,cs,e,hb,hx,hr,hc⟩:=h.at_ hk;have qN:cs=[.string x]:=hr;subst qN;exact⟨b,o,x,e,hb,hx,by simpa[bG.sz] using hc 0 _ rfl⟩
theorem RS.byte_at {w:World} {S:Nat→Prop} {A:Option Addr} {n c:Nat} {xs:List UInt8} (h:RS w S A n c xs) {k:Nat} (hk:k<n) : ∃b o x,A=some ⟨b,o,none⟩∧S b∧xs[k]?=some x∧w.cell? ⟨b,o+k,none⟩=some (.int .u8 (x.toNat:Int)):=by
 obtain⟨b,o,x,cs,e,hb,hx,hr,hc⟩:=h.at_ hk;have qN:cs=[.int .u8 (x.toNat:Int)]:=hr;subst qN;exact⟨b,o,x,e,hb,hx,by simpa[bG.sz] using hc 0 _ rfl⟩
theorem RS.row_at {α:Type} [bG α] {w:World} {S:Nat→Prop} {A:Option Addr} {n c:Nat} {xs:List (List α)} (h:RS w S A n c xs) {k:Nat} (hk:k<n) : ∃b o x A' n' c',A=some ⟨b,o,none⟩∧S b∧xs[k]?=some x∧w.cell? ⟨b,o+k,none⟩=some (.slice A' n' c')∧RS w S A' n' c' x:=by
 obtain⟨b,o,x,cs,e,hb,hx,hr,hc⟩:=h.at_ hk;obtain⟨A',n',c',rfl,qN⟩:=hr;exact⟨b,o,x,A',n',c',e,hb,hx,by simpa[bG.sz] using hc 0 _ rfl,qN⟩
inductive Flat {α:Type} [bG α] (w:World) (S:Nat→Prop):List Value→List α→Prop where
 | nil:Flat w S [] []
 | snoc {cs ds:List Value} {xs:List α} {x:α}:Flat w S cs xs→bG.rep w S ds x→Flat w S (cs++ds) (xs++[x])
section
variable {α:Type} [bG α] {w w':World} {S S':Nat→Prop}
theorem Flat.keep {cs:List Value} {xs:List α} (h:Flat w S cs xs) (hS:∀b,S b→S' b) (hk:aD S w w'):Flat w' S' cs xs:=by
 induction h with
 | nil=>exact .nil
 | snoc _ hr ih=>exact .snoc ih (bG.keep hr hS hk)
theorem Flat.length {cs:List Value} {xs:List α} (h:Flat w S cs xs):cs.length=xs.length*bG.sz α:=by
 induction h with
 | nil=>simp
 | snoc _ hr ih=>simp[ih,bG.len hr,Nat.add_mul]
theorem Flat.get {cs:List Value} {xs:List α} (h:Flat w S cs xs):∀i x,xs[i]?=some x→∃ds,bG.rep w S ds x∧∀j u,ds[j]?=some u→cs[i*bG.sz α+j]?=some u:=by
 induction h with
 | nil=>intro i x hi;simp at hi
 | @snoc cs ds xs x hf hr ih=>
  intro i y hi;have hl:=hf.length;rw[List.getElem?_append] at hi;split at hi
  ·rename_i bn;obtain⟨es,Sj,hc⟩:=ih i y hi;refine⟨es,Sj,fun j u hj=>?_⟩;have h1:=hc j u hj;have dK:i*bG.sz α+j<cs.length:=by
    rcases Nat.lt_or_ge (i*bG.sz α+j) cs.length with h|h
    ·exact h
    ·rw[List.getElem?_eq_none h] at h1;cases h1
   rw[List.getElem?_append_left dK];exact h1
  ·rename_i hge;have QQ:i=xs.length:=by
    rcases Nat.lt_or_ge (i-xs.length) 1 with h|h
    ·omega
    ·rw[List.getElem?_eq_none (by simpa using h)] at hi;cases hi
   subst QQ;simp at hi;subst hi;refine⟨ds,hr,fun j u hj=>?_⟩;rw[←hl,List.getElem?_append_right (by omega),Nat.add_sub_cancel_left];exact hj
theorem RS.of_own {base:Nat} {e:TypeId} {A:Option Addr} {n c:Nat} {cs:List Value} {xs:List α} (h:w.ownsRow base e (bG.sz α) (.slice A n c) n cs) (hf:Flat w S cs xs) (hn:n=xs.length) (hg:∀g,(Value.slice A n c).ownBlock=some g→S g):RS w S A n c xs:=by
 have h':=h;obtain⟨hl,h2⟩:=h';rcases h2 with⟨hv,GU⟩|⟨g,cap,SE,hv,nT,hh,hnc,Xm,ajC⟩
 ·injection hv with h1 h2 h3
  subst h1 h2 h3;refine⟨hn,Nat.le_refl _,Nat.zero_le _,fun h=>absurd h (by omega)⟩
 ·injection hv with h1 h2 h3
  subst h1 h3;refine⟨hn,hnc,Xm,fun _=>⟨g,0,rfl,hg g rfl,fun i x hi=>?_⟩⟩;obtain⟨ds,hr,hc⟩:=hf.get i x hi;refine⟨ds,hr,fun j u hj=>?_⟩;have h1:=h.cells (g:=g) rfl _ _ (hc j u hj);rw[lm];exact h1
end
theorem Flat.ints {w:World} {S:Nat→Prop} (l:List Int):Flat w S (l.map (Value.int .i64)) l:=by
 have:∀(k:List Int),Flat w S (k.reverse.map (Value.int .i64)) k.reverse:=by
  intro k;induction k with
  | nil=>exact .nil
  | cons x k ih=>
   rw[List.reverse_cons,List.map_append];exact .snoc ih rfl
 simpa using this l.reverse
theorem Flat.bytes {w:World} {S:Nat→Prop} (l:List UInt8):Flat w S (l.map fun x=>Value.int .u8 (x.toNat:Int)) l:=by
 have:∀(k:List UInt8),Flat w S (k.reverse.map fun x=>Value.int .u8 (x.toNat:Int)) k.reverse:=by
  intro k;induction k with
  | nil=>exact .nil
  | cons x k ih=>
   rw[List.reverse_cons,List.map_append];exact .snoc ih rfl
 simpa using this l.reverse
theorem Flat.strs {w:World} {S:Nat→Prop} (l:List ByteArray):Flat w S (l.map Value.string) l:=by
 have:∀(k:List ByteArray),Flat w S (k.reverse.map Value.string) k.reverse:=by
  intro k;induction k with
  | nil=>exact .nil
  | cons x k ih=>
   rw[List.reverse_cons,List.map_append];exact .snoc ih rfl
 simpa using this l.reverse
def Own {α:Type} [bG α] (w:World) (S:Nat→Prop) (base:Nat) (e:TypeId) (v:Value) (xs:List α):Prop:=
 ∃cs,w.ownsRow base e (bG.sz α) v xs.length cs∧Flat w S cs xs∧∀b,S b→b<w.heap.size∧some b≠v.ownBlock
structure cW (P:Program) (t e:TypeId) (sz bytes:Nat):Prop where
 under:P.underlying t=some (.slice e)
 info:∃i z,P.info? e=some i∧i.zero=some z∧i.size=sz∧i.bytes=bytes∧z.cells.size=sz
 pos:0<sz
theorem cW.mk' {P:Program} {t e:TypeId} {z:Value} {sz bytes:Nat} (hu:P.underlying t=some (.slice e)) (h:(P.info? e).map (fun i=>(i.zero,i.size,i.bytes))=some (some z,sz,bytes)) (hz:z.cells.size=sz) (hp:0<sz):cW P t e sz bytes:=by
 obtain⟨i0,hi,kR,eQ,jE⟩:=info_parts h;exact⟨hu,⟨i0,z,hi,kR,eQ,jE,hz⟩,hp⟩
section
variable {α:Type} [bG α] {w w':World} {S:Nat→Prop} {base:Nat} {e:TypeId} {v:Value} {xs:List α}
theorem Own.nil (w:World) (base:Nat) (e:TypeId):Own w (fun _=>False) base e (.slice none 0 0) ([]:List α):=⟨[],World.ownsRow_nil _ _ _ _,.nil,fun _ h=>h.elim⟩
theorem Own.nil' (w:World) (S:Nat→Prop) (hS:∀b,S b→b<w.heap.size) (base:Nat) (e:TypeId):Own w S base e (.slice none 0 0) ([]:List α):=⟨[],World.ownsRow_nil _ _ _ _,.nil,fun b h=>⟨hS b h,by simp[Value.ownBlock]⟩⟩
theorem Own.keep (h:Own w S base e v xs) {row:Option Nat} (hg:w.grownBy w' row) (dA:v.ownBlock=none∨v.ownBlock≠row) (hS:∀b,S b→some b≠row):Own w' S base e v xs:=by
 obtain⟨cs,h1,h2,h3⟩:=h;exact⟨cs,h1.kept hg dA,h2.keep (fun _ h=>h) ((aD.grown hg).sub fun b hb=>⟨(h3 b hb).1,hS b hb⟩),fun b hb=>⟨Nat.lt_of_lt_of_le (h3 b hb).1 hg.size,(h3 b hb).2⟩⟩
theorem Own.alloc (h:Own w S base e v xs) (o:Obj):Own (w.alloc o) S base e v xs:=h.keep (World.grownBy_alloc w o none) (by cases h:v.ownBlock<;>simp) (by simp)
theorem rQ (w:World) (n:Nat) (row:Option Nat):w.grownBy (w.drewN n) row:=⟨rfl,rfl,rfl,Nat.le_refl _,fun _ _ _=>rfl⟩
theorem Own.drew (h:Own w S base e v xs):Own w.drew S base e v xs:=h.keep (rQ w 1 none) (by cases h:v.ownBlock<;>simp) (by simp)
theorem Own.drewN (h:Own w S base e v xs) (n:Nat):Own (w.drewN n) S base e v xs:=h.keep (rQ w n none) (by cases h:v.ownBlock<;>simp) (by simp)
theorem sD {B:Nat} {a w:World} (h:Below B a w) (hB:a.heap.size≤B) (row:Option Nat):a.grownBy w row:=⟨h.os,h.tape,h.output,h.size,fun i hi _=>h.block i (by omega)⟩
theorem Own.below (h:Own w S base e v xs) (hb:Below w.heap.size w w'):Own w' S base e v xs:=h.keep (sD hb (Nat.le_refl _) none) (by cases h:v.ownBlock<;>simp) (by simp)
theorem grownBy_setCell (w:World) (p:Addr) (u:Value):w.grownBy (w.setCell p u) (some p.block):=
 ⟨rfl,rfl,rfl,by simp[World.setCell],fun k _ hk=>Below.heap_setCell w p u k (fun e=>hk (by rw[e]))⟩
theorem Own.setCell (h:Own w S base e v xs) {p:Addr} (hp:v.ownBlock≠some p.block) (hS:∀b,S b→b≠p.block) (u:Value):Own (w.setCell p u) S base e v xs:=
 h.keep (grownBy_setCell w p u) (.inr hp) (fun b hb hc=>hS b hb (by injection hc))
theorem Own.lt (h:Own w S base e v xs):∀k,v.ownBlock=some k→base≤k∧k<w.heap.size:=by
 obtain⟨cs,h1,_,_⟩:=h;exact h1.lt
theorem Own.slice (h:Own w S base e v xs):∃A n c,v=.slice A n c∧n=xs.length:=by
 obtain⟨cs,⟨_,h2⟩,_⟩:=h;rcases h2 with⟨hv,hn⟩|⟨g,cap,SE,hv,_⟩
 ·exact⟨_,_,_,hv,hn.symm⟩
 ·exact⟨_,_,_,hv,rfl⟩
theorem Own.rs {A:Option Addr} {n c:Nat} (h:Own w S base e (.slice A n c) xs) {S':Nat→Prop} (hS:∀b,S b→S' b) (hg:∀g,base≤g→g<w.heap.size→S' g):RS w S' A n c xs:=by
 have bn:=h.lt;obtain⟨A',n',c',hv,hn⟩:=h.slice;injection hv with _ GY _
 subst GY;obtain⟨cs,h1,h2,h3⟩:=h;subst hn;exact RS.of_own h1 (h2.keep hS (aD.refl _ _)) rfl (fun g rP=>hg g (bn g rP).1 (bn g rP).2)
theorem cw {P:Program} {o:Oper} {a:Act} {K:Act→World→Prop} {Q:Exit→Act→World→Prop} (s x:Operand) (t:TypeId) (ho:o.op=.call { callee:=.builtin .append,args:=#[s,x],argTypes:=#[t,t] }) (bytes:Nat) (ht:cW P t e (bG.sz α) bytes) (hs:a.eval s=v) (dB:Own w S base e v xs) (ad:Addr) (m c:Nat) (ds:List Value) (ys:List α) (hx:a.eval x=.slice (some ad) m c) (hm:m=ys.length) (hf:Flat w S ds ys) (hd:eT w ad ds) (h1:∀u∈ds,u.oneCell'=true) (hl:(xs.length+ys.length)*(bytes+1)≤140737488355328) (nT:base≤w.heap.size) (h:∀v' w',Own w' S base e v' (xs++ys)→w.grownBy w' v.ownBlock→(v'.ownBlock=v.ownBlock∨v'.ownBlock=some w.heap.size)→K (a.put o.dst v') w'):o.wp P a w K Q:=by
 obtain⟨hu,⟨i,z,hi,hz,lk,hby,GR⟩,xo⟩:=ht;obtain⟨cs,o1,o2,o3⟩:=dB;subst hm;have bn:=o1.lt;have xq:xs.length+ys.length≤maxLen:=by
  unfold maxLen;have:xs.length+ys.length≤(xs.length+ys.length)*(bytes+1):=Nat.le_mul_of_pos_right _ (by omega);omega
 obtain⟨v',w',hr,q1,q2,q3,q4⟩:=run_append_own_at (P:=P) w base t o.type e i z (bG.sz α) bytes hu hi hz lk hby GR xo v xs.length cs o1 ad ys.length c ds hf.length hd h1 xq (Nat.le_trans (Nat.mul_le_mul_left _ (by omega)) hl) nT;unfold Oper.wp execOp;simp only[ho,resolve,invoke,builtin,Sem.run_bind,Sem.run_pure,Result.andThen_ok,List.map_toArray,List.map_cons,List.map_nil,hs,hx,hr];refine h v' w' ⟨cs++ds,by rw[List.length_append];exact q1,?_,fun b hb=>⟨Nat.lt_of_lt_of_le (o3 b hb).1 q2.size,?_⟩⟩ q2 q4
 ·have hk:aD S w w':=(aD.grown q2).sub o3;have hf':=hf.keep (S':=S) (fun _ h=>h) hk;have o2':=o2.keep (S':=S) (fun _ h=>h) hk;clear q1 q2 q3 q4 hr h o1 hx hf hd h1 hl xq;induction hf' with
  | nil=>simpa using o2'
  | @snoc ds1 ds2 ys y _ hr ih=>
   rw[←List.append_assoc,←List.append_assoc];exact .snoc ih hr
 ·rcases q4 with q4|q4
  ·rw[q4];exact(o3 b hb).2
  ·rw[q4];intro hbe;injection hbe with hbe
   have:=(o3 b hb).1;omega
theorem jn {P:Program} {ops:Array Oper} {rest:List Oper} {o:Oper} {a:Act} {Q:Exit→Act→World→Prop} (Co:o.guard=none) (s x:Operand) (t:TypeId) (ho:o.op=.call { callee:=.builtin .append,args:=#[s,x],argTypes:=#[t,t] }) (bytes:Nat) (ht:cW P t e (bG.sz α) bytes) (hs:a.eval s=v) (dB:Own w S base e v xs) (ad:Addr) (m c:Nat) (ds:List Value) (ys:List α) (hx:a.eval x=.slice (some ad) m c) (hm:m=ys.length) (hf:Flat w S ds ys) (hd:eT w ad ds) (h1:∀u∈ds,u.oneCell'=true) (hl:(xs.length+ys.length)*(bytes+1)≤140737488355328) (nT:base≤w.heap.size) (h:∀v' w',Own w' S base e v' (xs++ys)→w.grownBy w' v.ownBlock→(v'.ownBlock=v.ownBlock∨v'.ownBlock=some w.heap.size)→wpList P ops Q rest (a.put o.dst v') w'):wpList P ops Q (o::rest) a w:=
 wpList_plain Co fun _ hK=>cw s x t ho bytes ht hs dB ad m c ds ys hx hm hf hd h1 hl nT fun v' w' h2 h3 h4=>hK _ _ (h v' w' h2 h3 h4)
theorem tX {P:Program} {ops:Array Oper} {o:Oper} {a:Act} {K:Act→World→Prop} {Q:Exit→Act→World→Prop} {E:Prop} (Co:o.guard=none) (s x:Operand) (t:TypeId) (ho:o.op=.call { callee:=.builtin .append,args:=#[s,x],argTypes:=#[t,t] }) (bytes:Nat) (ht:cW P t e (bG.sz α) bytes) (hs:a.eval s=v) (dB:Own w S base e v xs) (ad:Addr) (m c:Nat) (ds:List Value) (ys:List α) (hx:a.eval x=.slice (some ad) m c) (hm:m=ys.length) (hf:Flat w S ds ys) (hd:eT w ad ds) (h1:∀u∈ds,u.oneCell'=true) (hl:(xs.length+ys.length)*(bytes+1)≤140737488355328) (nT:base≤w.heap.size) (h:∀v' w',Own w' S base e v' (xs++ys)→w.grownBy w' v.ownBlock→(v'.ownBlock=v.ownBlock∨v'.ownBlock=some w.heap.size)→K (a.put o.dst v') w') : if Region.wanted o (yielded ops a.tmps)=true then Oper.wp P o a w K Q else E:=by
 have hw:Region.wanted o (yielded ops a.tmps)=true:=by simp[Region.wanted,Co]
 rw[if_pos hw];exact cw s x t ho bytes ht hs dB ad m c ds ys hx hm hf hd h1 hl nT h
end
theorem eT.new (w:World) (ds:List Value) (t:TypeId):eT (w.alloc (.cells ds.toArray t)) ⟨w.heap.size,0,none⟩ ds:=by
 intro j u hj;have:(⟨w.heap.size,0,none⟩:Addr).add j=⟨w.heap.size,j,none⟩:=by unfold Addr.add;split<;>simp_all
 rw[this,World.cell?_alloc_new];simpa using hj
theorem im {α:Type} [bG α] {w0 wr:World} {S:Nat→Prop} {e:TypeId} {v:Value} {xs:List α} {P:Program} {ops:Array Oper} {rest:List Oper} {o:Oper} {a:Act} {Q:Exit→Act→World→Prop} (Co:o.guard=none) (s x:Operand) (t:TypeId) (ho:o.op=.call { callee:=.builtin .append,args:=#[s,x],argTypes:=#[t,t] }) (bytes:Nat) (ht:cW P t e (bG.sz α) bytes) (hs:a.eval s=v) (dB:Own wr S w0.heap.size e v xs) (fp:Below w0.heap.size w0 wr) (ds:List Value) (y:α) (c:Nat) (hx:a.eval x=.slice (some ⟨wr.heap.size,0,none⟩) 1 c) (hf:bG.rep wr S ds y) (e':TypeId) (h1:∀u∈ds,u.oneCell'=true) (hl:(xs.length+1)*(bytes+1)≤140737488355328) (h:∀v' w',Own w' S w0.heap.size e v' (xs++[y])→Below w0.heap.size w0 w'→(wr.alloc (.cells ds.toArray e')).grownBy w' v.ownBlock→(v'.ownBlock=v.ownBlock∨v'.ownBlock=some (wr.heap.size+1))→wpList P ops Q rest (a.put o.dst v') w') : wpList P ops Q (o::rest) a (wr.alloc (.cells ds.toArray e')):=by
 have bn:=dB.lt;have hS:=dB;obtain⟨_,_,_,hS⟩:=hS;have CP:Flat (wr.alloc (.cells ds.toArray e')) S ds [y]:=by
  have:=Flat.snoc (Flat.nil (w:=wr.alloc (.cells ds.toArray e')) (S:=S)) (bG.keep (S':=S) hf (fun _ h=>h) (fun p hp=>World.cell?_alloc_lt wr _ p (hS _ hp).1));simpa using this
 refine jn Co s x t ho bytes ht hs (dB.alloc _) ⟨wr.heap.size,0,none⟩ 1 c ds [y] hx rfl CP (eT.new wr ds e') h1 hl (by have:=fp.size;simp;omega) fun v' w' q1 q2 q3=>h v' w' q1 ?_ q2 (by simpa using q3);exact(fp.alloc fp.size _).grown q2 (by have:=fp.size;simp;omega) (fun k hk=>(bn k hk).1)
theorem eT.drew {w:World} {a:Addr} {cs:List Value} (h:eT w a cs):eT w.drew a cs:=h
theorem Sc {α:Type} [bG α] {w0 wr:World} {S:Nat→Prop} {e:TypeId} {v:Value} {xs:List α} {P:Program} {ops:Array Oper} {o:Oper} {a:Act} {K:Act→World→Prop} {Q:Exit→Act→World→Prop} {E:Prop} (Co:o.guard=none) (s x:Operand) (t:TypeId) (ho:o.op=.call { callee:=.builtin .append,args:=#[s,x],argTypes:=#[t,t] }) (bytes:Nat) (ht:cW P t e (bG.sz α) bytes) (hs:a.eval s=v) (dB:Own wr S w0.heap.size e v xs) (fp:Below w0.heap.size w0 wr) (ds:List Value) (y:α) (c:Nat) (hx:a.eval x=.slice (some ⟨wr.heap.size,0,none⟩) 1 c) (hf:bG.rep wr S ds y) (e':TypeId) (h1:∀u∈ds,u.oneCell'=true) (hl:(xs.length+1)*(bytes+1)≤140737488355328) (h:∀v' w',Own w' S w0.heap.size e v' (xs++[y])→Below w0.heap.size w0 w'→(wr.alloc (.cells ds.toArray e')).grownBy w' v.ownBlock→(v'.ownBlock=v.ownBlock∨v'.ownBlock=some (wr.heap.size+1))→K (a.put o.dst v') w') : if Region.wanted o (yielded ops a.tmps)=true then Oper.wp P o a (wr.alloc (.cells ds.toArray e')).drew K Q else E:=by
 have bn:=dB.lt;have hS:=dB;obtain⟨_,_,_,hS⟩:=hS;have CP:Flat (wr.alloc (.cells ds.toArray e')).drew S ds [y]:=by
  have:=Flat.snoc (Flat.nil (w:=(wr.alloc (.cells ds.toArray e')).drew) (S:=S)) (bG.keep (S':=S) hf (fun _ h=>h) (fun p hp=>World.cell?_alloc_lt wr _ p (hS _ hp).1));simpa using this
 refine tX Co s x t ho bytes ht hs (dB.alloc _).drew ⟨wr.heap.size,0,none⟩ 1 c ds [y] hx rfl CP (eT.new wr ds e').drew h1 hl (by have:=fp.size;simp;omega) fun v' w' q1 q2 q3=>?_;have q2':(wr.alloc (.cells ds.toArray e')).grownBy w' v.ownBlock:=⟨q2.os,q2.tape,q2.output,q2.size,q2.block⟩;exact h v' w' q1 ((fp.alloc fp.size _).grown q2' (by have:=fp.size;simp;omega) (fun k hk=>(bn k hk).1)) q2' (by simpa using q3)
theorem aw1 {w wr:World} {p:Addr} {v:Value} (hb:Below w.heap.size w wr) (h:w.cell? p=some v):wr.cell? p=some v:=
 (hb.cell (World.block_lt_of_cell? w p h)).trans h
theorem ae {w w1 w2:World} (h:Below w.heap.size w w1) (k:Below w1.heap.size w1 w2):Below w.heap.size w w2:=h.trans (k.mono h.size)
theorem EG {w w1:World} (h:Below w.heap.size w.drew w1):Below w.heap.size w w1:=⟨h.os,h.tape,h.output,h.size,h.block⟩
theorem SK {w w1 w2:World} (h:Below w.heap.size w w1) (k:Below w1.drew.heap.size w1.drew w2):Below w.heap.size w w2:=h.drew.trans (k.mono h.size)
def bz (w w':World) (b:Nat):Prop:=w.heap.size≤b∧b<w'.heap.size
def Rt {α:Type} [bG α] (w:World) (xs:List α) (e:Ending) (w':World):Prop:=
 ∃A n c,e=.returned (.slice A n c)∧RS w' (bz w w') A n c xs∧Below w.heap.size w w'
def gy (w:World) (v:Value) (e:Ending) (w':World):Prop:=e=.returned v∧Below w.heap.size w w'
def gq (w:World) (v:Value) (e:Ending) (w':World):Prop:=e=.returned v∧w=w'
def zt (w:World) (v:Value) (e:Ending) (w':World):Prop:=e=.returned v∧∃n,w'=w.drewN n
theorem below_drewN {B:Nat} {a w:World} (h:Below B a w) (n:Nat):Below B a (w.drewN n):=⟨h.os,h.tape,h.output,h.size,h.block⟩
theorem zt.toV {w:World} {v:Value} {e:Ending} {w':World} (h:zt w v e w'):gy w v e w':=by
 obtain⟨he,n,rfl⟩:=h;exact⟨he,below_drewN (Below.refl _ _) n⟩
theorem bT {v v':Value} (h:v=v'):Ending.returned v=.returned v':=by rw[h]
theorem du {α:Type} {l:List α} {k:Nat} {x:α} (h:l[k]?=some x):l.take (k+1)=l.take k++[x]:=by
 rw[List.take_add_one,h];rfl
theorem vM {α:Type} {l:List α} {k:Nat} {x:α} (h:l[k]?=some x):l.drop k=x::l.drop (k+1):=by
 obtain⟨hk,e⟩:=List.getElem?_eq_some_iff.1 h;rw[List.drop_eq_getElem_cons hk,e]
theorem eP {α:Type} {l:List α} {k:Nat} {x:α} (h:l[k]?=some x):k<l.length:=(List.getElem?_eq_some_iff.1 h).1
theorem XE {l l':List Int} {k:Nat} {x y:Int} (h:l.take k=l'.take k) (hx:l[k]?=some x) (hy:l'[k]?=some y) (he:(x !=y)=false):l.take (k+1)=l'.take (k+1):=by
 rw[du hx,du hy,h,(by simpa using he:x=y)]
theorem age {l l':List Int} {k:Nat} {x y:Int} (hx:l[k]?=some x) (hy:l'[k]?=some y) (he:(x !=y)=true):l≠l':=by
 rintro rfl;rw[hx] at hy;injection hy with hy
 simp[hy] at he
theorem WY {α β:Type} {f:α→β} {l:List α} {k:Nat} {x:α} (h:l[k]?=some x):(l.take (k+1)).map f=(l.take k).map f++[f x]:=by
 rw[du h,List.map_append];rfl
theorem acr {P:Program} {c:Code} {Q:Exit→Act→World→Prop} {a:Act} {w:World} (h:∀w2,w2=w→c.wp P Q a w2):c.wp P Q a w:=h w rfl
def aK (w:World) (g:Nat) (t:TypeId) (cs:Array Value):Prop:=w.heap[g]?=some (.cells cs t (0,0))
section
variable {w w':World} {g:Nat} {t:TypeId} {cs:Array Value}
theorem aK.lt (h:aK w g t cs):g<w.heap.size:=by
 rcases Nat.lt_or_ge g w.heap.size with bn|hge
 ·exact bn
 ·unfold aK at h;rw[Array.getElem?_eq_none hge] at h;cases h
theorem aK.cell (h:aK w g t cs) (i:Nat):w.cell? ⟨g,i,none⟩=cs[i]?:=cell_of_row w g i cs t (0,0) h
theorem aK.frozen (h:aK w g t cs) (i:Nat):w.frozen? ⟨g,i,none⟩=false:=by
 unfold aK at h;simp[World.frozen?,h]
theorem aK.new (w:World) (t:TypeId) (cs:Array Value):aK (w.alloc (.cells cs t)) w.heap.size t cs:=heap_alloc_new w _
theorem aK.new' {w:World} {g:Nat} (h:w.heap.size=g) (t:TypeId) (cs:Array Value):aK (w.alloc (.cells cs t)) g t cs:=by subst h;exact aK.new w t cs
theorem aK.drew (h:aK w g t cs):aK w.drew g t cs:=h
theorem aK.drewN (h:aK w g t cs) (n:Nat):aK (w.drewN n) g t cs:=h
theorem aK.alloc (h:aK w g t cs) (o:Obj):aK (w.alloc o) g t cs:=(Below.heap_alloc w o g h.lt).trans h
theorem aK.set_ (h:aK w g t cs) (i:Nat) (u:Value):aK (w.setCell ⟨g,i,none⟩ u) g t (cs.setIfInBounds i u):=by
 unfold aK at h ⊢;simp[World.setCell,Array.getElem?_modify,h]
theorem aK.far (h:aK w g t cs) {p:Addr} (hp:g≠p.block) (u:Value):aK (w.setCell p u) g t cs:=(Below.heap_setCell w p u g hp).trans h
theorem aK.below {B:Nat} (h:aK w g t cs) (hb:Below B w w') (hg:g<B):aK w' g t cs:=(hb.block g hg).trans h
theorem aK.keep (h:aK w g t cs) (hb:Below w.heap.size w w'):aK w' g t cs:=h.below hb h.lt
theorem aK.grown {row:Option Nat} (h:aK w g t cs) (hb:w.grownBy w' row) (hg:some g≠row):aK w' g t cs:=(hb.block g h.lt hg).trans h
end
theorem aF {α:Type} [bG α] {w0 wr:World} {S:Nat→Prop} {B base:Nat} {e:TypeId} {v:Value} {xs:List α} {P:Program} {ops:Array Oper} {rest:List Oper} {o:Oper} {a:Act} {Q:Exit→Act→World→Prop} (Co:o.guard=none) (s x:Operand) (t:TypeId) (ho:o.op=.call { callee:=.builtin .append,args:=#[s,x],argTypes:=#[t,t] }) (bytes:Nat) (ht:cW P t e (bG.sz α) bytes) (hs:a.eval s=v) (dB:Own wr S base e v xs) (fp:Below B w0 wr) (hB:B≤base) (nT:base≤wr.heap.size) (ds:List Value) (y:α) (c:Nat) (hx:a.eval x=.slice (some ⟨wr.heap.size,0,none⟩) 1 c) (hf:bG.rep wr S ds y) (e':TypeId) (h1:∀u∈ds,u.oneCell'=true) (hl:(xs.length+1)*(bytes+1)≤140737488355328) (h:∀v' w',Own w' S base e v' (xs++[y])→Below B w0 w'→(wr.alloc (.cells ds.toArray e')).grownBy w' v.ownBlock→(v'.ownBlock=v.ownBlock∨v'.ownBlock=some (wr.heap.size+1))→wpList P ops Q rest (a.put o.dst v') w') : wpList P ops Q (o::rest) a (wr.alloc (.cells ds.toArray e')):=by
 have bn:=dB.lt;have hS:=dB;obtain⟨_,_,_,hS⟩:=hS;have CP:Flat (wr.alloc (.cells ds.toArray e')) S ds [y]:=by
  have:=Flat.snoc (Flat.nil (w:=wr.alloc (.cells ds.toArray e')) (S:=S)) (bG.keep (S':=S) hf (fun _ h=>h) (fun p hp=>World.cell?_alloc_lt wr _ p (hS _ hp).1));simpa using this
 refine jn Co s x t ho bytes ht hs (dB.alloc _) ⟨wr.heap.size,0,none⟩ 1 c ds [y] hx rfl CP (eT.new wr ds e') h1 hl (by simp;omega) fun v' w' q1 q2 q3=>h v' w' q1 ?_ q2 (by simpa using q3);exact(fp.alloc (by omega) _).grown q2 (by simp;omega) (fun k hk=>Nat.le_trans hB (bn k hk).1)
theorem fA {α:Type} [bG α] {w0 wr:World} {S:Nat→Prop} {B base:Nat} {e:TypeId} {v:Value} {xs:List α} {P:Program} {ops:Array Oper} {o:Oper} {a:Act} {K:Act→World→Prop} {Q:Exit→Act→World→Prop} {E:Prop} (Co:o.guard=none) (s x:Operand) (t:TypeId) (ho:o.op=.call { callee:=.builtin .append,args:=#[s,x],argTypes:=#[t,t] }) (bytes:Nat) (ht:cW P t e (bG.sz α) bytes) (hs:a.eval s=v) (dB:Own wr S base e v xs) (fp:Below B w0 wr) (hB:B≤base) (nT:base≤wr.heap.size) (ds:List Value) (y:α) (c:Nat) (hx:a.eval x=.slice (some ⟨wr.heap.size,0,none⟩) 1 c) (hf:bG.rep wr S ds y) (e':TypeId) (h1:∀u∈ds,u.oneCell'=true) (hl:(xs.length+1)*(bytes+1)≤140737488355328) (h:∀v' w',Own w' S base e v' (xs++[y])→Below B w0 w'→(wr.alloc (.cells ds.toArray e')).grownBy w' v.ownBlock→(v'.ownBlock=v.ownBlock∨v'.ownBlock=some (wr.heap.size+1))→K (a.put o.dst v') w') : if Region.wanted o (yielded ops a.tmps)=true then Oper.wp P o a (wr.alloc (.cells ds.toArray e')).drew K Q else E:=by
 have bn:=dB.lt;have hS:=dB;obtain⟨_,_,_,hS⟩:=hS;have CP:Flat (wr.alloc (.cells ds.toArray e')).drew S ds [y]:=by
  have:=Flat.snoc (Flat.nil (w:=(wr.alloc (.cells ds.toArray e')).drew) (S:=S)) (bG.keep (S':=S) hf (fun _ h=>h) (fun p hp=>World.cell?_alloc_lt wr _ p (hS _ hp).1));simpa using this
 refine tX Co s x t ho bytes ht hs (dB.alloc _).drew ⟨wr.heap.size,0,none⟩ 1 c ds [y] hx rfl CP (eT.new wr ds e').drew h1 hl (by simp;omega) fun v' w' q1 q2 q3=>?_;have q2':(wr.alloc (.cells ds.toArray e')).grownBy w' v.ownBlock:=⟨q2.os,q2.tape,q2.output,q2.size,q2.block⟩;exact h v' w' q1 ((fp.alloc (by omega) _).grown q2' (by simp;omega) (fun k hk=>Nat.le_trans hB (bn k hk).1)) q2' (by simpa using q3)
end Go.Proofs.YtjlhbfbdcfajfaaGreatDoor
