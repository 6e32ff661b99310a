/- Lib NatM Pln Lib2 Lib3 Bits NatM2 NatM3 -/
import Derived.WalkKit
import Derived.WalkSpells
import Derived.WalkLawsBesides
import Derived.Deep.QuietTactic
import Derived.BigQuiet
import Derived.Lib.Hide
import Derived.Maps.AppendAt
import Derived.Deep.AppendLies
import Derived.RegionTactic
import Derived.OwnWalk
import Derived.Lib.IndexLaws
import Derived.Lib.Atoi
import Derived.Lib.SlicesS
import Derived.Lib.ItoaNum
import Derived.Handy
import Derived.OrdersHeld
import Derived.Deep.RegionHeld
import Derived.Laws.OwnMore
import Derived.Laws.BitsAllLaws
import Derived.Laws.ShiftsVarLaws
import Derived.Laws.Shifts
set_option maxHeartbeats 4000000
set_option maxRecDepth 100000
namespace Go.Proofs.YtichkplomldgiaaGreatDoor
open Go.RowKit Go
theorem zH {p:Prop} (h:p):Hid p:=h
def bb (w:World) (a:Addr) (cs:List Value):Prop:=∀j u,cs[j]?=some u->w.cell? (a.add j)=some u
theorem kM (a:Addr) (n:Nat):(a.add n).block=a.block:=by unfold Addr.add;split<;>rfl
theorem dz (a:Addr) (i j:Nat):(a.add i).add j=a.add (i+j):=by
 unfold Addr.add;by_cases hi:i=0<;>by_cases hj:j=0<;>simp[hi,hj,Nat.add_assoc]
theorem zB {w:World} {a:Addr} {u:Value} (h:w.cell? a=some u):a.spot=none:=by
 unfold World.cell? at h;split at h
 ·cases hs:a.spot with
  | none=>rfl
  | some x=>simp[hs] at h
 ·cases h
def af (S:Nat->Prop) (w w':World):Prop:=∀b,S b->w'.heap[b]?=w.heap[b]?
theorem af.cell {S:Nat->Prop} {w w':World} (h:af S w w') {p:Addr} (hp:S p.block):w'.cell? p=w.cell? p:=World.cell?_of_block (h _ hp)
theorem af.refl (S:Nat->Prop) (w:World):af S w w:=λ_ _=>rfl
theorem af.of_below {B:Nat} {w w':World} (h:Below B w w'):af (·<B) w w':=λb hp=>h.block b hp
theorem af.sub {S S':Nat->Prop} {w w':World} (h:af S w w') (hS:∀b,S' b->S b):af S' w w':=λp hp=>h p (hS _ hp)
theorem af.trans {S:Nat->Prop} {a b c:World} (h:af S a b) (k:af S b c):af S a c:=λp hp=>(k p hp).trans (h p hp)
theorem af.grown {w w':World} {row:Option Nat} (hg:w.grownBy w' row):af (λb=>b<w.heap.size/\some b≠row) w w':=
 λb hp=>hg.block b hp.1 hp.2
theorem bb.keep {w w':World} {S:Nat->Prop} {a:Addr} {cs:List Value} (h:bb w a cs) (hk:af S w w') (ha:S a.block):bb w' a cs:=
 λj u hj=>(hk.cell (by rw[kM];exact ha)).trans (h j u hj)
class ak (α:Type) where
 sz:Nat
 rep:World->(Nat->Prop)->List Value->α->Prop
 len:∀{w S cs x},rep w S cs x->cs.length=sz
 keep:∀{w w' S S' cs x},rep w S cs x->(∀b,S b->S' b)->af S w w'->rep w' S' cs x
instance:ak Int where
 sz:=1
 rep _ _ cs x:=cs=[.int .i64 x]
 len h:=by rw[h];rfl
 keep h _ _:=h
instance:ak Bool where
 sz:=1
 rep _ _ cs x:=cs=[.bool x]
 len h:=by rw[h];rfl
 keep h _ _:=h
instance:ak ByteArray where
 sz:=1
 rep _ _ cs x:=cs=[.string x]
 len h:=by rw[h];rfl
 keep h _ _:=h
instance:ak UInt8 where
 sz:=1
 rep _ _ cs x:=cs=[.int .u8 (x.toNat:Int)]
 len h:=by rw[h];rfl
 keep h _ _:=h
def zi {α:Type} [ak α] (w:World) (S:Nat->Prop) (a:Addr) (xs:List α):Prop:=
 ∀i x,xs[i]?=some x->∃cs,ak.rep w S cs x/\bb w (a.add (i*ak.sz α)) cs
theorem zi.keep {α:Type} [ak α] {w w':World} {S S':Nat->Prop} {a:Addr} {xs:List α} (h:zi w S a xs) (ha:S a.block) (hS:∀b,S b->S' b) (hk:af S w w'):zi w' S' a xs:=
 λi x hi=>let ⟨cs,h1,h2⟩:=h i x hi;⟨cs,ak.keep h1 hS hk,h2.keep hk (by rw[kM];exact ha)⟩
def RS {α:Type} [ak α] (w:World) (S:Nat->Prop) (A:Option Addr) (n c:Nat) (xs:List α):Prop:=
 n=xs.length/\n<=c/\c<=maxLen/\(0<n->∃b o,A=some ⟨b,o,none⟩/\S b/\zi w S ⟨b,o,none⟩ xs)
theorem RS.keep {α:Type} [ak α] {w w':World} {S S':Nat->Prop} {A:Option Addr} {n c:Nat} {xs:List α} (h:RS w S A n c xs) (hS:∀b,S b->S' b) (hk:af S w w'):RS w' S' A n c xs:=by
 obtain⟨h1,h2,hm,h3⟩:=h;exact⟨h1,h2,hm,λhn=>let ⟨b,o,e,hb,he⟩:=h3 hn;⟨b,o,e,hS _ hb,he.keep hb hS hk⟩⟩
instance instRepList {α:Type} [ak α]:ak (List α) where
 sz:=1
 rep w S cs xs:=∃A n c,cs=[.slice A n c]/\RS w S A n c xs
 len h:=by obtain⟨A,n,c,rfl,_⟩:=h;rfl
 keep h hS hk:=by
  obtain⟨A,n,c,rfl,h⟩:=h;exact⟨A,n,c,rfl,h.keep hS hk⟩
section
variable {α:Type} [ak α] {w w':World} {S S':Nat->Prop} {A:Option Addr} {n c:Nat} {xs:List α}
theorem RS.below {B:Nat} (h:RS w S A n c xs) (hb:Below B w w') (hS:∀b,S b->b<B):RS w' S A n c xs:=
 h.keep (λ_ h=>h) ((af.of_below hb).sub hS)
theorem RS.sub (h:RS w S A n c xs) (hS:∀b,S b->S' b):RS w S' A n c xs:=h.keep hS (af.refl _ _)
theorem RS.drewN (h:RS w S A n c xs) (k:Nat):RS (w.drewN k) S A n c xs:=h.keep (λ_ h=>h) (λ_ _=>rfl)
theorem RS.len (h:RS w S A n c xs):xs.length=n:=h.1.symm
theorem RS.cap (h:RS w S A n c xs):n<=c/\c<=9223372036854775807:=⟨h.2.1,by have:=h.2.2.1;unfold maxLen at this;exact this⟩
theorem RS.max (h:RS w S A n c xs):n<=9223372036854775807:=Nat.le_trans h.cap.1 h.cap.2
theorem RS.nil (w:World) (S:Nat->Prop):RS w S none 0 0 ([]:List α):=⟨rfl,Nat.le_refl _,Nat.zero_le _,λh=>absurd h (by omega)⟩
theorem RS.at_ (h:RS w S A n c xs) {k:Nat} (hk:k<n) : ∃b o x cs,A=some ⟨b,o,none⟩/\S b/\xs[k]?=some x/\ak.rep w S cs x/\∀j u,cs[j]?=some u->w.cell? ⟨b,o+(k*ak.sz α+j),none⟩=some u:=by
 obtain⟨h1,h2,_,h3⟩:=h;obtain⟨b,o,e,hb,he⟩:=h3 (by omega);have hl:k<xs.length:=by omega
 obtain⟨cs,hr,hc⟩:=he k xs[k] (List.getElem?_eq_getElem hl);refine⟨b,o,xs[k],cs,e,hb,List.getElem?_eq_getElem hl,hr,λj u hj=>?_⟩;have:=hc j u hj;rw[dz] at this;rw[<-this];unfold Addr.add;split
 ·rename_i h0;rw[h0];rfl
 ·rfl
theorem RS.drop (h:RS w S A n c xs) {k:Nat} (hk:k<=n) : RS w S (if c=k then A else A.map (·.add (k*ak.sz α))) (n-k) (c-k) (xs.drop k):=by
 obtain⟨h1,h2,hm,h3⟩:=h;refine⟨by simp[h1],by omega,by omega,λhn=>?_⟩;obtain⟨b,o,e,hb,he⟩:=h3 (by omega);subst e;rw[if_neg (by omega)];have hx:(⟨b,o,none⟩:Addr).add (k*ak.sz α)=⟨b,o+k*ak.sz α,none⟩:=by unfold Addr.add;split<;>simp_all
 refine⟨b,o+k*ak.sz α,by simp[hx],hb,λi x hi=>?_⟩;rw[List.getElem?_drop] at hi;obtain⟨cs,hr,hc⟩:=he _ x hi;refine⟨cs,hr,?_⟩;have:((⟨b,o+k*ak.sz α,none⟩:Addr).add (i*ak.sz α))=(⟨b,o,none⟩:Addr).add ((k+i)*ak.sz α):=by
  rw[<-hx,dz,Nat.add_mul]
 rw[this];exact hc
theorem RS.take (h:RS w S A n c xs) {k:Nat} (hk:k<=n):RS w S A k c (xs.take k):=by
 obtain⟨h1,h2,hm,h3⟩:=h;refine⟨by simp;omega,by omega,hm,λhn=>?_⟩;obtain⟨b,o,e,hb,he⟩:=h3 (by omega);refine⟨b,o,e,hb,λi x hi=>?_⟩;rw[List.getElem?_take] at hi;split at hi
 ·exact he i x hi
 ·cases hi
end
theorem RS.int_at {w:World} {S:Nat->Prop} {A:Option Addr} {n c:Nat} {xs:List Int} (h:RS w S A n c xs) {k:Nat} (hk:k<n) : ∃b o x,A=some ⟨b,o,none⟩/\S b/\xs[k]?=some x/\w.cell? ⟨b,o+k,none⟩=some (.int .i64 x):=by
 obtain⟨b,o,x,cs,e,hb,hx,hr,hc⟩:=h.at_ hk;have fa:cs=[.int .i64 x]:=hr;subst fa;exact⟨b,o,x,e,hb,hx,by simpa[ak.sz] using hc 0 _ rfl⟩
theorem RS.str_at {w:World} {S:Nat->Prop} {A:Option Addr} {n c:Nat} {xs:List ByteArray} (h:RS w S A n c xs) {k:Nat} (hk:k<n) : ∃b o x,A=some ⟨b,o,none⟩/\S b/\xs[k]?=some x/\w.cell? ⟨b,o+k,none⟩=some (.string x):=by
 obtain⟨b,o,x,cs,e,hb,hx,hr,hc⟩:=h.at_ hk;have fa:cs=[.string x]:=hr;subst fa;exact⟨b,o,x,e,hb,hx,by simpa[ak.sz] using hc 0 _ rfl⟩
theorem RS.byte_at {w:World} {S:Nat->Prop} {A:Option Addr} {n c:Nat} {xs:List UInt8} (h:RS w S A n c xs) {k:Nat} (hk:k<n) : ∃b o x,A=some ⟨b,o,none⟩/\S b/\xs[k]?=some x/\w.cell? ⟨b,o+k,none⟩=some (.int .u8 (x.toNat:Int)):=by
 obtain⟨b,o,x,cs,e,hb,hx,hr,hc⟩:=h.at_ hk;have fa:cs=[.int .u8 (x.toNat:Int)]:=hr;subst fa;exact⟨b,o,x,e,hb,hx,by simpa[ak.sz] using hc 0 _ rfl⟩
inductive Flat {α:Type} [ak α] (w:World) (S:Nat->Prop):List Value->List α->Prop where
 | nil:Flat w S [] []
 | snoc {cs ds:List Value} {xs:List α} {x:α}:Flat w S cs xs->ak.rep w S ds x->Flat w S (cs++ds) (xs++[x])
section
variable {α:Type} [ak α] {w w':World} {S S':Nat->Prop}
theorem Flat.keep {cs:List Value} {xs:List α} (h:Flat w S cs xs) (hS:∀b,S b->S' b) (hk:af S w w'):Flat w' S' cs xs:=by
 induction h with
 | nil=>exact .nil
 | snoc _ hr ih=>exact .snoc ih (ak.keep hr hS hk)
theorem Flat.length {cs:List Value} {xs:List α} (h:Flat w S cs xs):cs.length=xs.length*ak.sz α:=by
 induction h with
 | nil=>simp
 | snoc _ hr ih=>simp[ih,ak.len hr,Nat.add_mul]
theorem Flat.get {cs:List Value} {xs:List α} (h:Flat w S cs xs):∀i x,xs[i]?=some x->∃ds,ak.rep w S ds x/\∀j u,ds[j]?=some u->cs[i*ak.sz α+j]?=some u:=by
 induction h with
 | nil=>intro i x hi;simp at hi
 | @snoc cs ds xs x hf hr ih=>
  intro i y hi;have hl:=hf.length;rw[List.getElem?_append] at hi;split at hi
  ·rename_i hlt;obtain⟨es,hre,hc⟩:=ih i y hi;refine⟨es,hre,λj u hj=>?_⟩;have h1:=hc j u hj;have wv:i*ak.sz α+j<cs.length:=by
    rcases Nat.lt_or_ge (i*ak.sz α+j) cs.length with h|h
    ·exact h
    ·rw[List.getElem?_eq_none h] at h1;cases h1
   rw[List.getElem?_append_left wv];exact h1
  ·rename_i hge;have hi0:i=xs.length:=by
    rcases Nat.lt_or_ge (i-xs.length) 1 with h|h
    ·omega
    ·rw[List.getElem?_eq_none (by simpa using h)] at hi;cases hi
   subst hi0;simp at hi;subst hi;refine⟨ds,hr,λj u hj=>?_⟩;rw[<-hl,List.getElem?_append_right (by omega),Nat.add_sub_cancel_left];exact hj
theorem RS.of_own {base:Nat} {e:TypeId} {A:Option Addr} {n c:Nat} {cs:List Value} {xs:List α} (h:w.ownsRow base e (ak.sz α) (.slice A n c) n cs) (hf:Flat w S cs xs) (hn:n=xs.length) (hg:∀g,(Value.slice A n c).ownBlock=some g->S g):RS w S A n c xs:=by
 have h':=h;obtain⟨hl,h2⟩:=h';rcases h2 with⟨hv,FN⟩|⟨g,cap,cur,hv,fY,hh,D6,N8,rY⟩
 ·injection hv with h1 h2 h3
  subst h1 h2 h3;refine⟨hn,Nat.le_refl _,Nat.zero_le _,λh=>absurd h (by omega)⟩
 ·injection hv with h1 h2 h3
  subst h1 h3;refine⟨hn,D6,N8,λ_=>⟨g,0,rfl,hg g rfl,λi x hi=>?_⟩⟩;obtain⟨ds,hr,hc⟩:=hf.get i x hi;refine⟨ds,hr,λj u hj=>?_⟩;have h1:=h.cells (g:=g) rfl _ _ (hc j u hj);rw[dz];exact h1
end
theorem Flat.bytes {w:World} {S:Nat->Prop} (l:List UInt8):Flat w S (l.map λx=>Value.int .u8 (x.toNat:Int)) l:=by
 have:∀(k:List UInt8),Flat w S (k.reverse.map λx=>Value.int .u8 (x.toNat:Int)) k.reverse:=by
  intro k;induction k with
  | nil=>exact .nil
  | cons x k ih=>
   rw[List.reverse_cons,List.map_append];exact .snoc ih rfl
 simpa using this l.reverse
theorem Flat.strs {w:World} {S:Nat->Prop} (l:List ByteArray):Flat w S (l.map Value.string) l:=by
 have:∀(k:List ByteArray),Flat w S (k.reverse.map Value.string) k.reverse:=by
  intro k;induction k with
  | nil=>exact .nil
  | cons x k ih=>
   rw[List.reverse_cons,List.map_append];exact .snoc ih rfl
 simpa using this l.reverse
def Own {α:Type} [ak α] (w:World) (S:Nat->Prop) (base:Nat) (e:TypeId) (v:Value) (xs:List α):Prop:=
 ∃cs,w.ownsRow base e (ak.sz α) v xs.length cs/\Flat w S cs xs/\∀b,S b->b<w.heap.size/\some b≠v.ownBlock
structure dO (P:Program) (t e:TypeId) (sz bytes:Nat):Prop where
 under:P.underlying t=some (.slice e)
 info:∃i z,P.info? e=some i/\i.zero=some z/\i.size=sz/\i.bytes=bytes/\z.cells.size=sz
 pos:0<sz
theorem dO.mk' {P:Program} {t e:TypeId} {z:Value} {sz bytes:Nat} (hu:P.underlying t=some (.slice e)) (h:(P.info? e).map (λi=>(i.zero,i.size,i.bytes))=some (some z,sz,bytes)) (hz:z.cells.size=sz) (hp:0<sz):dO P t e sz bytes:=by
 obtain⟨i0,hi,hz0,hz1,hz2⟩:=info_parts h;exact⟨hu,⟨i0,z,hi,hz0,hz1,hz2,hz⟩,hp⟩
section
variable {α:Type} [ak α] {w w':World} {S:Nat->Prop} {base:Nat} {e:TypeId} {v:Value} {xs:List α}
theorem Own.nil (w:World) (base:Nat) (e:TypeId):Own w (λ_=>False) base e (.slice none 0 0) ([]:List α):=⟨[],World.ownsRow_nil _ _ _ _,.nil,λ_ h=>h.elim⟩
theorem Own.nil' (w:World) (S:Nat->Prop) (hS:∀b,S b->b<w.heap.size) (base:Nat) (e:TypeId):Own w S base e (.slice none 0 0) ([]:List α):=⟨[],World.ownsRow_nil _ _ _ _,.nil,λb h=>⟨hS b h,by simp[Value.ownBlock]⟩⟩
theorem Own.keep (h:Own w S base e v xs) {row:Option Nat} (hg:w.grownBy w' row) (hne:v.ownBlock=none\/v.ownBlock≠row) (hS:∀b,S b->some b≠row):Own w' S base e v xs:=by
 obtain⟨cs,h1,h2,h3⟩:=h;exact⟨cs,h1.kept hg hne,h2.keep (λ_ h=>h) ((af.grown hg).sub λb hb=>⟨(h3 b hb).1,hS b hb⟩),λb hb=>⟨Nat.lt_of_lt_of_le (h3 b hb).1 hg.size,(h3 b hb).2⟩⟩
theorem Own.alloc (h:Own w S base e v xs) (o:Obj):Own (w.alloc o) S base e v xs:=h.keep (World.grownBy_alloc w o none) (by cases h:v.ownBlock<;>simp) (by simp)
theorem oW (w:World) (n:Nat) (row:Option Nat):w.grownBy (w.drewN n) row:=⟨rfl,rfl,rfl,Nat.le_refl _,λ_ _ _=>rfl⟩
theorem Own.drewN (h:Own w S base e v xs) (n:Nat):Own (w.drewN n) S base e v xs:=h.keep (oW w n none) (by cases h:v.ownBlock<;>simp) (by simp)
theorem cj {B:Nat} {a w:World} (h:Below B a w) (hB:a.heap.size<=B) (row:Option Nat):a.grownBy w row:=⟨h.os,h.tape,h.output,h.size,λi hi _=>h.block i (by omega)⟩
theorem Own.below (h:Own w S base e v xs) (hb:Below w.heap.size w w'):Own w' S base e v xs:=h.keep (cj hb (Nat.le_refl _) none) (by cases h:v.ownBlock<;>simp) (by simp)
theorem grownBy_setCell (w:World) (p:Addr) (u:Value):w.grownBy (w.setCell p u) (some p.block):=
 ⟨rfl,rfl,rfl,by simp[World.setCell],λk _ hk=>Below.heap_setCell w p u k (λe=>hk (by rw[e]))⟩
theorem Own.setCell (h:Own w S base e v xs) {p:Addr} (hp:v.ownBlock≠some p.block) (hS:∀b,S b->b≠p.block) (u:Value):Own (w.setCell p u) S base e v xs:=
 h.keep (grownBy_setCell w p u) (.inr hp) (λb hb hc=>hS b hb (by injection hc))
theorem Own.lt (h:Own w S base e v xs):∀k,v.ownBlock=some k->base<=k/\k<w.heap.size:=by
 obtain⟨cs,h1,_,_⟩:=h;exact h1.lt
theorem Own.slice (h:Own w S base e v xs):∃A n c,v=.slice A n c/\n=xs.length:=by
 obtain⟨cs,⟨_,h2⟩,_⟩:=h;rcases h2 with⟨hv,hn⟩|⟨g,cap,cur,hv,_⟩
 ·exact⟨_,_,_,hv,hn.symm⟩
 ·exact⟨_,_,_,hv,rfl⟩
theorem Own.rs {A:Option Addr} {n c:Nat} (h:Own w S base e (.slice A n c) xs) {S':Nat->Prop} (hS:∀b,S b->S' b) (hg:∀g,base<=g->g<w.heap.size->S' g):RS w S' A n c xs:=by
 have hlt:=h.lt;obtain⟨A',n',c',hv,hn⟩:=h.slice;injection hv with _ oT _
 subst oT;obtain⟨cs,h1,h2,h3⟩:=h;subst hn;exact RS.of_own h1 (h2.keep hS (af.refl _ _)) rfl (λg lO=>hg g (hlt g lO).1 (hlt g lO).2)
theorem jB {P:Program} {o:Oper} {a:Act} {K:Act->World->Prop} {Q:Exit->Act->World->Prop} (s x:Operand) (t:TypeId) (ho:o.op=.call { callee:=.builtin .append,args:=#[s,x],argTypes:=#[t,t] }) (bytes:Nat) (ht:dO P t e (ak.sz α) bytes) (hs:a.eval s=v) (dM:Own w S base e v xs) (ad:Addr) (m c:Nat) (ds:List Value) (ys:List α) (hx:a.eval x=.slice (some ad) m c) (hm:m=ys.length) (hf:Flat w S ds ys) (hd:bb w ad ds) (h1:∀u∈ds,u.oneCell'=true) (hl:(xs.length+ys.length)*(bytes+1)<=140737488355328) (fY:base<=w.heap.size) (h:∀v' w',Own w' S base e v' (xs++ys)->w.grownBy w' v.ownBlock->(v'.ownBlock=v.ownBlock\/v'.ownBlock=some w.heap.size)->K (a.put o.dst v') w'):o.wp P a w K Q:=by
 obtain⟨hu,⟨i,z,hi,hz,hsz,QK,LU⟩,Vf⟩:=ht;obtain⟨cs,o1,o2,o3⟩:=dM;subst hm;have hlt:=o1.lt;have hcap:xs.length+ys.length<=maxLen:=by
  unfold maxLen;have:xs.length+ys.length<=(xs.length+ys.length)*(bytes+1):=Nat.le_mul_of_pos_right _ (by omega);omega
 obtain⟨v',w',hr,q1,q2,q3,q4⟩:=run_append_own_at (P:=P) w base t o.type e i z (ak.sz α) bytes hu hi hz hsz QK LU Vf v xs.length cs o1 ad ys.length c ds hf.length hd h1 hcap (Nat.le_trans (Nat.mul_le_mul_left _ (by omega)) hl) fY;unfold Oper.wp execOp;simp only[ho,resolve,invoke,builtin,Sem.run_bind,Sem.run_pure,Result.andThen_ok,List.map_toArray,List.map_cons,List.map_nil,hs,hx,hr];refine h v' w' ⟨cs++ds,by rw[List.length_append];exact q1,?_,λb hb=>⟨Nat.lt_of_lt_of_le (o3 b hb).1 q2.size,?_⟩⟩ q2 q4
 ·have hk:af S w w':=(af.grown q2).sub o3;have hf':=hf.keep (S':=S) (λ_ h=>h) hk;have FM:=o2.keep (S':=S) (λ_ h=>h) hk;clear q1 q2 q3 q4 hr h o1 hx hf hd h1 hl hcap;induction hf' with
  | nil=>simpa using FM
  | @snoc ds1 ds2 ys y _ hr ih=>
   rw[<-List.append_assoc,<-List.append_assoc];exact .snoc ih hr
 ·rcases q4 with q4|q4
  ·rw[q4];exact(o3 b hb).2
  ·rw[q4];intro ZH;injection ZH with ZH
   have:=(o3 b hb).1;omega
theorem di {P:Program} {ops:Array Oper} {rest:List Oper} {o:Oper} {a:Act} {Q:Exit->Act->World->Prop} (lx:o.guard=none) (s x:Operand) (t:TypeId) (ho:o.op=.call { callee:=.builtin .append,args:=#[s,x],argTypes:=#[t,t] }) (bytes:Nat) (ht:dO P t e (ak.sz α) bytes) (hs:a.eval s=v) (dM:Own w S base e v xs) (ad:Addr) (m c:Nat) (ds:List Value) (ys:List α) (hx:a.eval x=.slice (some ad) m c) (hm:m=ys.length) (hf:Flat w S ds ys) (hd:bb w ad ds) (h1:∀u∈ds,u.oneCell'=true) (hl:(xs.length+ys.length)*(bytes+1)<=140737488355328) (fY:base<=w.heap.size) (h:∀v' w',Own w' S base e v' (xs++ys)->w.grownBy w' v.ownBlock->(v'.ownBlock=v.ownBlock\/v'.ownBlock=some w.heap.size)->wpList P ops Q rest (a.put o.dst v') w'):wpList P ops Q (o::rest) a w:=
 wpList_plain lx λ_ hK=>jB s x t ho bytes ht hs dM ad m c ds ys hx hm hf hd h1 hl fY λv' w' h2 h3 h4=>hK _ _ (h v' w' h2 h3 h4)
end
theorem bb.new (w:World) (ds:List Value) (t:TypeId):bb (w.alloc (.cells ds.toArray t)) ⟨w.heap.size,0,none⟩ ds:=by
 intro j u hj;have:(⟨w.heap.size,0,none⟩:Addr).add j=⟨w.heap.size,j,none⟩:=by unfold Addr.add;split<;>simp_all
 rw[this,World.cell?_alloc_new];simpa using hj
theorem xj {α:Type} [ak α] {w0 wr:World} {S:Nat->Prop} {e:TypeId} {v:Value} {xs:List α} {P:Program} {ops:Array Oper} {rest:List Oper} {o:Oper} {a:Act} {Q:Exit->Act->World->Prop} (lx:o.guard=none) (s x:Operand) (t:TypeId) (ho:o.op=.call { callee:=.builtin .append,args:=#[s,x],argTypes:=#[t,t] }) (bytes:Nat) (ht:dO P t e (ak.sz α) bytes) (hs:a.eval s=v) (dM:Own wr S w0.heap.size e v xs) (ka:Below w0.heap.size w0 wr) (ds:List Value) (y:α) (c:Nat) (hx:a.eval x=.slice (some ⟨wr.heap.size,0,none⟩) 1 c) (hf:ak.rep wr S ds y) (e':TypeId) (h1:∀u∈ds,u.oneCell'=true) (hl:(xs.length+1)*(bytes+1)<=140737488355328) (h:∀v' w',Own w' S w0.heap.size e v' (xs++[y])->Below w0.heap.size w0 w'->(wr.alloc (.cells ds.toArray e')).grownBy w' v.ownBlock->(v'.ownBlock=v.ownBlock\/v'.ownBlock=some (wr.heap.size+1))->wpList P ops Q rest (a.put o.dst v') w') : wpList P ops Q (o::rest) a (wr.alloc (.cells ds.toArray e')):=by
 have hlt:=dM.lt;have hS:=dM;obtain⟨_,_,_,hS⟩:=hS;have pT:Flat (wr.alloc (.cells ds.toArray e')) S ds [y]:=by
  have:=Flat.snoc (Flat.nil (w:=wr.alloc (.cells ds.toArray e')) (S:=S)) (ak.keep (S':=S) hf (λ_ h=>h) (λp hp=>Below.heap_alloc wr _ p (hS _ hp).1));simpa using this
 refine di lx s x t ho bytes ht hs (dM.alloc _) ⟨wr.heap.size,0,none⟩ 1 c ds [y] hx rfl pT (bb.new wr ds e') h1 hl (by have:=ka.size;simp;omega) λv' w' q1 q2 q3=>h v' w' q1 ?_ q2 (by simpa using q3);exact(ka.alloc ka.size _).grown q2 (by have:=ka.size;simp;omega) (λk hk=>(hlt k hk).1)
theorem ah {w w1 w2:World} (h:Below w.heap.size w w1) (k:Below w1.heap.size w1 w2):Below w.heap.size w w2:=h.trans (k.mono h.size)
theorem wT {w w1:World} (h:Below w.heap.size w.drew w1):Below w.heap.size w w1:=⟨h.os,h.tape,h.output,h.size,h.block⟩
def cm (w w':World) (b:Nat):Prop:=w.heap.size<=b/\b<w'.heap.size
def jz (w:World) (v:Value) (e:Ending) (w':World):Prop:=e=.returned v/\Below w.heap.size w w'
def uM (w:World) (v:Value) (e:Ending) (w':World):Prop:=e=.returned v/\w=w'
def Fz (w:World) (v:Value) (e:Ending) (w':World):Prop:=e=.returned v/\∃n,w'=w.drewN n
theorem below_drewN {B:Nat} {a w:World} (h:Below B a w) (n:Nat):Below B a (w.drewN n):=⟨h.os,h.tape,h.output,h.size,h.block⟩
theorem kY {v v':Value} (h:v=v'):Ending.returned v=.returned v':=by rw[h]
theorem kX {α:Type} {l:List α} {k:Nat} {x:α} (h:l[k]?=some x):l.take (k+1)=l.take k++[x]:=by
 rw[List.take_add_one,h];rfl
theorem AT {α:Type} {l:List α} {k:Nat} {x:α} (h:l[k]?=some x):l.drop k=x::l.drop (k+1):=by
 obtain⟨hk,e⟩:=List.getElem?_eq_some_iff.1 h;rw[List.drop_eq_getElem_cons hk,e]
theorem ji {α:Type} {l:List α} {k:Nat} {x:α} (h:l[k]?=some x):k<l.length:=(List.getElem?_eq_some_iff.1 h).1
def bS (w:World) (g:Nat) (t:TypeId) (cs:Array Value):Prop:=w.heap[g]?=some (.cells cs t (0,0))
section
variable {w w':World} {g:Nat} {t:TypeId} {cs:Array Value}
theorem bS.lt (h:bS w g t cs):g<w.heap.size:=by
 rcases Nat.lt_or_ge g w.heap.size with hlt|hge
 ·exact hlt
 ·unfold bS at h;rw[Array.getElem?_eq_none hge] at h;cases h
theorem bS.cell (h:bS w g t cs) (i:Nat):w.cell? ⟨g,i,none⟩=cs[i]?:=cell_of_row w g i cs t (0,0) h
theorem bS.frozen (h:bS w g t cs) (i:Nat):w.frozen? ⟨g,i,none⟩=false:=by
 unfold bS at h;simp[World.frozen?,h]
theorem bS.new (w:World) (t:TypeId) (cs:Array Value):bS (w.alloc (.cells cs t)) w.heap.size t cs:=heap_alloc_new w _
theorem bS.new' {w:World} {g:Nat} (h:w.heap.size=g) (t:TypeId) (cs:Array Value):bS (w.alloc (.cells cs t)) g t cs:=by subst h;exact bS.new w t cs
theorem bS.alloc (h:bS w g t cs) (o:Obj):bS (w.alloc o) g t cs:=(Below.heap_alloc w o g h.lt).trans h
theorem bS.set_ (h:bS w g t cs) (i:Nat) (u:Value):bS (w.setCell ⟨g,i,none⟩ u) g t (cs.setIfInBounds i u):=by
 unfold bS at h ⊢;simp[World.setCell,Array.getElem?_modify,h]
theorem bS.far (h:bS w g t cs) {p:Addr} (hp:g≠p.block) (u:Value):bS (w.setCell p u) g t cs:=(Below.heap_setCell w p u g hp).trans h
theorem bS.below {B:Nat} (h:bS w g t cs) (hb:Below B w w') (hg:g<B):bS w' g t cs:=(hb.block g hg).trans h
theorem bS.keep (h:bS w g t cs) (hb:Below w.heap.size w w'):bS w' g t cs:=h.below hb h.lt
theorem bS.grown {row:Option Nat} (h:bS w g t cs) (hb:w.grownBy w' row) (hg:some g≠row):bS w' g t cs:=(hb.block g h.lt hg).trans h
end
theorem ki {α:Type} [ak α] {w0 wr:World} {S:Nat->Prop} {B base:Nat} {e:TypeId} {v:Value} {xs:List α} {P:Program} {ops:Array Oper} {rest:List Oper} {o:Oper} {a:Act} {Q:Exit->Act->World->Prop} (lx:o.guard=none) (s x:Operand) (t:TypeId) (ho:o.op=.call { callee:=.builtin .append,args:=#[s,x],argTypes:=#[t,t] }) (bytes:Nat) (ht:dO P t e (ak.sz α) bytes) (hs:a.eval s=v) (dM:Own wr S base e v xs) (ka:Below B w0 wr) (hB:B<=base) (fY:base<=wr.heap.size) (ds:List Value) (y:α) (c:Nat) (hx:a.eval x=.slice (some ⟨wr.heap.size,0,none⟩) 1 c) (hf:ak.rep wr S ds y) (e':TypeId) (h1:∀u∈ds,u.oneCell'=true) (hl:(xs.length+1)*(bytes+1)<=140737488355328) (h:∀v' w',Own w' S base e v' (xs++[y])->Below B w0 w'->(wr.alloc (.cells ds.toArray e')).grownBy w' v.ownBlock->(v'.ownBlock=v.ownBlock\/v'.ownBlock=some (wr.heap.size+1))->wpList P ops Q rest (a.put o.dst v') w') : wpList P ops Q (o::rest) a (wr.alloc (.cells ds.toArray e')):=by
 have hlt:=dM.lt;have hS:=dM;obtain⟨_,_,_,hS⟩:=hS;have pT:Flat (wr.alloc (.cells ds.toArray e')) S ds [y]:=by
  have:=Flat.snoc (Flat.nil (w:=wr.alloc (.cells ds.toArray e')) (S:=S)) (ak.keep (S':=S) hf (λ_ h=>h) (λp hp=>Below.heap_alloc wr _ p (hS _ hp).1));simpa using this
 refine di lx s x t ho bytes ht hs (dM.alloc _) ⟨wr.heap.size,0,none⟩ 1 c ds [y] hx rfl pT (bb.new wr ds e') h1 hl (by simp;omega) λv' w' q1 q2 q3=>h v' w' q1 ?_ q2 (by simpa using q3);exact(ka.alloc (by omega) _).grown q2 (by simp;omega) (λk hk=>Nat.le_trans hB (hlt k hk).1)
def val:List (BitVec 32)->Nat
 | []=>0
 | x::l=>x.toNat+4294967296*val l
def bC (n:Nat):List (BitVec 32):=if h:n=0 then[] else BitVec.ofNat 32 n::bC (n/4294967296)
 termination_by n
 decreasing_by omega
def bA:List (BitVec 32)->List (BitVec 32)
 | []=>[]
 | x::l=>if bA l=[] then(if x=0#32 then[] else[x]) else x::bA l
theorem aM (n:Nat):val (bC n)=n:=by
 induction n using Nat.strongRecOn with
 | ind n ih=>
  unfold bC;split
  ·rename_i h;simp[val,h]
  ·rename_i h;simp only[val];rw[ih _ (by omega),BitVec.toNat_ofNat];omega
theorem du {n:Nat}:bC n=[]↔n=0:=by
 constructor
 ·intro h;have:=aM n;rw[h] at this;simpa[val] using this.symm
 ·rintro rfl;unfold bC;simp
theorem bU:bC 0=[]:=du.2 rfl
theorem tQ (x:BitVec 32) (n:Nat) (h:x.toNat+4294967296*n≠0):bC (x.toNat+4294967296*n)=x::bC n:=by
 have:=x.isLt;rw[bC,dif_neg h];congr 1
 ·apply BitVec.eq_of_toNat_eq;rw[BitVec.toNat_ofNat];omega
 ·congr 1;omega
theorem hJ {x:BitVec 32}:x=0#32↔x.toNat=0:=by
 constructor
 ·rintro rfl;rfl
 ·intro h;exact BitVec.eq_of_toNat_eq h
theorem bR (l:List (BitVec 32)):bC (val l)=bA l:=by
 induction l with
 | nil=>exact bU
 | cons x l ih=>
  simp only[val,bA];rw[<-ih];by_cases hv:val l=0
  ·rw[hv,bU];by_cases hx:x=0#32
   ·subst hx;simp[bU]
   ·have:x.toNat≠0:=λh=>hx (hJ.2 h);rw[tQ x 0 (by omega),bU];simp[hx]
  ·rw[tQ x _ (by omega),if_neg (λh=>hv (du.1 h))]
theorem ct (l:List (BitVec 32)):val (bA l)=val l:=by rw[<-bR,aM]
theorem o0 (n:Nat):bA (bC n)=bC n:=by rw[<-bR,aM]
theorem val_append (a b:List (BitVec 32)):val (a++b)=val a+4294967296^a.length*val b:=by
 induction a with
 | nil=>simp[val]
 | cons x a ih=>
  simp only[List.cons_append,val,ih,List.length_cons];rw[Nat.pow_succ',Nat.mul_add,Nat.mul_assoc,Nat.add_assoc]
theorem cE (l:List (BitVec 32)):val l<4294967296^l.length:=by
 induction l with
 | nil=>simp[val]
 | cons x l ih=>
  have:=x.isLt;simp only[val,List.length_cons];rw[Nat.pow_succ'];omega
theorem oJ (n:Nat):val (List.replicate n 0#32)=0:=by
 induction n with
 | zero=>rfl
 | succ n ih=>simp[List.replicate_succ,val,ih]
theorem cf (l:List (BitVec 32)) (k:Nat) (hk:k<=l.length):val l=val (l.take k)+4294967296^k*val (l.drop k):=by
 have:=val_append (l.take k) (l.drop k);rw[List.take_append_drop,List.length_take,Nat.min_eq_left hk] at this;exact this
theorem mR (l:List (BitVec 32)) (x:BitVec 32):val (l++[x])=val l+4294967296^l.length*x.toNat:=by
 rw[val_append];simp[val]
theorem jC {l:List (BitVec 32)} {k:Nat} {x:BitVec 32} (h:l[k]?=some x):val (l.take (k+1))=val (l.take k)+4294967296^k*x.toNat:=by
 have hk:k<l.length:=(List.getElem?_eq_some_iff.1 h).1;rw[List.take_add_one,h];show val (l.take k++[x])=_;rw[mR,List.length_take,Nat.min_eq_left (by omega)]
theorem lX (l:List (BitVec 32)):bA (l++[0#32])=bA l:=by
 rw[<-bR,mR,<-bR];simp
theorem vj {l:List (BitVec 32)} {x:BitVec 32} (h:x≠0#32):bA (l++[x])=l++[x]:=by
 induction l with
 | nil=>simp[bA,h]
 | cons y l ih=>simp only[List.cons_append,bA,ih];simp
theorem aR (l:List (BitVec 32)):(bA l).length<=l.length:=by
 induction l with
 | nil=>simp[bA]
 | cons x l ih=>
  simp only[bA];split
  ·split<;>simp
  ·simp;exact ih
theorem mT {l:List (BitVec 32)} {x:BitVec 32} (h:(bA l).getLast?=some x):x≠0#32:=by
 induction l with
 | nil=>simp[bA] at h
 | cons y l ih=>
  simp only[bA] at h;split at h
  ·split at h
   ·simp at h
   ·rename_i hy;simp at h;subst h;exact hy
  ·rename_i hn;rw[List.getLast?_cons] at h;cases hh:(bA l).getLast? with
   | none=>rw[List.getLast?_eq_none_iff] at hh;exact absurd hh hn
   | some z=>rw[hh] at h;simp at h;subst h;exact ih hh
theorem dK {n k:Nat} (h:n<4294967296^k):(bC n).length<=k:=by
 induction k generalizing n with
 | zero=>
  have:n=0:=by simpa using h
  subst this;simp[bU]
 | succ k ih=>
  by_cases hn:n=0
  ·subst hn;simp[bU]
  ·rw[bC,dif_neg hn,List.length_cons];have:=ih (n:=n/4294967296) (by rw[Nat.pow_succ'] at h;omega);omega
theorem oS {n k:Nat} (h:4294967296^k<=n):k<(bC n).length:=by
 rcases Nat.lt_or_ge k (bC n).length with hl|hg
 ·exact hl
 ·have:=cE (bC n);rw[aM] at this;have:=Nat.pow_le_pow_right (n:=4294967296) (by omega) hg;omega
def FI (x:BitVec 32):Value:=.int .u32 (x.toNat:Int)
theorem da {a b:Nat} (h:a<=b):(bC a).length<=(bC b).length:=by
 have:=cE (bC b);rw[aM] at this;exact dK (by omega)
theorem fm {n k:Nat} (h:(bC n).length<=k) {m:Nat} (hm:m<=n):(bC m).length<=k:=Nat.le_trans (da hm) h
def F1 (n:Nat):UInt8:=UInt8.ofNat (48+n%10)
def gH (n:Nat):List UInt8:=if h:n=0 then[] else F1 n::gH (n/10)
 termination_by n
 decreasing_by omega
def cz (n:Nat):List UInt8:=if n=0 then[48] else(gH n).reverse
theorem gG:gH 0=[]:=by unfold gH;simp
theorem kJ {X k n:Nat} (h:10^k<=X) (hX:X<4294967296^n):3*k<32*n:=by
 have h1:(2:Nat)^(3*k)<=10^k:=by rw[Nat.pow_mul];exact Nat.pow_le_pow_left (by omega) k
 have h2:4294967296^n=2^(32*n):=by rw[Nat.pow_mul]
 rw[h2] at hX;exact(Nat.pow_lt_pow_iff_right (a:=2) (by omega)).1 (by omega)
theorem EX {n:Nat} (h:n≠0):10^((gH n).length-1)<=n:=by
 induction n using Nat.strongRecOn with
 | ind n ih=>
  rw[gH,dif_neg h];by_cases h10:n/10=0
  ·rw[h10,gG];simp;omega
  ·have h1:=ih (n/10) (by omega) h10;have hp:0<(gH (n/10)).length:=by rw[gH,dif_neg h10];simp
   rw[List.length_cons,Nat.add_sub_cancel];obtain⟨k,hk⟩:∃k,(gH (n/10)).length=k+1:=⟨_,(Nat.sub_add_cancel hp).symm⟩;rw[hk,Nat.add_sub_cancel] at h1;rw[hk,Nat.pow_succ'];omega
theorem gb {n k:Nat} (h:(bC n).length<=k):(cz n).length<=11*k+2:=by
 unfold cz;split
 ·simp
 ·rename_i hn;have h1:=EX hn;have h2:=cE (bC n);rw[aM] at h2;have h3:=kJ h1 (Nat.lt_of_lt_of_le h2 (Nat.pow_le_pow_right (by omega) h));rw[List.length_reverse];omega
instance:ak (BitVec 32) where
 sz:=1
 rep _ _ cs x:=cs=[FI x]
 len h:=by rw[h];rfl
 keep h _ _:=h
structure Q where
 neg:Bool
 n:Nat
 d:Nat
def rq (neg:Bool) (X Y:Nat):Q:=if X=0\/Y=0 then⟨false,0,1⟩ else⟨neg,X/Nat.gcd X Y,Y/Nat.gcd X Y⟩
theorem xV:bC 1=[1#32]:=by
 rw[bC,dif_neg (by omega)];have:(1:Nat)/4294967296=0:=by decide
 rw[this,bU]
structure Raw where
 neg:Bool
 num:List (BitVec 32)
 den:List (BitVec 32)
def Raw.q (r:Raw):Q:=rq r.neg (val r.num) (val r.den)
def Q.raw (q:Q):Raw:=⟨q.neg,bC q.n,bC q.d⟩
theorem Q.raw_q (q:Q):q.raw.q=rq q.neg q.n q.d:=by simp[Q.raw,Raw.q,aM]
def Raw.short (r:Raw) (k:Nat):Prop:=r.num.length<=k/\r.den.length<=k
theorem ym {k:Nat} (h:k<18446744073709551616):(bC k).length<=2:=dK (k:=2) (by simpa using h)
def lY (a:Bool) (X:Nat) (b:Bool) (Y:Nat):Bool×Nat:=if a=b then(a,X+Y) else if Y<=X then(a,X-Y) else(b,Y-X)
theorem gS {r:Raw} {k:Nat} (h:r.short k) (hk:1<=k):(bC r.q.n).length<=k/\(bC r.q.d).length<=k:=by
 have hx:(bC (val r.num)).length<=k:=by rw[bR];exact Nat.le_trans (aR _) h.1
 have hy:(bC (val r.den)).length<=k:=by rw[bR];exact Nat.le_trans (aR _) h.2
 unfold Raw.q rq;split
 ·simp only[bU,xV,List.length_nil,List.length_singleton];omega
 ·exact⟨fm hx (Nat.div_le_self _ _),fm hy (Nat.div_le_self _ _)⟩
def sG (a b:Q):Q:=rq (lY a.neg (a.n*b.d) b.neg (b.n*a.d)).1 (lY a.neg (a.n*b.d) b.neg (b.n*a.d)).2 (a.d*b.d)
def Raw.flip (r:Raw):Raw:=⟨!r.neg,r.num,r.den⟩
def sw (a b:Q):Int:=if(sG a b).neg then -1 else if(sG a b).n=0 then 0 else 1
def Raw.valid (r:Raw):Bool:=r.neg==r.q.neg&&(decide (r.num=bC r.q.n)&&decide (r.den=bC r.q.d))
def gj (q:Q):List UInt8:=(if q.neg then[45] else[])++cz q.n++(if cz q.d=[49] then[] else 47::cz q.d)
def fT (c:UInt8):Bool:=decide (97<=c.toNat)&&decide (c.toNat<=122)
def digitB (c:UInt8):Bool:=decide (48<=c.toNat)&&decide (c.toNat<=57)
def lF (c:UInt8):Bool:=fT c||digitB c||c==45
def eT (c:UInt8):Bool:=decide (32<=c.toNat)&&decide (c.toNat<=126)
def ce (l:List UInt8):Nat:=match l with|[]=>0|c::_=>if fT c then(l.takeWhile lF).length else 0
def bK (l:List UInt8):Nat:=
 if(l.takeWhile digitB).length=0\/6<(l.takeWhile digitB).length\/(l.head?=some 48/\1<(l.takeWhile digitB).length)\/((l[(l.takeWhile digitB).length]?.map lF).getD false=true) then 0 else(l.takeWhile digitB).length
def cV (l:List UInt8):List UInt8:=l.takeWhile (· !=47)
def cU (l:List UInt8):List UInt8:=(l.dropWhile (· !=47)).drop 1
def hD (l:List UInt8):Bool:=l.contains 47
theorem kU {p:UInt8->Bool}:∀{l:List UInt8},(∀x∈l,p x=true)->l.takeWhile p=l/\l.dropWhile p=[]
 | [],_=>⟨rfl,rfl⟩
 | x::l,h=>by
  have hx:=h x (by simp);obtain⟨h1,h2⟩:=kU (l:=l) (λy hy=>h y (by simp[hy]));exact⟨by rw[List.takeWhile_cons,if_pos hx,h1],by rw[List.dropWhile_cons,if_pos hx,h2]⟩
theorem uv {l:List UInt8} (h:Lib.indexByte l 47= -1):cV l=l/\cU l=[]/\hD l=false:=by
 have h1:=Lib.indexByte_none h;have h2:∀x∈l,(x !=47)=true:=by
  intro x hx;obtain⟨k,hk⟩:=List.getElem?_of_mem hx;rw[bne_iff_ne];rintro rfl;exact h1 k hk
 refine⟨?_,?_,?_⟩
 ·unfold cV;exact(kU h2).1
 ·unfold cU;rw[(kU h2).2];rfl
 ·unfold hD;rw[Bool.eq_false_iff];intro hc;have:=List.contains_iff_mem.1 hc;simpa using h2 _ this
theorem oe:∀{l:List UInt8} {k:Nat},l[k]?=some 47->(∀j,j<k->l[j]?≠some 47)->cV l=l.take k/\cU l=l.drop (k+1)/\hD l=true
 | [],k,h,_=>by simp at h
 | x::l,0,h,_=>by
  simp at h;subst h;simp[cV,cU,hD]
 | x::l,k+1,h,hne=>by
  have hx:(x !=47)=true:=by
   rw[bne_iff_ne];rintro rfl;exact hne 0 (by omega) rfl
  obtain⟨h1,h2,h3⟩:=oe (l:=l) (k:=k) (by simpa using h) (λj hj=>by have:=hne (j+1) (by omega);simpa using this);unfold cV cU hD at*;refine⟨?_,?_,?_⟩
  ·rw[List.takeWhile_cons,if_pos hx,h1,List.take_succ_cons]
  ·rw[List.dropWhile_cons,if_pos hx,h2,List.drop_succ_cons]
  ·rw[List.contains_cons,h3,Bool.or_true]
theorem ij (l:List UInt8):Lib.indexByte l 47= -1\/∃k:Nat,Lib.indexByte l 47=(k:Int)/\l[k]?=some 47/\(∀j,j<k->l[j]?≠some 47)/\k<l.length:=by
 have hge:=Lib.indexByte_ge l 47;by_cases h:Lib.indexByte l 47= -1
 ·exact .inl h
 ·obtain⟨k,hk⟩:∃k:Nat,Lib.indexByte l 47=(k:Int):=⟨(Lib.indexByte l 47).toNat,by omega⟩;obtain⟨h1,h2⟩:=Lib.indexByte_some hk;exact .inr ⟨k,hk,h1,h2,(List.getElem?_eq_some_iff.1 h1).1⟩
def gK (l:List UInt8):Bool:=
 if l=[] then false
 else if ce l=l.length\/bK l=l.length then true
 else hD l&&(decide (cV l≠[])&&(decide (cU l≠[])&&(decide (bK (cV l)=(cV l).length)&&decide (bK (cU l)=(cU l).length))))
def vI (l:List UInt8):Bool:=l.all eT
def eE (k:ByteArray):Int:=
 if k=(⟨#[99,111,110,116,101,115,116]⟩:ByteArray) then 4 else
 6
def dk (k:ByteArray):Int:=
 if k=(⟨#[110,97,109,101,115]⟩:ByteArray)\/k=(⟨#[112,114,101,99,105,110,99,116,115]⟩:ByteArray) then 12 else
 if k=(⟨#[99,111,110,116,101,115,116,115]⟩:ByteArray) then 4 else
 if k=(⟨#[99,97,110,100,105,100,97,116,101,115]⟩:ByteArray) then 7 else
 0
def jV (k:ByteArray):Bool:=
 if k=(⟨#[99,111,110,116,101,115,116]⟩:ByteArray) then true else
 if k=(⟨#[115,116,121,108,101]⟩:ByteArray) then true else
 false
def cA (k:ByteArray):Int×Int:=
 if k=(⟨#[100,111,116,115]⟩:ByteArray) then(2,7) else
 if k=(⟨#[98,108,97,110,107]⟩:ByteArray)\/k=(⟨#[109,97,114,107,101,100]⟩:ByteArray) then(1,100) else
 if k=(⟨#[99,111,117,110,116]⟩:ByteArray) then(1,6) else
 if k=(⟨#[98,97,116,99,104]⟩:ByteArray) then(1,16) else
 if k=(⟨#[115,101,97,116,115]⟩:ByteArray) then(1,5) else
 if k=(⟨#[114,97,110,107,115]⟩:ByteArray) then(1,7) else
 if k=(⟨#[100,105,103,105,116,115]⟩:ByteArray) then(1,6) else
 if k=(⟨#[99,101,108,108]⟩:ByteArray) then(1,400) else
 (0,0)
def dw (k:ByteArray):List ByteArray:=
 if k=(⟨#[115,99,97,110]⟩:ByteArray) then[(⟨#[100,111,116,115]⟩:ByteArray),(⟨#[98,108,97,110,107]⟩:ByteArray),(⟨#[109,97,114,107,101,100]⟩:ByteArray)] else
 if k=(⟨#[115,99,97,110,110,101,114,115]⟩:ByteArray) then[(⟨#[99,111,117,110,116]⟩:ByteArray),(⟨#[98,97,116,99,104]⟩:ByteArray)] else
 if k=(⟨#[112,114,101,99,105,110,99,116,115]⟩:ByteArray) then[(⟨#[110,97,109,101,115]⟩:ByteArray)] else
 if k=(⟨#[99,111,110,116,101,115,116]⟩:ByteArray) then[(⟨#[109,101,116,104,111,100]⟩:ByteArray),(⟨#[115,101,97,116,115]⟩:ByteArray),(⟨#[114,97,110,107,115]⟩:ByteArray),(⟨#[100,105,103,105,116,115]⟩:ByteArray),(⟨#[116,105,101,115]⟩:ByteArray),(⟨#[111,118,101,114,118,111,116,101]⟩:ByteArray),(⟨#[115,107,105,112]⟩:ByteArray),(⟨#[99,97,110,100,105,100,97,116,101,115]⟩:ByteArray)] else
 if k=(⟨#[115,116,121,108,101]⟩:ByteArray) then[(⟨#[112,114,101,99,105,110,99,116,115]⟩:ByteArray),(⟨#[99,111,110,116,101,115,116,115]⟩:ByteArray)] else
 if k=(⟨#[97,117,100,105,116]⟩:ByteArray) then[(⟨#[114,105,115,107]⟩:ByteArray),(⟨#[115,101,101,100]⟩:ByteArray)] else
 if k=(⟨#[112,114,105,118,97,99,121]⟩:ByteArray) then[(⟨#[99,101,108,108]⟩:ByteArray)] else
 []
def aH (k:ByteArray):List ByteArray:=
 if k=(⟨#[109,101,116,104,111,100]⟩:ByteArray) then[(⟨#[105,114,118]⟩:ByteArray),(⟨#[109,101,101,107]⟩:ByteArray),(⟨#[103,114,101,103,111,114,121]⟩:ByteArray)] else
 if k=(⟨#[116,105,101,115]⟩:ByteArray) then[(⟨#[98,97,99,107,119,97,114,100,115]⟩:ByteArray),(⟨#[102,111,114,119,97,114,100,115]⟩:ByteArray),(⟨#[108,111,116]⟩:ByteArray)] else
 if k=(⟨#[111,118,101,114,118,111,116,101]⟩:ByteArray) then[(⟨#[115,116,111,112]⟩:ByteArray),(⟨#[115,107,105,112]⟩:ByteArray)] else
 if k=(⟨#[115,107,105,112]⟩:ByteArray) then[(⟨#[99,108,111,115,101]⟩:ByteArray),(⟨#[115,116,111,112]⟩:ByteArray),(⟨#[116,119,111]⟩:ByteArray)] else
 []
def cG:List ByteArray:=[(⟨#[115,99,97,110]⟩:ByteArray),(⟨#[115,99,97,110,110,101,114,115]⟩:ByteArray),(⟨#[112,114,101,99,105,110,99,116,115]⟩:ByteArray),(⟨#[99,111,110,116,101,115,116]⟩:ByteArray),(⟨#[115,116,121,108,101]⟩:ByteArray),(⟨#[97,117,100,105,116]⟩:ByteArray),(⟨#[112,114,105,118,97,99,121]⟩:ByteArray)]
def de (s:ByteArray) (lo hi:Int):Bool:=vI s.data.toList&&(decide (lo<=(s.size:Int))&&decide ((s.size:Int)<=hi))
def iM (l:List UInt8):Bool:=decide (l≠[])&&decide (bK l=l.length)
def bq (l:List UInt8):Int×Bool:=if iM l then(((Lib.decNat l).getD 0:Nat),true) else(0,false)
theorem gm {p:UInt8->Bool}:∀{l:List UInt8},(l.takeWhile p).length=l.length->∀x∈l,p x=true
 | [],_=>by simp
 | y::l,h=>by
  rw[List.takeWhile_cons] at h;split at h
  ·rename_i hy;simp only[List.length_cons] at h;intro x hx;rcases List.mem_cons.1 hx with rfl|hx
   ·exact hy
   ·exact gm (by omega) x hx
  ·simp at h
theorem gW {l:List UInt8} (h:iM l=true):l≠[]/\l.length<=6/\∀x∈l,digitB x=true:=by
 unfold iM at h;rw[Bool.and_eq_true,decide_eq_true_iff,decide_eq_true_iff] at h;obtain⟨h0,h1⟩:=h;have hp:0<l.length:=List.length_pos_iff.2 h0;unfold bK at h1;split at h1
 ·omega
 ·rename_i hn;refine⟨h0,by omega,gm h1⟩
theorem ut {x:UInt8} (h:digitB x=true):∃d,Lib.digitVal x=some d:=by
 unfold digitB at h;rw[Bool.and_eq_true,decide_eq_true_iff,decide_eq_true_iff] at h;unfold Lib.digitVal;exact⟨_,if_pos ⟨h.1,h.2⟩⟩
theorem iW:∀(l:List UInt8) (fg:Nat),(∀x∈l,digitB x=true)->∃n,Lib.decFrom fg l=some n
 | [],fg,_=>⟨fg,rfl⟩
 | x::l,fg,h=>by
  obtain⟨d,hd⟩:=ut (h x (by simp));obtain⟨n,hn⟩:=iW l (fg*10+d) (λy hy=>h y (by simp[hy]));exact⟨n,by simp[Lib.decFrom,hd,hn]⟩
def rD (Ha:Int):List ByteArray->List ByteArray->Int
 | _,[]=>0
 | pre,s::r=>if(pre.length:Int)=Ha then 7 else if de s 1 24=false then 8 else if Lib.containsS pre s then 3 else rD Ha (pre++[s]) r
def ny (l:List ByteArray) (Ha:Int):Int:=if l=[] then 7 else rD Ha [] l
def bP (s:ByteArray):Prop:=s.size<=17592186044416
structure am where
 num:ByteArray->Option Int
 lst:ByteArray->Option (List ByteArray)
 ln:ByteArray->Option Int
 risk:Raw
 seed:ByteArray
def am.zero:am:=⟨λ_=>none,λ_=>none,λ_=>none,⟨false,[],[]⟩,⟨#[]⟩⟩
def eL {α:Type} (f:ByteArray->Option α) (k:ByteArray) (x:α):ByteArray->Option α:=λt=>if t=k then some x else f t
theorem uu {x:UInt8} {d:Nat} (h:Lib.digitVal x=some d):d<10:=by
 unfold Lib.digitVal at h;split at h
 ·injection h with h;omega
 ·cases h
theorem decFrom_lt:∀(l:List UInt8) (fg n:Nat),Lib.decFrom fg l=some n->n<(fg+1)*10^l.length
 | [],fg,n,h=>by simp[Lib.decFrom] at h;subst h;simp
 | x::l,fg,n,h=>by
  unfold Lib.decFrom at h;split at h
  ·rename_i d hd;have h1:=decFrom_lt l _ _ h;have h2:=uu hd;rw[List.length_cons,Nat.pow_succ',<-Nat.mul_assoc];exact Nat.lt_of_lt_of_le h1 (Nat.mul_le_mul_right _ (by omega))
  ·cases h
theorem jU (l:List UInt8):0<=(bq l).1/\(bq l).1<=999999:=by
 unfold bq;split
 ·rename_i h;obtain⟨h0,h1,h2⟩:=gW h;obtain⟨n,hn⟩:=iW l 0 h2;have h3:=decFrom_lt l 0 n hn;have h4:(10:Nat)^l.length<=10^6:=Nat.pow_le_pow_right (by omega) h1;have h5:Lib.decNat l=some n:=by unfold Lib.decNat;rw[if_neg (by simpa using h0)];exact hn
  rw[h5];simp;omega
 ·simp
def dG (a b:Int):Q:=rq (decide (a<0) !=decide (b<0)) a.natAbs b.natAbs
def AY (a b:Q):Int:=sw a.raw.q b.raw.flip.q
def fP (l:List UInt8):Int×Option Raw:=
 if((bq (cV l)).2&&(bq (cU l)).2)=false then(5,none)
 else if(bq (cU l)).1=0\/AY (dG (bq (cV l)).1 (bq (cU l)).1) (dG 1 1000)<0\/0<AY (dG (bq (cV l)).1 (bq (cU l)).1) (dG 1 2) then(4,none)
 else(0,some (dG (bq (cV l)).1 (bq (cU l)).1).raw)
def am.withRisk (v:am) (r:Option Raw):am:=match r with|none=>v|some r=>{ v with risk:=r }
theorem px (neg:Bool) (X Y:Nat) (hx:X<18446744073709551616) (hy:Y<18446744073709551616):(rq neg X Y).raw.short 2:=by
 unfold rq;split
 ·exact⟨by simp[Q.raw,bU],by simp[Q.raw,xV]⟩
 ·exact⟨ym (Nat.lt_of_le_of_lt (Nat.div_le_self _ _) hx),ym (Nat.lt_of_le_of_lt (Nat.div_le_self _ _) hy)⟩
def lN:ByteArray:=⟨#[114,105,115,107]⟩
def lM:ByteArray:=⟨#[115,101,101,100]⟩
def oQ (key s:ByteArray) (v:am):Int×am:=
 if aH key≠[] then(if Lib.idxOfS (aH key) s+1=0 then 2 else 0,{ v with num:=eL v.num key (Lib.idxOfS (aH key) s+1) })
 else if key=lN then((fP s.data.toList).1,v.withRisk (fP s.data.toList).2)
 else if key=lM then(if de s 0 24 then(0,{ v with seed:=s }) else(8,v))
 else if(bq s.data.toList).2=false then(5,v)
 else if(bq s.data.toList).1<(cA key).1\/(cA key).2<(bq s.data.toList).1 then(4,v)
 else(0,{ v with num:=eL v.num key (bq s.data.toList).1 })
theorem fE (x:ByteArray):∀(zs:List ByteArray) (i:Nat),-1<=Lib.idxFromS zs x i/\Lib.idxFromS zs x i<=(i+zs.length:Nat)
 | [],i=>⟨by simp[Lib.idxFromS],by simp only[Lib.idxFromS];omega⟩
 | z::zs,i=>by
  have:=fE x zs (i+1);unfold Lib.idxFromS;rw[List.length_cons];split<;>omega
theorem sy (k:ByteArray):(aH k).length<=3:=by
 unfold aH;split
 ·decide
 split
 ·decide
 split
 ·decide
 split<;>decide
theorem tY (k s:ByteArray):-1<=Lib.idxOfS (aH k) s/\Lib.idxOfS (aH k) s<=10:=by
 have h:=fE s (aH k) 0;have:=sy k;unfold Lib.idxOfS;omega
structure ay where
 key:ByteArray
 vals:List ByteArray
 line:Int
def gr (kind:ByteArray) (f:ay) (v:am):Int×am:=
 if Lib.containsS (dw kind) f.key=false then(2,v)
 else if(v.ln f.key).isSome then(3,v)
 else if 0<dk f.key then(ny f.vals (dk f.key),{ v with ln:=eL v.ln f.key f.line,lst:=eL v.lst f.key f.vals })
 else if f.vals.length≠1 then(7,{ v with ln:=eL v.ln f.key f.line })
 else oQ f.key (f.vals.getD 0 ⟨#[]⟩) { v with ln:=eL v.ln f.key f.line }
structure dA where
 no:Int
 line:Int
def bz:ByteArray:=⟨#[109,101,116,104,111,100]⟩
def bn:ByteArray:=⟨#[100,105,103,105,116,115]⟩
def cT:ByteArray:=⟨#[115,101,97,116,115]⟩
def bZ:ByteArray:=⟨#[99,111,110,116,101,115,116]⟩
def fV:ByteArray:=⟨#[115,99,97,110]⟩
def dJ:ByteArray:=⟨#[98,108,97,110,107]⟩
def cJ:ByteArray:=⟨#[109,97,114,107,101,100]⟩
def am.n (v:am) (k:ByteArray):Int:=(v.num k).getD 0
def am.l (v:am) (k:ByteArray):Int:=(v.ln k).getD 0
def eY (v:am) (k:ByteArray):Bool:=!(v.ln k).isSome&&(decide (k≠bn)||decide (v.n bz=2))
def pd (kind:ByteArray) (line:Int) (v:am):dA:=
 if(v.ln bn).isSome=true/\v.n bz≠2 then⟨5,v.l bn⟩
 else if kind=bZ/\v.n bz=1/\1<v.n cT then⟨4,v.l cT⟩
 else if kind=fV/\v.n cJ<v.n dJ then⟨4,line⟩
 else⟨0,0⟩
def jW (v:am) (line:Int) (e:dA):List ByteArray->dA
 | []=>e
 | k::l=>if eY v k=true then⟨6,line⟩ else jW v line e l
def bj (kind:ByteArray) (line:Int) (v:am):dA:=jW v line (pd kind line v) (dw kind)
def fX (kind nm:ByteArray) (ns:List ByteArray):Int:=
 if dw kind=[] then 2
 else if jV kind=false then(if nm≠⟨#[]⟩ then 2 else if 0<ns.length then 3 else 0)
 else if nm=⟨#[]⟩ then 6
 else if gK nm.data.toList=false\/((nm.data.toList[0]?).getD 0).toNat<97\/24<nm.size then 8
 else if Lib.containsS ns nm=true then 3
 else if(ns.length:Int)=eE kind then 7 else 0
instance:ak ay where
 sz:=3
 rep w S cs x:=∃A n c,cs=[.string x.key,.slice A n c,.int .i64 x.line]/\RS w S A n c x.vals
 len h:=by obtain⟨A,n,c,rfl,_⟩:=h;rfl
 keep h hS hk:=by
  obtain⟨A,n,c,rfl,h⟩:=h;exact⟨A,n,c,rfl,h.keep hS hk⟩
def jm (k:ByteArray) (v:Int):ByteArray:=if v<1\/((aH k).length:Int)<v then⟨#[]⟩ else(aH k).getD (v.toNat-1) ⟨#[]⟩
def pK (n:Int):ByteArray:=⟨(Lib.itoa n).toArray⟩
def nameAt (fr:List ByteArray) (i:Int):ByteArray:=if 0<=i/\i<(fr.length:Int) then fr.getD i.toNat ⟨#[]⟩ else⟨#[]⟩
def df (UL:List Int) (fr:List ByteArray):List ByteArray:=UL.map (nameAt fr)
structure ax where
 name:ByteArray
 prec:List Int
 cont:List Int
instance:ak ax where
 sz:=3
 rep w S cs x:=∃A n c A2 n2 c2,cs=[.string x.name,.slice A n c,.slice A2 n2 c2]/\RS w S A n c x.prec/\RS w S A2 n2 c2 x.cont
 len h:=by obtain⟨A,n,c,A2,n2,c2,rfl,_⟩:=h;rfl
 keep h hS hk:=by
  obtain⟨A,n,c,A2,n2,c2,rfl,h1,h2⟩:=h;exact⟨A,n,c,A2,n2,c2,rfl,h1.keep hS hk,h2.keep hS hk⟩
def bY (a b:ax):Bool:=decide (a.name=b.name)&&(decide (a.prec=b.prec)&&decide (a.cont=b.cont))
structure ai where
 name:ByteArray
 cands:List ByteArray
 method:Int
 seats:Int
 ranks:Int
 digits:Int
 ties:Int
 over:Int
 skip:Int
instance:ak ai where
 sz:=9
 rep w S cs x:=∃A n c,cs=[.string x.name,.slice A n c,.int .i64 x.method,.int .i64 x.seats,.int .i64 x.ranks,.int .i64 x.digits,.int .i64 x.ties,.int .i64 x.over,.int .i64 x.skip]/\RS w S A n c x.cands
 len h:=by obtain⟨A,n,c,rfl,_⟩:=h;rfl
 keep h hS hk:=by
  obtain⟨A,n,c,rfl,h1⟩:=h;exact⟨A,n,c,rfl,h1.keep hS hk⟩
def bm (a b:ai):Bool:=decide (a.name=b.name)&&(decide (a.cands=b.cands)&&(decide (a.method=b.method)&&(decide (a.seats=b.seats)&&(decide (a.ranks=b.ranks)&&(decide (a.digits=b.digits)&&(decide (a.ties=b.ties)&&(decide (a.over=b.over)&&(decide (a.skip=b.skip)))))))))
instance:ak Q where
 sz:=3
 rep w S cs q:=∃A n c A2 n2 c2,cs=[.bool q.neg,.slice A n c,.slice A2 n2 c2]/\RS w S A n c (bC q.n)/\RS w S A2 n2 c2 (bC q.d)
 len h:=by obtain⟨A,n,c,A2,n2,c2,rfl,_⟩:=h;rfl
 keep h hS hk:=by
  obtain⟨A,n,c,A2,n2,c2,rfl,h1,h2⟩:=h;exact⟨A,n,c,A2,n2,c2,rfl,h1.keep hS hk,h2.keep hS hk⟩
instance:ak Raw where
 sz:=3
 rep w S cs q:=∃A n c A2 n2 c2,cs=[.bool q.neg,.slice A n c,.slice A2 n2 c2]/\RS w S A n c q.num/\RS w S A2 n2 c2 q.den
 len h:=by obtain⟨A,n,c,A2,n2,c2,rfl,_⟩:=h;rfl
 keep h hS hk:=by
  obtain⟨A,n,c,A2,n2,c2,rfl,h1,h2⟩:=h;exact⟨A,n,c,A2,n2,c2,rfl,h1.keep hS hk,h2.keep hS hk⟩
instance:ak dA where
 sz:=2
 rep _ _ cs x:=cs=[.int .i64 x.no,.int .i64 x.line]
 len h:=by rw[h];rfl
 keep h _ _:=h
theorem af.setCell {S:Nat->Prop} {w w1:World} (h:af S w w1) {p:Addr} (hp:¬S p.block) (u:Value):af S w (w1.setCell p u):=
 λq hq=>(Below.heap_setCell w1 p u q (λe=>by subst e;exact hp hq)).trans (h q hq)
theorem af.alloc {S:Nat->Prop} {w w1:World} (h:af S w w1) (hS:∀b,S b->b<w1.heap.size) (o:Obj):af S w (w1.alloc o):=
 λq hq=>(Below.heap_alloc w1 o q (hS _ hq)).trans (h q hq)
theorem af.drewN {S:Nat->Prop} {w w1:World} (h:af S w w1) (n:Nat):af S w (w1.drewN n):=h
section
variable {α:Type} [ak α] {w:World} {S:Nat->Prop}
theorem Flat.cons {ds cs:List Value} {x:α} {xs:List α} (hr:ak.rep w S ds x) (h:Flat w S cs xs):Flat w S (ds++cs) (x::xs):=by
 induction h with
 | nil=>have:=Flat.snoc (Flat.nil (w:=w) (S:=S)) hr;simpa using this
 | @snoc cs es xs y _ hy ih=>have:=Flat.snoc ih hy;simpa using this
theorem RS.of_blk {g:Nat} {t:TypeId} {cs:Array Value} {xs:List α} {n c:Nat} (hb:bS w g t cs) (hf:Flat w S cs.toList xs) (hn:n=xs.length) (hc:n<=c) (hm:c<=maxLen) (hS:S g):RS w S (some ⟨g,0,none⟩) n c xs:=by
 refine⟨hn,hc,hm,λ_=>⟨g,0,rfl,hS,λi x hi=>?_⟩⟩;obtain⟨ds,hr,hd⟩:=hf.get i x hi;refine⟨ds,hr,λj u hj=>?_⟩;have h1:=hd j u hj;rw[dz];have:(⟨g,0,none⟩:Addr).add (i*ak.sz α+j)=⟨g,i*ak.sz α+j,none⟩:=by unfold Addr.add;split<;>simp_all
 rw[this,hb.cell];simpa using h1
end
def setAll (w:World) (g:Nat):Nat->List Value->World
 | _,[]=>w
 | i,v::l=>setAll (w.setCell ⟨g,i,none⟩ v) g (i+1) l
theorem bS.setFrom {g:Nat} {t:TypeId}:∀(l:List Value) (i:Nat) (w:World) (cs:Array Value),bS w g t cs->cs.size=i+l.length->bS (setAll w g i l) g t (cs.toList.take i++l).toArray:=by
 intro l;induction l with
 | nil=>
  intro i w cs h hs;have:(cs.toList.take i++[]).toArray=cs:=by rw[List.append_nil,List.take_of_length_le (by simp at hs;simp;omega)]
  rw[this];exact h
 | cons v l ih=>
  intro i w cs h hs;simp only[List.length_cons] at hs;have:=ih (i+1) (w.setCell ⟨g,i,none⟩ v) (cs.setIfInBounds i v) (h.set_ i v) (by simp;omega);have e:(cs.setIfInBounds i v).toList.take (i+1)++l=cs.toList.take i++v::l:=by
   rw[Array.toList_setIfInBounds,List.take_set,List.take_add_one];have hi:i<cs.toList.length:=by simp;omega
   rw[List.getElem?_eq_getElem hi,List.set_append_right _ _ (by simp;omega)];simp[Nat.min_eq_left (Nat.le_of_lt (by simpa using hi))]
  rw[e] at this;exact this
theorem bS.setAll {g:Nat} {t:TypeId} {w:World} {cs:Array Value} (l:List Value) (h:bS w g t cs) (hs:cs.size=l.length):bS (setAll w g 0 l) g t l.toArray:=by
 have:=bS.setFrom l 0 w cs h (by omega);simpa using this
section
variable {α:Type} [ak α] {w w':World} {S S':Nat->Prop} {base:Nat} {e:TypeId} {v:Value} {xs:List α}
theorem Own.widen (h:Own w S base e v xs) (hS:∀b,S b->S' b) (hA:∀b,S' b->b<w.heap.size/\some b≠v.ownBlock):Own w S' base e v xs:=by
 obtain⟨cs,h1,h2,_⟩:=h;exact⟨cs,h1,h2.keep hS (af.refl _ _),hA⟩
theorem Own.apart (h:Own w S base e v xs):∀b,S b->b<w.heap.size/\some b≠v.ownBlock:=by
 obtain⟨_,_,_,h3⟩:=h;exact h3
end
section
variable {α:Type} [ak α] {w w':World} {S S':Nat->Prop} {base:Nat} {e:TypeId} {v:Value} {xs:List α}
theorem Flat.set1 (hsz:ak.sz α=1) {cs:List Value} (h:Flat w S cs xs) {k:Nat} {u:Value} {x:α} (hr:ak.rep w S [u] x):Flat w S (cs.set k u) (xs.set k x):=by
 induction h with
 | nil=>exact .nil
 | @snoc cs ds xs y hf hy ih=>
  have hl:=hf.length;have hd:=ak.len hy;rw[hsz] at hl hd;rcases Nat.lt_trichotomy k xs.length with hk|hk|hk
  ·rw[List.set_append_left _ _ (by omega),List.set_append_left _ _ hk];exact .snoc ih hy
  ·obtain⟨d,rfl⟩:=List.length_eq_one_iff.1 hd;rw[List.set_append_right _ _ (by omega),List.set_append_right _ _ (by omega)];have e1:k-cs.length=0:=by omega
   have e2:k-xs.length=0:=by omega
   rw[e1,e2];exact .snoc hf hr
  ·rw[List.set_eq_of_length_le (by rw[List.length_append,hd,hl];omega),List.set_eq_of_length_le (by simp;omega)];exact .snoc hf hy
theorem Own.get1 {A:Option Addr} {n c:Nat} (hsz:ak.sz α=1) (h:Own w S base e (.slice A n c) xs) {k:Nat} {x:α} (hx:xs[k]?=some x):∃g u,A=some ⟨g,0,none⟩/\base<=g/\g<w.heap.size/\ak.rep w S [u] x/\w.cell? ⟨g,k,none⟩=some u/\w.frozen? ⟨g,k,none⟩=false:=by
 have hlt:=h.lt;obtain⟨A',n',c',hv,hn⟩:=h.slice;injection hv with _ oT _
 subst oT;have hk:=ji hx;obtain⟨cs,h1,h2,h3⟩:=h;have iA:=h1;obtain⟨hl,h4⟩:=iA;rcases h4 with⟨hv,FN⟩|⟨g,cap,cur,hv,fY,hh,D6,N8,rY⟩
 ·injection hv with _ h5;omega
 ·injection hv with h5 h6 h7
  subst h5;obtain⟨ds,hr,hd⟩:=h2.get k x hx;have SN:=ak.len hr;rw[hsz] at SN;obtain⟨u,rfl⟩:=List.length_eq_one_iff.1 SN;have:=hd 0 u rfl;rw[hsz] at this;have cI:=h1.cells (g:=g) rfl _ _ this;have e2:(⟨g,0,none⟩:Addr).add (k*1+0)=⟨g,k,none⟩:=by
   unfold Addr.add;split
   ·rename_i h;have:k=0:=by omega
    subst this;rfl
   ·simp
  rw[e2] at cI;refine⟨g,u,rfl,(hlt g rfl).1,(hlt g rfl).2,hr,cI,?_⟩;simp[World.frozen?,hh]
theorem Own.stored {g n c:Nat} (hsz:ak.sz α=1) (h:Own w S base e (.slice (some ⟨g,0,none⟩) n c) xs) {k:Nat} {u:Value} {x:α} (hr:ak.rep w S [u] x) : Own (w.setCell ⟨g,k,none⟩ u) S base e (.slice (some ⟨g,0,none⟩) n c) (xs.set k x)/\w.grownBy (w.setCell ⟨g,k,none⟩ u) (some g):=by
 obtain⟨A',n',c',hv,hn⟩:=h.slice;injection hv with _ oT _
 subst oT;obtain⟨cs,h1,h2,h3⟩:=h;rw[show ak.sz α=1 from hsz,<-hn] at h1;obtain⟨q1,q2⟩:=h1.stored k u;have hk:af S w (w.setCell ⟨g,k,none⟩ u):=(af.grown q2).sub λb hb=>⟨(h3 b hb).1,(h3 b hb).2⟩;refine⟨⟨cs.set k u,by rw[List.length_set,show ak.sz α=1 from hsz,<-hn];exact q1,(h2.set1 hsz hr).keep (λ_ h=>h) hk,λb hb=>⟨Nat.lt_of_lt_of_le (h3 b hb).1 q2.size,(h3 b hb).2⟩⟩,q2⟩
theorem Own.made {g n:Nat} {z:Value} {x:α} (h:w.ownsRow base e (ak.sz α) (.slice (some ⟨g,0,none⟩) n n) n (List.replicate n z)) (hr:ak.rep w S [z] x) (hS:∀b,S b->b<w.heap.size/\b≠g) : Own w S base e (.slice (some ⟨g,0,none⟩) n n) (List.replicate n x):=by
 refine⟨_,by rw[List.length_replicate];exact h,?_,λb hb=>⟨(hS b hb).1,λe=>(hS b hb).2 (by injection e)⟩⟩;clear h;induction n with
 | zero=>exact .nil
 | succ n ih=>
  rw[List.replicate_succ',List.replicate_succ'];exact .snoc ih hr
end
theorem oR (z:Value) (n:Nat) (hz:z.cells=#[z]):(madeCells z.cells (n*1)).toList=List.replicate n z:=by
 rw[hz,Nat.mul_one];exact toList_madeCells_one z n
theorem bW {α:Type} [ak α] {P:Program} (w:World) {ops:Array Oper} {rest:List Oper} {o:Oper} {a:Act} {Q:Exit->Act->World->Prop} (hg:o.guard=none) (l c:Operand) (t:TypeId) (hop:o.op=Op.makeSlice t l c) (hsz:ak.sz α=1) (base:Nat) {e:TypeId} (i:TypeInfo) (z:Value) (h1:P.underlying t=some (.slice e)) (h2:P.info? e=some i) (h3:i.zero=some z) (h4:i.size=1) (hz:z.cells=#[z]) (kl kc:IntKind) (L C:Int) (n:Nat) (hl:a.eval l=.int kl L) (hc:a.eval c=.int kc C) (hL:L=(n:Int)) (hC:C=(n:Int)) (b2:i.bytes*n<=281474976710656) (b3:n<=maxLen) (b4:base<=w.heap.size) (x:α) (S:Nat->Prop) (hS:∀b,S b->b<w.heap.size) (hr:∀w',af S w w'->ak.rep w' S [z] x) (hK:∀w',Own w' S base e (.slice (some ⟨w.heap.size,0,none⟩) n n) (List.replicate n x)->w.grownBy w' none->wpList P ops Q rest (a.put o.dst (.slice (some ⟨w.heap.size,0,none⟩) n n)) w') : wpList P ops Q (o::rest) a w:=by
 refine wpList_make_full w hg l c t hop base e i z (ak.sz α) h1 h2 h3 (by rw[h4,hsz]) kl kc L C n hl hc hL hC b2 b3 b4 λw' q1 q2=>hK w' ?_ q2;have e1:(madeCells z.cells (n*ak.sz α)).toList=List.replicate n z:=by rw[hsz];exact oR z n hz
 rw[e1] at q1;refine Own.made q1 (hr w' ((af.grown q2).sub λb hb=>⟨hS b hb,by simp⟩)) λb hb=>⟨Nat.lt_of_lt_of_le (hS b hb) q2.size,λe=>by have:=hS b hb;omega⟩
theorem Ga (x y:BitVec 32):bits .or .u32 (x.toNat:Int) (y.toNat:Int)=((x||| y).toNat:Int):=by
 rw[u32_or_nat _ _ x.isLt y.isLt,BitVec.toNat_or]
theorem gx {a b:Nat} (h:(bC a).length<(bC b).length):a<b:=by
 rcases Nat.lt_or_ge a b with h1|h1
 ·exact h1
 ·have:=da h1;omega
theorem BU {l:List (BitVec 32)} {k:Nat} {x:BitVec 32} (hx:l[k]?=some x):val l=val (l.take k)+4294967296^k*(x.toNat+4294967296*val (l.drop (k+1))):=by
 have hk:k<l.length:=(List.getElem?_eq_some_iff.1 hx).1;rw[cf l k (by omega)];congr 2
 obtain⟨_,e⟩:=List.getElem?_eq_some_iff.1 hx;rw[List.drop_eq_getElem_cons hk,e,val]
theorem iH {l1 l2:List (BitVec 32)} {k:Nat} {x y:BitVec 32} (hd:l1.drop (k+1)=l2.drop (k+1)) (hx:l1[k]?=some x) (hy:l2[k]?=some y) (h:x.toNat<y.toNat):val l1<val l2:=by
 rw[BU hx,BU hy,hd];have h1:=cE (l1.take k);have h2:4294967296^(l1.take k).length<=4294967296^k:=Nat.pow_le_pow_right (by omega) (by simp;omega);have h3:4294967296^k*(x.toNat+4294967296*val (l2.drop (k+1)))+4294967296^k<=4294967296^k*(y.toNat+4294967296*val (l2.drop (k+1))):=by
  rw[<-Nat.mul_succ];exact Nat.mul_le_mul_left _ (by omega)
 omega
theorem so {l1 l2:List (BitVec 32)} {k:Nat} {x:BitVec 32} (hd:l1.drop (k+1)=l2.drop (k+1)) (hx:l1[k]?=some x) (hy:l2[k]?=some x):l1.drop k=l2.drop k:=by
 obtain⟨h1,e1⟩:=List.getElem?_eq_some_iff.1 hx;obtain⟨h2,e2⟩:=List.getElem?_eq_some_iff.1 hy;rw[List.drop_eq_getElem_cons h1,List.drop_eq_getElem_cons h2,e1,e2,hd]
def kf (a b:Nat):Int:=if a<b then -1 else if a=b then 0 else 1
theorem mA {a b:Nat} (h:a<b):kf a b= -1:=if_pos h
theorem mB {a b:Nat} (h:b<a):kf a b=1:=by rw[kf,if_neg (by omega),if_neg (by omega)]
theorem sx (a:Nat):kf a a=0:=by rw[kf,if_neg (by omega),if_pos rfl]
theorem aF (l:List (BitVec 32)) (k:Nat):val (l.take (k+1))=val (l.take k)+4294967296^k*(l.getD k 0#32).toNat:=by
 rcases Nat.lt_or_ge k l.length with h|h
 ·have hx:l[k]?=some (l.getD k 0#32):=by rw[List.getD_eq_getElem?_getD,List.getElem?_eq_getElem h];rfl
  exact jC hx
 ·rw[List.take_of_length_le (by omega),List.take_of_length_le h,List.getD_eq_getElem?_getD,List.getElem?_eq_none h];simp
theorem aL (l:List (BitVec 32)) (k:Nat) (h:l.length<=k):val (l.take k)=val l:=by rw[List.take_of_length_le h]
theorem oL {l:List (BitVec 32)} {k:Nat} (x:BitVec 32) (h:k<l.length):(l.set k x).take (k+1)=l.take k++[x]:=by
 rw[List.take_add_one,List.take_set,List.set_eq_of_length_le (by simp;omega)];simp[h]
theorem cw {l:List (BitVec 32)} {k:Nat} (x:BitVec 32) (h:k<l.length):val ((l.set k x).take (k+1))=val (l.take k)+4294967296^k*x.toNat:=by
 rw[oL x h,mR,List.length_take,Nat.min_eq_left (by omega)]
theorem uK {p c x y s a b v:Nat} (hs:x+y+c=s) (h:v+p*c=a+b):(v+p*(s%4294967296))+p*4294967296*(s/4294967296)=(a+p*x)+(b+p*y):=by
 have e:p*(s%4294967296)+p*4294967296*(s/4294967296)=p*s:=by
  rw[Nat.mul_assoc,<-Nat.mul_add,Nat.mod_add_div]
 have e2:p*s=p*x+p*y+p*c:=by rw[<-hs,Nat.mul_add,Nat.mul_add]
 omega
theorem Cl {p c x y s a b v:Nat} (hc:c<=1) (hx:x<4294967296) (hy:y<4294967296) (hs:4294967296+x-y-c=s) (h:v+b=a+p*c) : (v+p*(s%4294967296))+(b+p*y)=(a+p*x)+p*4294967296*(1-s/4294967296):=by
 have h1:s%4294967296+y+c=x+4294967296*(1-s/4294967296):=by omega
 have h2:p*(s%4294967296)+p*y+p*c=p*x+p*4294967296*(1-s/4294967296):=by
  rw[Nat.mul_assoc,<-Nat.mul_add,<-Nat.mul_add,<-Nat.mul_add,h1]
 omega
theorem Dh {p pi pj c x y z s a q v B:Nat} (hp:p=pi*pj) (hs:x*y+z+c=s) (h:v+p*c=a+pi*(x*q)) : (v+p*(s%B))+p*B*(s/B)=(a+p*z)+pi*(x*(q+pj*y)):=by
 have e:p*(s%B)+p*B*(s/B)=p*s:=by
  rw[Nat.mul_assoc,<-Nat.mul_add,Nat.mod_add_div]
 have e2:p*s=p*(x*y)+p*z+p*c:=by rw[<-hs,Nat.mul_add,Nat.mul_add]
 have e3:pi*(x*(q+pj*y))=pi*(x*q)+p*(x*y):=by rw[hp];grind
 omega
theorem Ah {x y z c:Nat} (hx:x<4294967296) (hy:y<4294967296) (hz:z<4294967296) (hc:c<4294967296):x*y<=18446744065119617025/\x*y+z+c<18446744073709551616:=by
 have:x*y<=4294967295*4294967295:=Nat.mul_le_mul (by omega) (by omega);omega
end Go.Proofs.YtichkplomldgiaaGreatDoor
