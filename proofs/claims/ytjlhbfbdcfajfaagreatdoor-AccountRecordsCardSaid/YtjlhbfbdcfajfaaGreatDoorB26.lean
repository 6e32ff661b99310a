/- Lnk1 Lnk2 Lnk3 Lnk4 -/
import Derived.Test.YtjlhbfbdcfajfaaGreatDoorB25
namespace Go.Proofs.YtjlhbfbdcfajfaaGreatDoor
open Go.RowKit Go.Maps Go.WideMaps
set_option maxRecDepth 20000 in
theorem Qk {w:World} {S:Nat→Prop} {v:Value} {x:ay} (h:SV w S v x) (p:Nat) (nm:ByteArray) (hp:w.cell? ⟨p,0,none⟩=some (.string nm)) : Calls Tryz.prog 100 #[v,.pointer (some ⟨p,0,none⟩)] w (gy w (.bool (decide (x.name=nm)))):=by
 obtain⟨cs,rfl,A,n,c,rfl,_⟩:=h;have bd:Below w.heap.size w (w.alloc (.cells #[.string x.name,.slice A n c,.int .i64 x.method,.int .i64 x.seats,.int .i64 x.ranks,.int .i64 x.digits,.int .i64 x.ties,.int .i64 x.over,.int .i64 x.skip] 95)):=(Below.refl _ _).alloc (Nat.le_refl _) _;have dy:aK (w.alloc (.cells #[.string x.name,.slice A n c,.int .i64 x.method,.int .i64 x.seats,.int .i64 x.ranks,.int .i64 x.digits,.int .i64 x.ties,.int .i64 x.over,.int .i64 x.skip] 95)) w.heap.size 95 #[.string x.name,.slice A n c,.int .i64 x.method,.int .i64 x.seats,.int .i64 x.ranks,.int .i64 x.digits,.int .i64 x.ties,.int .i64 x.over,.int .i64 x.skip]:=aK.new _ _ _;obtain⟨w1,bj⟩:∃q,w.alloc (.cells #[.string x.name,.slice A n c,.int .i64 x.method,.int .i64 x.seats,.int .i64 x.ranks,.int .i64 x.digits,.int .i64 x.ties,.int .i64 x.over,.int .i64 x.skip] 95)=q:=⟨_,rfl⟩;rw[bj] at bd dy;have c0:w1.cell? ⟨w.heap.size,0,none⟩=some (.string x.name):=dy.cell 0;have cp:w1.cell? ⟨p,0,none⟩=some (.string nm):=(bd.cell (World.block_lt_of_cell? w _ hp)).trans hp;have dO:=zH bj;have bS:=zH bd;clear bj bd dy hp;go_enter Tryz.func100,Tryz.ntmps100;by_cases hn:x.name=nm
 ·have Fl:(x.name.toList==nm.toList)=true:=by rw[hn];simp
  rw[decide_eq_true hn];clear hn;go_upto_region 1 with(fail);rw[dO.out];go_wp2_with fail;go_ret
  exact⟨rfl,bS.out⟩
 ·have Fl:(x.name.toList==nm.toList)=false:=(Lib.bytes_beq_false_iff _ _).2 hn;rw[decide_eq_false hn];clear hn;go_upto_region 1 with(fail);rw[dO.out];go_wp2_with fail;go_ret
  exact⟨rfl,bS.out⟩
set_option maxRecDepth 20000 in
set_option maxHeartbeats 2000000 in
theorem Yj {w:World} {S:Nat→Prop} {A:Option Addr} {n c:Nat} {xs:List ay} (h:RS w S A n c xs) (hS:∀b,S b→b<w.heap.size) (p:Nat) (nm:ByteArray) (hp:w.cell? ⟨p,0,none⟩=some (.string nm)) : Calls Tryz.prog 99 #[.slice A n c,.func (.func 100) #[] #[.pointer (some ⟨p,0,none⟩)]] w (gy w (.int .i64 (fV nm xs 0))):=by
 obtain⟨z,hz⟩:∃z,fV nm xs 0=z:=⟨_,rfl⟩;rw[hz];have eh:=hz.symm;have Cn:=h.max;have H1:=zH h;have HZ:=zH eh;have vw:=zH h.len;have HP:=zH hp;clear h hz eh hp;go_enter Tryz.func99,Tryz.ntmps99;go_wp2_with fail;go_loopw [8] (fun iv wr=>∃k:Nat,iv=.int .i64 k∧k≤n∧z=fV nm (xs.drop k) k∧Below w.heap.size w wr) (fun iv _=>n-(intOf iv).toNat)
 case atStart=>exact⟨0,rfl,Nat.zero_le _,by simpa using HZ.out,Below.refl _ _⟩
 case round=>
  clear HZ;obtain⟨k,rfl,hk,pF,hb⟩:=hrel;have ql:=zH pF;have HB:=zH hb;have HR:=zH (H1.out.below hb hS);clear pF hb;by_cases bn:k<n
  ·have dK:(k:Int)<(n:Int):=by omega
   obtain⟨b,o,x,cs,rfl,yR,hx,hr,jG⟩:=HR.out.load_at (fun b h=>Nat.lt_of_lt_of_le (hS b h) HB.out.size) bn;have gO:(k:Int)≤(c:Int):=by have:=HR.out.cap;omega
   have eQ:z=if x.name=nm then(k:Int) else fV nm (xs.drop (k+1)) (k+1):=by rw[ql.out,bR hx];rfl
   have fy:=zH eQ;obtain⟨A3,n3,c3,rfl,x1⟩:=hr;have dT:=jG wr (Below.refl _ _);have r0:wr.cell? ⟨b,o+k*9,none⟩=some (.string x.name):=dT.1 _ rfl;have r1:wr.cell? ⟨b,o+k*9+1,none⟩=some (.slice A3 n3 c3):=dT.2 1 _ rfl;have r2:wr.cell? ⟨b,o+k*9+2,none⟩=some (.int .i64 x.method):=dT.2 2 _ rfl;have r3:wr.cell? ⟨b,o+k*9+3,none⟩=some (.int .i64 x.seats):=dT.2 3 _ rfl;have r4:wr.cell? ⟨b,o+k*9+4,none⟩=some (.int .i64 x.ranks):=dT.2 4 _ rfl;have r5:wr.cell? ⟨b,o+k*9+5,none⟩=some (.int .i64 x.digits):=dT.2 5 _ rfl;have r6:wr.cell? ⟨b,o+k*9+6,none⟩=some (.int .i64 x.ties):=dT.2 6 _ rfl;have r7:wr.cell? ⟨b,o+k*9+7,none⟩=some (.int .i64 x.over):=dT.2 7 _ rfl;have r8:wr.cell? ⟨b,o+k*9+8,none⟩=some (.int .i64 x.skip):=dT.2 8 _ rfl;have yJ:wr.cell? ⟨p,0,none⟩=some (.string nm):=(HB.out.cell (World.block_lt_of_cell? w _ HP.out)).trans HP.out;have HC:=zH (Qk (w:=wr) (S:=S) (x:=x) ⟨_,rfl,A3,n3,c3,rfl,x1⟩ p nm yJ);clear dT jG hx eQ x1 yJ;go_wp2_with fail;refine HC.out.mono ?_;rintro e w3 ⟨rfl,ey⟩;have iT:=zH (ae HB.out ey);clear ey;by_cases hn:x.name=nm
   ·rw[decide_eq_true hn];have av:z=(k:Int):=by rw[fy.out,if_pos hn]
    have bm:=zH av;clear av hn;go_wp2_with fail;go_ret
    exact⟨by rw[bm.out];rfl,iT.out⟩
   ·rw[decide_eq_false hn];have av:z=fV nm (xs.drop (k+1)) (k+1):=by rw[fy.out,if_neg hn]
    have bm:=zH av;clear av hn;go_wp2_with fail;go_roundw
    case rel=>exact⟨k+1,by go_num,by omega,bm.out,iT.out⟩
    case measure=>simp[intOf];omega
  ·have fI:k=n:=by omega
   have av:z= -1:=by
    rw[ql.out,List.drop_eq_nil_of_le (by rw[vw.out];omega)];rfl
   have bm:=zH av;clear av fI;go_wp2_with fail;go_ret
   exact⟨by rw[bm.out];rfl,HB.out⟩
structure sX (w w':World) (X:Nat→Prop):Prop where
 size:w.heap.size≤w'.heap.size
 block:∀b,b<w.heap.size→¬X b→w'.heap[b]?=w.heap[b]?
section
variable {w w':World} {X:Nat→Prop}
theorem sX.of_below (h:Below w.heap.size w w'):sX w w' X:=⟨h.size,fun b hb _=>h.block b hb⟩
theorem sX.of_grown {row:Option Nat} (h:w.grownBy w' row) (hX:∀b,row=some b→X b):sX w w' X:=⟨h.size,fun b hb hx=>h.block b hb fun e=>hx (hX b e.symm)⟩
theorem sX.of_set (w:World) {p:Addr} (h:X p.block) (u:Value):sX w (w.setCell p u) X:=⟨by simp,fun b hb hx=>(grownBy_setCell w p u).block b hb fun e=>by injection e with e;subst e;exact hx h⟩
theorem sX.trans {w1:World} (h:sX w w1 X) (k:sX w1 w' X):sX w w' X:=⟨Nat.le_trans h.size k.size,fun b hb hx=>(k.block b (Nat.lt_of_lt_of_le hb h.size) hx).trans (h.block b hb hx)⟩
theorem aK.chg {g:Nat} {t:TypeId} {cs:Array Value} (h:aK w g t cs) (k:sX w w' X) (hx:¬X g):aK w' g t cs:=(k.block g h.lt hx).trans h
theorem Own.chg {B:Nat} {α:Type} [bG α] {e:TypeId} {v:Value} {xs:List α} (h:Own w aA B e v xs) (k:sX w w' X) (hg:∀g,v.ownBlock=some g→¬X g):Own w' aA B e v xs:=by
 have bn:=h.lt;obtain⟨cs,⟨h0,h1⟩,h2,h3⟩:=h;refine⟨cs,⟨h0,?_⟩,h2.keep (fun _ h=>h) (fun p hp=>hp.elim),fun b hb=>hb.elim⟩;rcases h1 with h1|⟨g,cap,SE,hv,nT,hh,hr⟩
 ·exact .inl h1
 ·exact .inr ⟨g,cap,SE,hv,nT,(k.block g (bn g (by rw[hv];rfl)).2 (hg g (by rw[hv];rfl))).trans hh,hr⟩
theorem sX.keeps (h:sX w w' X) {S:Nat→Prop} (hS:∀b,S b→b<w.heap.size∧¬X b):aD S w w':=fun p hp=>World.cell?_of_block (h.block p.block (hS _ hp).1 (hS _ hp).2)
theorem Kept.chg {w0:World} {τ:Nat→Tag} {T:Tag→Prop} (h:Kept w0 w τ T) (k:sX w w' X) (hX:∀b,b<w0.heap.size→X b→T (τ b)):Kept w0 w' τ T:=
 ⟨Nat.le_trans h.size k.size,fun b hb ht=>(k.block b (Nat.lt_of_lt_of_le hb h.size) (fun hx=>ht (hX b hb hx))).trans (h.block b hb ht)⟩
end
theorem Flat.raw {k:Nat} {w:World} {S:Nat→Prop} {cs:List Value} {xs:List (bQ k)} (h:Flat w S cs xs):cs=(xs.map (·.cells)).flatten:=by
 induction h with
 | nil=>rfl
 | @snoc cs ds xs x _ hr ih=>
  have:ds=x.cells:=hr;rw[List.map_append,List.flatten_append,←ih,this];simp
theorem Et {k:Nat} {w:World} {S:Nat→Prop} (xs:List (bQ k)):Flat w S (xs.map (·.cells)).flatten xs:=by
 have:∀l:List (bQ k),Flat w S (l.reverse.map (·.cells)).flatten l.reverse:=by
  intro l;induction l with
  | nil=>exact .nil
  | cons x l ih=>
   rw[List.reverse_cons,List.map_append,List.flatten_append];have:=Flat.snoc ih (show bG.rep w S x.cells x from rfl);simpa using this
 simpa using this xs.reverse
theorem BF {k:Nat}:∀(xs:List (bQ k)) (i j:Nat) (u:Value) (x:bQ k),xs[i]?=some x→j<k→(hl:(x.cells.set j u).length=k)→ ((xs.map (·.cells)).flatten).set (i*k+j) u=((xs.set i ⟨x.cells.set j u,hl⟩).map (·.cells)).flatten
 | [],i,j,u,x,h,_,_=>by simp at h
 | y::xs,0,j,u,x,h,hj,hl=>by
  simp only[List.getElem?_cons_zero,Option.some.injEq] at h;subst h;simp only[List.map_cons,List.flatten_cons,Nat.zero_mul,Nat.zero_add,List.set_cons_zero];rw[List.set_append_left _ _ (by rw[y.len];exact hj)]
 | y::xs,i+1,j,u,x,h,hj,hl=>by
  simp only[List.getElem?_cons_succ] at h;simp only[List.map_cons,List.flatten_cons,List.set_cons_succ];rw[List.set_append_right _ _ (by rw[y.len,Nat.succ_mul];omega),←BF xs i j u x h hj hl,y.len];congr 2
  rw[Nat.succ_mul];omega
theorem Own.rawSome {k:Nat} {w:World} {B:Nat} {e:TypeId} {A:Option Addr} {n c:Nat} {xs:List (bQ k)} (h:Own w aA B e (.slice A n c) xs) (hn:0<n):∃g,A=some ⟨g,0,none⟩:=by
 obtain⟨cs,⟨h0,h1⟩,_⟩:=h;rcases h1 with⟨h1,_⟩|⟨g,cap,SE,hv,_⟩
 ·injection h1 with _ h2;omega
 ·injection hv with h2;exact⟨g,h2⟩
theorem Own.rawLen {k:Nat} {w:World} {B:Nat} {e:TypeId} {A:Option Addr} {n c:Nat} {xs:List (bQ k)} (h:Own w aA B e (.slice A n c) xs):xs.length=n∧n≤c∧c≤maxLen:=by
 have hr:=h.rs (S':=fun _=>True) (fun _ h=>h.elim) (fun _ _ _=>trivial);exact⟨hr.len,hr.2.1,hr.2.2.1⟩
theorem Own.rawCell {k:Nat} {w:World} {B:Nat} {e:TypeId} {g n c:Nat} {xs:List (bQ k)} (h:Own w aA B e (.slice (some ⟨g,0,none⟩) n c) xs) {i:Nat} {x:bQ k} (hx:xs[i]?=some x) {j:Nat} {u:Value} (hu:x.cells[j]?=some u) : w.cell? ⟨g,i*k+j,none⟩=some u∧w.frozen? ⟨g,i*k+j,none⟩=false:=by
 have hl:=h.rawLen;have hi:i<n:=by rw[←hl.1];exact eP hx
 have hr:=h.rs (S':=fun _=>True) (fun _ h=>h.elim) (fun _ _ _=>trivial);obtain⟨b,o,y,cs,he,_,hy,UM,hc⟩:=hr.at_ hi;injection he with he
 injection he with h1 h2
 subst h1 h2;rw[hx] at hy;injection hy with hy
 subst hy;have rY:cs=x.cells:=UM;subst rY;have h3:=hc j u hu;rw[Nat.zero_add] at h3;refine⟨h3,?_⟩;obtain⟨cs,⟨h0,h1⟩,_⟩:=h;rcases h1 with⟨h1,_⟩|⟨g',cap,SE,hv,_,hh,_⟩
 ·injection h1 with h1;cases h1
 ·injection hv with hv
  injection hv with hv
  injection hv with hv
  subst hv;simp[World.frozen?,hh]
theorem Own.rawSet {k:Nat} {w:World} {B:Nat} {e:TypeId} {g n c:Nat} {xs:List (bQ k)} (h:Own w aA B e (.slice (some ⟨g,0,none⟩) n c) xs) {i j:Nat} {x:bQ k} (hx:xs[i]?=some x) (hj:j<k) (u:Value) (hl:(x.cells.set j u).length=k) : Own (w.setCell ⟨g,i*k+j,none⟩ u) aA B e (.slice (some ⟨g,0,none⟩) n c) (xs.set i ⟨x.cells.set j u,hl⟩):=by
 obtain⟨cs,h1,h2,h3⟩:=h;have rY:=h2.raw;obtain⟨hn,_⟩:=(show Own w aA B e (.slice (some ⟨g,0,none⟩) n c) xs from⟨cs,h1,h2,h3⟩).rawLen;rw[show bG.sz (bQ k)=k from rfl,hn] at h1;have q1:=(h1.stored (i*k+j) u).1;refine⟨cs.set (i*k+j) u,by rw[List.length_set,show bG.sz (bQ k)=k from rfl,hn];exact q1,?_,fun b hb=>hb.elim⟩;rw[rY,BF xs i j u x hx hj hl];exact Et _
structure OC (w wr:World) (B gU nU:Nat) (τ:Nat→Tag) (vS:Value) (used:List Bool) (rows:List (bQ 3)):Prop where
 bel:Below B w wr
 kept:Kept w wr τ (One .ss)
 blkF:aK wr w.heap.size 76 #[.int .i64 0,.int .i64 0]
 own:Own wr aA B 97 vS rows
 usedO:Own wr aA (w.heap.size+1) 4 (.slice (some ⟨gU,0,none⟩) nU nU) used
def WT (w:World) (gU b1 b:Nat):Prop:=w.heap.size<b∧b<b1∧b≠gU
def iH (nm:ByteArray) (v1 v2:Value):bQ 3:=⟨[.string nm,v1,v2],rfl⟩
structure Ru (w wr:World) (B gU nU:Nat) (τ:Nat→Tag) (s:cZ) (vS:Value) (i:Nat) (used:List Bool) (rows:List (bQ 3)) (done:List aX):Prop where
 W:OC w wr B gU nU τ vS used rows
 dn:done.length=i
 ln:rows.length=s.e.styl.length
 lu:used.length=nU
 fin:∀(j:Nat) x y,j<i→rows[j]?=some x→done[j]?=some y→bG.rep wr (WT w gU wr.heap.size) x.cells y
 rest:∀(j:Nat) x y,i≤j→rows[j]?=some x→s.e.styl[j]?=some y→km x y
structure wC (w wr:World) (B gU nU:Nat) (τ:Nat→Tag) (vS:Value) (i:Nat) (fQ:List (bQ 3)) (done:List aX) (b1 g5:Nat) (Ey:Array Value) (nm:ByteArray) (used:List Bool) (v1 v2:Value) (a1 a2:List Int):Prop where
 W:OC w wr B gU nU τ vS used (fQ.set i (iH nm v1 v2))
 lu:used.length=nU
 o1:Own wr aA b1 3 v1 a1
 o2:Own wr aA b1 3 v2 a2
 d:∀g,v1.ownBlock=some g→v2.ownBlock≠some g
 fin:∀(j:Nat) x y,j<i→fQ[j]?=some x→done[j]?=some y→bG.rep wr (WT w gU b1) x.cells y
 blk5:aK wr g5 168 Ey
 h5:w.heap.size<g5
 h51:g5<b1
 hU:gU<b1
 g5U:g5≠gU
 hb:b1≤wr.heap.size
section
variable {w wr w':World} {B gU nU:Nat} {τ:Nat→Tag} {vS:Value} {used:List Bool} {rows fQ:List (bQ 3)} {done:List aX} {i b1 g5:Nat} {Ey:Array Value} {nm:ByteArray} {v1 v2:Value} {a1 a2:List Int}
theorem OC.gU_lt (h:OC w wr B gU nU τ vS used rows):w.heap.size<gU∧gU<wr.heap.size:=⟨(h.usedO.lt gU rfl).1,(h.usedO.lt gU rfl).2⟩
theorem OC.below (h:OC w wr B gU nU τ vS used rows) (hb:Below wr.heap.size wr w') (hB:B≤w.heap.size):OC w w' B gU nU τ vS used rows:=
 ⟨h.bel.trans (hb.mono (Nat.le_trans hB h.bel.size)),h.kept.chg (X:=fun _=>False) (sX.of_below hb) (fun _ _ h=>h.elim),h.blkF.keep hb,h.own.below hb,h.usedO.below hb⟩
theorem wC.below (h:wC w wr B gU nU τ vS i fQ done b1 g5 Ey nm used v1 v2 a1 a2) (hb:Below wr.heap.size wr w') (hB:B≤w.heap.size):wC w w' B gU nU τ vS i fQ done b1 g5 Ey nm used v1 v2 a1 a2:=
 { h with W:=h.W.below hb hB,o1:=h.o1.below hb,o2:=h.o2.below hb,fin:=fun j x y hj hx hy=>bG.keep (h.fin j x y hj hx hy) (fun _ h=>h) ((aD.of_below hb).sub fun _ bq=>Nat.lt_of_lt_of_le bq.2.1 h.hb),blk5:=h.blk5.keep hb,hb:=Nat.le_trans h.hb hb.size }
theorem wC.mark (h:wC w wr B gU nU τ vS i fQ done b1 g5 Ey nm used v1 v2 a1 a2) (hB:B≤w.heap.size) (hvS:∀g,vS.ownBlock=some g→g<w.heap.size) (k:Nat):wC w (wr.setCell ⟨gU,k,none⟩ (.bool true)) B gU nU τ vS i fQ done b1 g5 Ey nm (used.set k true) v1 v2 a1 a2:=by
 have hu:=h.W.gU_lt;have kc:sX wr (wr.setCell ⟨gU,k,none⟩ (.bool true)) (·=gU):=sX.of_set (X:=(·=gU)) wr (p:=⟨gU,k,none⟩) rfl _;have hs:(wr.setCell ⟨gU,k,none⟩ (.bool true)).heap.size=wr.heap.size:=by simp
 exact { h with
  lu:=by rw[List.length_set];exact h.lu
  W:=⟨h.W.bel.setCell (p:=⟨gU,k,none⟩) (Nat.le_trans hB (Nat.le_of_lt hu.1)) _,h.W.kept.chg kc (fun b hb hx=>by subst hx;omega),h.W.blkF.chg kc (by omega),h.W.own.chg kc (fun g hg e=>by have:=hvS g hg;omega),
   (h.W.usedO.stored (k:=k) (u:=.bool true) (x:=true) rfl rfl).1⟩
  o1:=h.o1.chg kc (fun g hg e=>by have:=(h.o1.lt g hg).1;have:=h.hU;omega)
  o2:=h.o2.chg kc (fun g hg e=>by have:=(h.o2.lt g hg).1;have:=h.hU;omega)
  fin:=fun j x y hj hx hy=>bG.keep (h.fin j x y hj hx hy) (fun _ h=>h) (kc.keeps fun b bq=>⟨Nat.lt_of_lt_of_le bq.2.1 h.hb,bq.2.2⟩)
  blk5:=by
   by_cases e:g5=gU
   ·exfalso;have:=h.g5U;exact this e
   ·exact h.blk5.chg kc e
  hb:=by rw[hs];exact h.hb }
theorem wC.app1 (h:wC w wr B gU nU τ vS i fQ done b1 g5 Ey nm used v1 v2 a1 a2) (hB:B≤w.heap.size) {gS nS cS:Nat} (hS:vS=.slice (some ⟨gS,0,none⟩) nS cS) (hgS:gS<w.heap.size) (htS:τ gS=.ss) (hBS:B≤gS) (hi:i<fQ.length) {x:Int} {v':Value} {w2:World} {o:Obj} (o':Own w2 aA b1 3 v' (a1++[x])) (hg:(wr.alloc o).grownBy w2 v1.ownBlock) (kD:v'.ownBlock=v1.ownBlock∨v'.ownBlock=some (wr.heap.size+1)) : wC w (w2.setCell ⟨gS,i*3+1,none⟩ v') B gU nU τ vS i fQ done b1 g5 Ey nm used v' v2 (a1++[x]) a2:=by
 have hu:=h.W.gU_lt;have hb0:w.heap.size<b1:=Nat.lt_trans h.h5 h.h51;have k2:sX wr w2 (fun b=>some b=v1.ownBlock):=(sX.of_below ((Below.refl _ _).alloc (Nat.le_refl _) o)).trans (sX.of_grown hg fun b e=>e.symm);have k3:sX wr (w2.setCell ⟨gS,i*3+1,none⟩ v') (fun b=>some b=v1.ownBlock∨b=gS):=⟨by simp;exact k2.size,fun b hb hx=>((grownBy_setCell w2 ⟨gS,i*3+1,none⟩ v').block b (Nat.lt_of_lt_of_le hb k2.size) (fun e=>hx (.inr (by injection e)))).trans (k2.block b hb fun e=>hx (.inl e))⟩;have mK:∀b,some b=v1.ownBlock→b1≤b:=fun b e=>(h.o1.lt b e.symm).1;have Fe:∀b,b<b1→b≠gS→¬(some b=v1.ownBlock∨b=gS):=fun b hb dA hx=>by
  rcases hx with hx|hx
  ·have:=mK b hx;omega
  ·exact dA hx
 have mU:∀g,v'.ownBlock=some g→b1≤g:=fun g hg=>(o'.lt g hg).1;have xO:wr.heap.size≤w2.heap.size:=k2.size;have fp:Below B w (w2.setCell ⟨gS,i*3+1,none⟩ v'):=
  ((h.W.bel.alloc (Nat.le_trans hB h.W.bel.size) o).grown hg (Nat.le_trans (Nat.le_trans hB h.W.bel.size) (by simp)) (fun k hk=>by have:=mK k hk.symm;omega)).setCell (p:=⟨gS,i*3+1,none⟩) hBS _
 have fg:Own w2 aA B 97 (.slice (some ⟨gS,0,none⟩) nS cS) (fQ.set i (iH nm v1 v2)):=by
  have:=h.W.own.chg k2 (fun g hg e=>by
   have h1:=mK g e;rw[hS] at hg;injection hg with hg
   have:gS=g:=hg;omega)
  rwa [hS] at this
 have FX:(fQ.set i (iH nm v1 v2))[i]?=some (iH nm v1 v2):=by rw[List.getElem?_set_self hi]
 have uT:Own (w2.setCell ⟨gS,i*3+1,none⟩ v') aA B 97 vS (fQ.set i (iH nm v' v2)):=by
  have:=fg.rawSet FX (j:=1) (by omega) v' rfl;rw[List.set_set] at this;rw[hS];exact this
 exact { h with
  W:=⟨fp,h.W.kept.chg k3 (fun b hb hx=>by
   rcases hx with hx|hx
   ·have:=mK b hx;omega
   ·subst hx;exact htS),h.W.blkF.chg k3 (Fe _ hb0 (by omega)),uT,h.W.usedO.chg k3 (fun g hg=>by
   injection hg with hg
   have rP:gU=g:=hg;subst rP;exact Fe _ h.hU (by omega))⟩
  o1:=o'.setCell (p:=⟨gS,i*3+1,none⟩) (fun e=>by have:=mU gS e;omega) (fun b hb=>hb.elim) _
  o2:=h.o2.chg k3 (fun g hg hx=>by
   rcases hx with hx|hx
   ·exact h.d g hx.symm hg
   ·have:=(h.o2.lt g hg).1;omega)
  d:=fun g hg1 hg2=>by
   rcases kD with e|e
   ·rw[e] at hg1;exact h.d g hg1 hg2
   ·rw[e] at hg1;injection hg1 with hg1;have:=(h.o2.lt g hg2).2;omega
  fin:=fun j x y hj hx hy=>bG.keep (h.fin j x y hj hx hy) (fun _ h=>h) (k3.keeps fun b bq=>⟨Nat.lt_of_lt_of_le bq.2.1 h.hb,Fe b bq.2.1 (by have:=bq.1;omega)⟩)
  blk5:=h.blk5.chg k3 (Fe _ h.h51 (by have:=h.h5;omega))
  hb:=by simp;exact Nat.le_trans h.hb xO }
theorem wC.app2 (h:wC w wr B gU nU τ vS i fQ done b1 g5 Ey nm used v1 v2 a1 a2) (hB:B≤w.heap.size) {gS nS cS:Nat} (hS:vS=.slice (some ⟨gS,0,none⟩) nS cS) (hgS:gS<w.heap.size) (htS:τ gS=.ss) (hBS:B≤gS) (hi:i<fQ.length) {x:Int} {v':Value} {w2:World} {o:Obj} (o':Own w2 aA b1 3 v' (a2++[x])) (hg:(wr.alloc o).grownBy w2 v2.ownBlock) (kD:v'.ownBlock=v2.ownBlock∨v'.ownBlock=some (wr.heap.size+1)) : wC w (w2.setCell ⟨gS,i*3+2,none⟩ v') B gU nU τ vS i fQ done b1 g5 Ey nm used v1 v' a1 (a2++[x]):=by
 have hu:=h.W.gU_lt;have hb0:w.heap.size<b1:=Nat.lt_trans h.h5 h.h51;have k2:sX wr w2 (fun b=>some b=v2.ownBlock):=(sX.of_below ((Below.refl _ _).alloc (Nat.le_refl _) o)).trans (sX.of_grown hg fun b e=>e.symm);have k3:sX wr (w2.setCell ⟨gS,i*3+2,none⟩ v') (fun b=>some b=v2.ownBlock∨b=gS):=⟨by simp;exact k2.size,fun b hb hx=>((grownBy_setCell w2 ⟨gS,i*3+2,none⟩ v').block b (Nat.lt_of_lt_of_le hb k2.size) (fun e=>hx (.inr (by injection e)))).trans (k2.block b hb fun e=>hx (.inl e))⟩;have mK:∀b,some b=v2.ownBlock→b1≤b:=fun b e=>(h.o2.lt b e.symm).1;have Fe:∀b,b<b1→b≠gS→¬(some b=v2.ownBlock∨b=gS):=fun b hb dA hx=>by
  rcases hx with hx|hx
  ·have:=mK b hx;omega
  ·exact dA hx
 have mU:∀g,v'.ownBlock=some g→b1≤g:=fun g hg=>(o'.lt g hg).1;have xO:wr.heap.size≤w2.heap.size:=k2.size;have fp:Below B w (w2.setCell ⟨gS,i*3+2,none⟩ v'):=
  ((h.W.bel.alloc (Nat.le_trans hB h.W.bel.size) o).grown hg (Nat.le_trans (Nat.le_trans hB h.W.bel.size) (by simp)) (fun k hk=>by have:=mK k hk.symm;omega)).setCell (p:=⟨gS,i*3+2,none⟩) hBS _
 have fg:Own w2 aA B 97 (.slice (some ⟨gS,0,none⟩) nS cS) (fQ.set i (iH nm v1 v2)):=by
  have:=h.W.own.chg k2 (fun g hg e=>by
   have h1:=mK g e;rw[hS] at hg;injection hg with hg
   have:gS=g:=hg;omega)
  rwa [hS] at this
 have FX:(fQ.set i (iH nm v1 v2))[i]?=some (iH nm v1 v2):=by rw[List.getElem?_set_self hi]
 have uT:Own (w2.setCell ⟨gS,i*3+2,none⟩ v') aA B 97 vS (fQ.set i (iH nm v1 v')):=by
  have:=fg.rawSet FX (j:=2) (by omega) v' rfl;rw[List.set_set] at this;rw[hS];exact this
 exact { h with
  W:=⟨fp,h.W.kept.chg k3 (fun b hb hx=>by
   rcases hx with hx|hx
   ·have:=mK b hx;omega
   ·subst hx;exact htS),h.W.blkF.chg k3 (Fe _ hb0 (by omega)),uT,h.W.usedO.chg k3 (fun g hg=>by
   injection hg with hg
   have rP:gU=g:=hg;subst rP;exact Fe _ h.hU (by omega))⟩
  o2:=o'.setCell (p:=⟨gS,i*3+2,none⟩) (fun e=>by have:=mU gS e;omega) (fun b hb=>hb.elim) _
  o1:=h.o1.chg k3 (fun g hg hx=>by
   rcases hx with hx|hx
   ·exact h.d g hg hx.symm
   ·have:=(h.o1.lt g hg).1;omega)
  d:=fun g hg1 hg2=>by
   rcases kD with e|e
   ·rw[e] at hg2;exact h.d g hg1 hg2
   ·rw[e] at hg2;injection hg2 with hg2;have:=(h.o1.lt g hg1).2;omega
  fin:=fun j x y hj hx hy=>bG.keep (h.fin j x y hj hx hy) (fun _ h=>h) (k3.keeps fun b bq=>⟨Nat.lt_of_lt_of_le bq.2.1 h.hb,Fe b bq.2.1 (by have:=bq.1;omega)⟩)
  blk5:=h.blk5.chg k3 (Fe _ h.h51 (by have:=h.h5;omega))
  hb:=by simp;exact Nat.le_trans h.hb xO }
end
def OA (w:World) (B bb:Nat) (s:cZ) (x:Except fc (List aX)) (e:Ending) (w':World):Prop:=
 Below B w w'∧match x with
 | .error r=>e=.returned (.agg #[.int .i64 r.no,.int .i64 r.line])
 | .ok l=>e=.returned (.agg #[.int .i64 0,.int .i64 0])∧∃cs,bG.rep w' (fun b=>B≤b∧b<w'.heap.size) cs { s.e with styl:=l }∧∀(i:Nat) u,cs[i]?=some u→w'.cell? ⟨bb,i,none⟩=some u
theorem yF (xs:List ByteArray) (x:ByteArray):Lib.idxOfS xs x<0∨∃k:Nat,Lib.idxOfS xs x=(k:Int)∧k<xs.length:=by
 unfold Lib.idxOfS;have:∀(zs:List ByteArray) (i:Nat),Lib.idxFromS zs x i<0∨∃k:Nat,Lib.idxFromS zs x i=(k:Int)∧k<i+zs.length:=by
  intro zs;induction zs with
  | nil=>intro i;left;simp[Lib.idxFromS]
  | cons y zs ih=>
   intro i;unfold Lib.idxFromS;split
   ·exact .inr ⟨i,rfl,by simp⟩
   ·rcases ih (i+1) with h|⟨k,h1,h2⟩
    ·exact .inl h
    ·exact .inr ⟨k,h1,by simp;omega⟩
 simpa using this xs 0
theorem Tryz.boolTy:∃i,Tryz.prog.info? 4=some i∧i.zero=some (.bool false)∧i.size=1∧i.bytes=1:=info_parts (by kernel_rfl)
theorem RS.of_raw {α:Type} [bG α] {k:Nat} {w:World} {B:Nat} {S:Nat→Prop} {e:TypeId} {A:Option Addr} {n c:Nat} {xs:List (bQ k)} {ys:List α} (h:Own w aA B e (.slice A n c) xs) (hk:bG.sz α=k) (hl:xs.length=ys.length) (hr:∀(i:Nat) x y,xs[i]?=some x→ys[i]?=some y→bG.rep w S x.cells y) (hS:∀g,(Value.slice A n c).ownBlock=some g→S g):RS w S A n c ys:=by
 have mJ:RS w S A n c xs:=by
  obtain⟨A',n',c',hv,hn⟩:=h.slice;injection hv with _ GY _
  subst GY;obtain⟨cs,h1,h2,h3⟩:=h;subst hn;exact RS.of_own h1 (h2.keep (fun _ h=>h.elim) (aD.refl _ _)) rfl hS
 obtain⟨h1,h2,h3,h4⟩:=mJ;refine⟨h1.trans hl,h2,h3,fun hn=>?_⟩;obtain⟨b,o,e,hb,he⟩:=h4 hn;refine⟨b,o,e,hb,fun i y hy=>?_⟩;have hi:i<xs.length:=by rw[hl];exact eP hy
 obtain⟨cs,hc1,hc2⟩:=he i xs[i] (List.getElem?_eq_getElem hi);have rY:cs=xs[i].cells:=hc1;subst rY;exact⟨_,hr i xs[i] y (List.getElem?_eq_getElem hi) hy,by rw[hk];exact hc2⟩
theorem Bo {prec:List ByteArray} {cont:List ay} {v:aS} {vs:List aS} {x:aX} {ss:List aX} {used:List Bool} {done:List aX} {e:fc} (h:dX prec (v.l af) (v.s af) used []=.error e):fT prec cont (v::vs) (x::ss) used done=.error e:=by
 rw[fT,h]
theorem KD {prec:List ByteArray} {cont:List ay} {v:aS} {vs:List aS} {x:aX} {ss:List aX} {used yf:List Bool} {done:List aX} {ps:List Int} {e:fc} (h:dX prec (v.l af) (v.s af) used []=.ok (yf,ps)) (h2:fw cont (v.l aE) (v.s aE) []=.error e):fT prec cont (v::vs) (x::ss) used done=.error e:=by
 rw[fT,h];simp only[];rw[h2]
theorem Qq {prec:List ByteArray} {cont:List ay} {v:aS} {vs:List aS} {x:aX} {ss:List aX} {used yf:List Bool} {done:List aX} {ps cs:List Int} (h:dX prec (v.l af) (v.s af) used []=.ok (yf,ps)) (h2:fw cont (v.l aE) (v.s aE) []=.ok cs) : fT prec cont (v::vs) (x::ss) used done=fT prec cont vs ss yf (done++[⟨x.name,ps,cs⟩]):=by
 rw[fT,h];simp only[];rw[h2]
theorem yp {k:Nat} {w w2:World} {B:Nat} {e:TypeId} {g n c:Nat} {xs:List (bQ k)} (h:Own w aA B e (.slice (some ⟨g,0,none⟩) n c) xs) {i:Nat} {x:bQ k} (hx:xs[i]?=some x) {j:Nat} {u:Value} (hu:x.cells[j]?=some u) {o:Obj} {row:Option Nat} (hg:(w.alloc o).grownBy w2 row) (dA:row≠some g) : w2.cell? ⟨g,i*k+j,none⟩=some u∧w2.frozen? ⟨g,i*k+j,none⟩=false:=
 ((h.alloc o).keep hg (.inr fun e=>dA e.symm) (fun _b hb=>hb.elim)).rawCell hx hu
theorem Tryz.intTy:cW Tryz.prog 84 3 1 8:=cW.mk' (z:=.int .i64 0) Tryz.underlying84 (by kernel_rfl) rfl (by omega)
theorem Ya (prec:List ByteArray) (line:Int) (used:List Bool) (lR:List Int):dX prec line [] used lR=.ok (used,lR):=rfl
theorem Yb (cont:List ay) (line:Int) (lR:List Int):fw cont line [] lR=.ok lR:=rfl
theorem Ru.next {w wr0 wr:World} {B gU nU:Nat} {τ:Nat→Tag} {s:cZ} {vS:Value} {used iC:List Bool} {rows:List (bQ 3)} {done:List aX} {i b1 g5:Nat} {Ey:Array Value} {sy:aX} {v1 v2:Value} {a1 a2:List Int} (h0:Ru w wr0 B gU nU τ s vS i used rows done) (hi:i<rows.length) (h:wC w wr B gU nU τ vS i rows done b1 g5 Ey sy.name iC v1 v2 a1 a2):Ru w wr B gU nU τ s vS (i+1) iC (rows.set i (iH sy.name v1 v2)) (done++[⟨sy.name,a1,a2⟩]):=by
 have hS:∀g,b1≤g→g<wr.heap.size→WT w gU wr.heap.size g:=fun g h1 h2=>⟨by have:=h.h5;have:=h.h51;omega,h2,by have:=h.hU;omega⟩;refine⟨h.W,by simp[h0.dn],by rw[List.length_set];exact h0.ln,h.lu,fun j x y hj hx hy=>?_,fun j x y hj hx hy=>?_⟩
 ·by_cases e:j=i
  ·subst e;rw[List.getElem?_set_self hi] at hx;injection hx with hx
   subst hx;rw[List.getElem?_append_right (by rw[h0.dn];exact Nat.le_refl _),h0.dn,Nat.sub_self] at hy;injection hy with hy
   subst hy;obtain⟨A1,n1,c1,rfl,_⟩:=h.o1.slice;obtain⟨A2,n2,c2,rfl,_⟩:=h.o2.slice;exact⟨A1,n1,c1,A2,n2,c2,rfl,h.o1.rs (fun _ h=>h.elim) hS,h.o2.rs (fun _ h=>h.elim) hS⟩
  ·rw[List.getElem?_set_ne (Ne.symm e)] at hx;rw[List.getElem?_append_left (by rw[h0.dn];omega)] at hy;exact bG.keep (h.fin j x y (by omega) hx hy) (fun b hb=>⟨hb.1,Nat.lt_of_lt_of_le hb.2.1 h.hb,hb.2.2⟩) (aD.refl _ _)
 ·rw[List.getElem?_set_ne (by omega)] at hx;exact h0.rest j x y (by omega) hx hy
theorem aei {w wr:World} {B bb mn N gU nU nC cC nS cS:Nat} {AC AS:Option Addr} {τ:Nat→Tag} {f:ByteArray→Option Value} {vP vN vD vV:Value} {rC:List (bQ 9)} {rS rows:List (bQ 3)} {rV:List (bQ 7)} {s:cZ} {used:List Bool} {done:List aX} {i:Nat} {z:Except fc (List aX)} (h:iO w B bb mn N τ f vP (.slice AC nC cC) (.slice AS nS cS) vN vD vV rC rS rV s) (ho:Ru w wr B gU nU τ s (.slice AS nS cS) i used rows done) (hi:i=s.e.styl.length) (hz:z=.ok done) : OA w B bb s z (.returned (.agg #[.int .i64 0,.int .i64 0])) (setAll wr w.heap.size 0 [.int .i64 0,.int .i64 0]):=by
 subst hz;have kT:B≤w.heap.size:=Nat.le_of_lt (Nat.lt_of_le_of_lt h.hb h.blk.lt);have hk:=ho.W.kept;obtain⟨w',Ux⟩:∃x,setAll wr w.heap.size 0 [.int .i64 0,.int .i64 0]=x:=⟨_,rfl⟩;have hs:w'.heap.size=wr.heap.size:=by rw[←Ux];exact jt _ _ _
 have hW:aD (fun b=>B≤b∧b<wr.heap.size∧b≠w.heap.size) wr w':=by rw[←Ux];exact(aD.refl _ _).setAll (fun h=>h.2.2 rfl) _ _
 have fp:Below B w w':=by rw[←Ux];exact fY ho.W.bel kT _ _
 have bq:aK w' bb 135 (iw s.e vP (.slice AC nC cC) (.slice AS nS cS) vN vD++[.map (some mn),vV]).toArray:=by
  rw[←Ux];exact(h.blk.tag hk (by rw[h.tb];simp[One])).farAll (Nat.ne_of_lt h.blk.lt) _ _
 rw[Ux];have ct:aD (Dat w B τ) w wr:=hk.keeps (by simp[One]);have hD:∀b,Dat w B τ b→B≤b∧b<wr.heap.size∧b≠w.heap.size:=fun b hb=>⟨hb.1,Nat.lt_of_lt_of_le hb.2.1 hk.size,Nat.ne_of_lt hb.2.1⟩;have hE:∀b,(B≤b∧b<wr.heap.size∧b≠w.heap.size)→B≤b∧b<w'.heap.size:=fun b hb=>⟨hb.1,by rw[hs];exact hb.2.1⟩;refine⟨fp,rfl,iw s.e vP (.slice AC nC cC) (.slice AS nS cS) vN vD,?_,fun j u hu=>?_⟩
 ·obtain⟨AP,nP,cP,rfl,hp⟩:=h.dP;obtain⟨AN,nN,cN,rfl,hn⟩:=h.dN;obtain⟨AD,nD,cD,rfl,hd⟩:=h.dD;have hC:RS wr (fun b=>B≤b∧b<wr.heap.size∧b≠w.heap.size) AC nC cC s.e.cont:=
   RS.of_raw (h.oC.tag hk (fun g hg=>by rw[h.tC g hg];simp[One])) rfl h.dC.1 (fun j x y hx hy=>bG.keep (h.dC.2 j x y hx hy) hD ct) (fun g hg=>by
    have:=h.oC.lt g hg;exact⟨this.1,Nat.lt_of_lt_of_le this.2 hk.size,Nat.ne_of_lt this.2⟩)
  have hS:RS wr (fun b=>B≤b∧b<wr.heap.size∧b≠w.heap.size) AS nS cS done:=
   RS.of_raw ho.W.own rfl (by rw[ho.ln,ho.dn,hi]) (fun j x y hx hy=>bG.keep (ho.fin j x y (by rw[←ho.dn];exact eP hy) hx hy) (fun b hb=>⟨by have:=hb.1;omega,hb.2.1,by have:=hb.1;omega⟩) (aD.refl _ _)) (fun g hg=>by
    have:=h.oS.lt g hg;exact⟨this.1,Nat.lt_of_lt_of_le this.2 hk.size,Nat.ne_of_lt this.2⟩)
  exact⟨_,_,_,_,_,_,_,_,_,_,_,_,_,_,_,rfl,(hp.keep hD ct).keep hE hW,hC.keep hE hW,hS.keep hE hW,(hn.keep hD ct).keep hE hW,(hd.keep hD ct).keep hE hW⟩
 ·rw[bq.cell j];rw[List.getElem?_toArray,List.getElem?_append_left (eP hu)];exact hu
theorem CU {w wr:World} {B bb:Nat} {s:cZ} {z:Except fc (List aX)} (hB:Below B w wr) (kT:B≤w.heap.size) (no line:Int) (hz:z=.error ⟨no,line⟩):OA w B bb s z (.returned (.agg #[.int .i64 no,.int .i64 line])) (setAll wr w.heap.size 0 [.int .i64 no,.int .i64 line]):=by
 subst hz;exact⟨fY hB kT _ _,rfl⟩
end Go.Proofs.YtjlhbfbdcfajfaaGreatDoor
