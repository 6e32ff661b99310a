/- Rec10 Rec11 Rec12 -/
import Derived.Test.YtjlhbfbdcfajfaaGreatDoorR07
namespace Go.Proofs.YtjlhbfbdcfajfaaGreatDoor
open Go Go.RowKit
def short18 (x:BatchV):BatchV:={ x with recs:=(x.recs.take 6).map short14 }
def zeroB:BatchV:=⟨0,0,false,List.replicate 32 (.int .u8 0),[],List.replicate 32 (.int .u8 0)⟩
theorem zeroB_ok:zeroB.ok:=⟨rfl,rfl,by decide⟩
section
variable {S:Nat→Prop} {w:World} {va:Value}
set_option maxRecDepth 20000 in
theorem short18_ok {x:BatchV} (h:SV w S va x) (hS:∀b,S b→b<w.heap.size):Calls Tryz.prog 23 #[va] w (RetBV S w (short18 x)):=by
 obtain⟨_,rfl,lZ,A,n,c,rfl,rv⟩:=h;have ln:=rv.len;refine lIn Tryz.func23 [(0,.agg (batC x (.slice A n c)).toArray)] fun a hf=>?_;refine WlR hf [gB w 0 61 (batC x (.slice A n c)).toArray,gB w 1 61 (batC zeroB (.slice none 0 0)).toArray] 0 [0,1] ⟨bxG,bxG,trivial⟩ fun a col w1 bd hf hH=>?_;obtain⟨g,e1,hg,c1,k1⟩:=gotB hH 0 1;obtain⟨g2,e2,hg2,c2,k2⟩:=gotB hH 1 2;have rP:some g2≠some g:=fun e=>by injection e with e;rw[e,c1] at c2;cases c2
 refine WlP ((hf.c e1).c e2) [cl (k1.at 35 (v:=.slice A n c) (by simpa using batC_at lZ _))] [(1,.pointer (some ⟨g,0,none⟩)),(2,.pointer (some ⟨g2,0,none⟩)),(3,.slice A n c)] fun a hf=>?_;refine WlR hf [gV (.pointer (some ⟨g,35,none⟩))] 1 [] trivial fun a col w2 bY hf _=>tSt1 hf (k1.keep bY) 35 (.slice none 0 0) (by rw[batC_len lZ];decide) fun w3 p3 k3=>?_;rw[batC_set lZ] at k3;have b13:Below w.heap.size w w3:=p3.below (ae bd bY) hg;have b23:=p3.s;refine WlP hf [] [(1,.pointer (some ⟨g,0,none⟩)),(2,.pointer (some ⟨g2,0,none⟩)),(3,.slice A n c),(4,.int .i64 0)] fun a hf=>?_;refine lLoop (fun a w'=>∃k:Nat,k≤n∧k≤6∧Fr 29 [(1,.pointer (some ⟨g,0,none⟩)),(2,.pointer (some ⟨g2,0,none⟩)),(3,.slice A n c),(4,.int .i64 k)] a∧Acc (fun b=>S b∨w3.heap.size≤b) w3 w' g 35 61 42 (batC x (.slice none 0 0)) ((x.recs.take k).map short14)) (fun a _=>6-(slotI 4 a).toNat) ⟨0,Nat.zero_le _,Nat.zero_le _,hf,Acc.startD (fun h=>by have:=k3.lt;rcases h with h|h;have:=hS _ h;omega;omega) (by rw[batC_set lZ];exact k3)⟩ ?_;rintro a0 w4 ⟨k,hk,jz,QR,hacc⟩;have b4:=hacc.below b13 hg;by_cases bn:k<n∧k<6
 ·obtain⟨bn,hl6⟩:=bn;obtain⟨b1,o1,u,_,rfl,q1,hx,⟨A3,n3,c3,rfl,rx⟩,e1⟩:=(rv.below b4 hS).stA bn;have t1:∀{b},S b→b<w4.heap.size:=fun h=>Nat.lt_of_lt_of_le (hS _ h) b4.size;refine WlP QR [tb 3 (ltT bn),tb 6 (ltT (n:=6) hl6)] [(1,.pointer (some ⟨g,0,none⟩)),(2,.pointer (some ⟨g2,0,none⟩)),(3,.slice (some ⟨b1,o1,none⟩) n c),(4,.int .i64 k),(15,.bool true)] fun a hf=>WlT hf (lBlk ?_);obtain⟨v,T,ac⟩:=hacc;refine WlR hf [gV (.pointer (some ⟨g,35,none⟩)),gV v,gV (.slice (some ⟨b1,o1,none⟩) n c),gV (.int .i64 k),gV (.pointer (some ⟨b1,o1+k*3,none⟩)),gV (.agg #[.int .i64 u.prec,.slice A3 n3 c3,.bool u.doubt]),gM S w4 99 (short14 u),WgT S w4 99 7 42 (short14 u)] 3 [1,4,5,6,7]
   ⟨ldG (ac.k.at 35 (by rw[batC_set lZ];simpa using batC_at lZ v)),ixG c Tryz.recsW bn,lmG e1 (t1 q1),cmG (fun _=>t1) fun w' xU=>short14_ok (S:=S) ⟨_,rfl,A3,n3,c3,rfl,rx.below xU fun _=>t1⟩ fun b h=>Nat.lt_of_lt_of_le (t1 h) xU.size,rmG 6 Tryz.recsW recOne,trivial⟩ fun a col w5 mE hf hH=>?_
  obtain⟨gr,ds,ur,kr,CP,Ec⟩:=gotT hH 7 25;have hT:∀b,((S b∧b<w4.heap.size)∨RD w4 99 col w5 b)→(S b∨w3.heap.size≤b)∧b<w5.heap.size∧some b≠v.ownBlock:=fun b hb=>by
   have h1:=mE.size;have h2:=ac.g.size;have h3:=b13.size;refine⟨hb.imp (·.1) fun q=>Nat.le_trans h2 q.1,hb.elim (fun q=>Nat.lt_of_lt_of_le q.2 h1) (·.2.1),fun e=>?_⟩;have h4:=ac.o.lt b e.symm;rcases hb with hb|hb
   ·have:=hS _ hb.1;omega
   ·have:=hb.1;omega
  refine tGrow (hf.c ur) (ac.keep mE) Tryz.recsW (by rw[batC_len lZ];decide) hT kr CP Ec rfl (by simp;omega) fun _ _ _ w6 hn a hf=>?_;rw[←List.map_singleton (f:=short14),←List.map_append,←du hx] at hn;refine WlP hf [tl 1 (wrap1 (k:=k) (by omega))] [(1,.pointer (some ⟨g,0,none⟩)),(2,.pointer (some ⟨g2,0,none⟩)),(3,.slice (some ⟨b1,o1,none⟩) n c),(4,.int .i64 (k+1:Nat))] fun a' hf'=>⟨⟨k+1,bn,hl6,hf',hn⟩,?_⟩;rw[QR.slotI (t:=4) (x:=k),hf'.slotI (t:=4) (x:=(k+1:Nat))];omega
 ·refine lPE QR [(1,.pointer (some ⟨g,0,none⟩)),(2,.pointer (some ⟨g2,0,none⟩)),(15,.bool false)] (by
   by_cases q:k<n
   ·exact⟨[tb 3 (ltT q),tb 6 (ltF (k:=k) (n:=6) (by omega))],by kernel_rfl,by kernel_rfl⟩
   ·exact⟨[tb 3 (ltF q)],by kernel_rfl,by kernel_rfl⟩) fun a hf=>WlF hf (lExit ?_)
  have ww:x.recs.take k=x.recs.take 6:=by rw[show k=min n 6 by omega,take_min ln]
  rw[ww] at hacc;have uV:=hacc.choose_spec.choose_spec.g;obtain⟨A5,n5,c5,k9,r9⟩:=hacc.rsD;rw[batC_set lZ] at k9;have k24:=((k2.keep bY).grown p3.g rP).grown uV rP;have hL:∀v,(Tryz.prog.info? 61).map (·.size)=some (batC x v).length:=fun v=>by rw[batC_len lZ];kernel_rfl
  refine WlR hf [gV (.agg (batC x (.slice A5 n5 c5)).toArray)] 1 [0] ⟨lmG k9.cat k9.lt (h2:=hL _),trivial⟩ fun a col w5 mE hf _=>?_;refine tStA hf (k24.keep mE) (batC x (.slice A5 n5 c5)) (by rw[batC_len lZ,List.size_toArray,batC_len zeroB_ok]) (batC_one lZ rfl) (hL _) fun w6 p6 k6=>lRet (rtS hf k6 ⟨_,rfl,⟨_,rfl,lZ,A5,n5,c5,rfl,?_⟩,p6.below (ae b4 mE) hg2⟩ Tryz.underlying61 (hi:=by rw[List.size_toArray];exact hL _));have h1:=k2.lt;have h2:=bY.size;have h3:=bd.size;refine(r9.keep (S':=fun b=>(S b∨(w.heap.size≤b∧b<w5.heap.size))∧b<w5.heap.size∧b≠g2) (fun b h=>⟨?_,Nat.lt_of_lt_of_le h.2 mE.size,fun e=>?_⟩) ((aD.of_below mE).sub fun _ h=>h.2)).keep (fun b h=>by rw[p6.s];exact h.1) ((aD.grown p6.g).sub fun b h=>⟨h.2.1,fun e=>h.2.2 (by injection e)⟩)
  ·have h5:=mE.size;have h4:=h.2;exact(h.1.elim id .inr:S b∨w3.heap.size≤b).imp id fun(q:w3.heap.size≤b)=>by omega
  ·subst e;rcases(h.1.elim id .inr:S b∨w3.heap.size≤b) with h|h
   ·have:=hS _ h;omega
   ·omega
end
structure ImpV where
 scan:Int
 batch:Int
 place:Int
instance:bG ImpV where
 sz:=3
 rep _ _ cs x:=cs=[.int .i64 x.scan,.int .i64 x.batch,.int .i64 x.place]
 len h:=by subst h;rfl
 keep h _ _:=h
theorem Tryz.impsW:cW Tryz.prog 63 69 3 24:=cW.mk' (z:=.agg #[.int .i64 0,.int .i64 0,.int .i64 0]) Tryz.underlying63 (by kernel_rfl) rfl (by omega)
theorem Tryz.batsW:cW Tryz.prog 57 61 68 112:=cW.mk' (z:=.agg (batC zeroB (.slice none 0 0)).toArray) Tryz.underlying57 (by kernel_rfl) rfl (by omega)
def pairsB (b:BatchV) (j:Nat):List (RecV×ImpV):=(b.recs.take j).zipIdx.filterMap fun x=>if isVoidV x.1 then none else some (x.1,⟨b.scan,b.num,(x.2:Nat)⟩)
def pairs (bs:List BatchV):List (RecV×ImpV):=bs.flatMap fun b=>pairsB b b.recs.length
theorem pairsB_len (b:BatchV) (j:Nat):(pairsB b j).length≤j:=by
 unfold pairsB;refine Nat.le_trans (List.length_filterMap_le ..) ?_;rw[List.length_zipIdx,List.length_take];exact Nat.min_le_left _ _
theorem pairs_len:∀{bs:List BatchV},(∀b∈bs,b.recs.length≤6)→(pairs bs).length≤6*bs.length
 | [],_=>Nat.le_refl _
 | b::bs,h=>by
  have h1:=pairs_len fun c hc=>h c (List.mem_cons_of_mem b hc);have h2:=h b List.mem_cons_self;have h3:=pairsB_len b b.recs.length;unfold pairs at h1 ⊢;rw[List.flatMap_cons,List.length_append,List.length_cons];omega
theorem pairs_snoc {bs:List BatchV} {k:Nat} {b:BatchV} (h:bs[k]?=some b):pairs (bs.take (k+1))=pairs (bs.take k)++pairsB b b.recs.length:=by
 unfold pairs;rw[du h,List.flatMap_append];simp
theorem pairsB_snoc {b:BatchV} {j:Nat} {r:RecV} (h:b.recs[j]?=some r):pairsB b (j+1)=pairsB b j++if isVoidV r then[] else[(r,⟨b.scan,b.num,(j:Nat)⟩)]:=by
 have hj:=(List.getElem?_eq_some_iff.1 h).1;unfold pairsB;rw[du h,List.zipIdx_append,List.filterMap_append];congr 1
 rw[List.length_take,Nat.min_eq_left (by omega)];cases hv:isVoidV r<;>simp[hv]
structure TwoR (D:Nat→Prop) (W w:World) (v u:Value) (S:Nat→Prop) (xs:List RecV) (ys:List ImpV):Prop where
 o:Own w S W.heap.size 42 v xs
 p:Own w (fun _=>False) W.heap.size 69 u ys
 ne:∀b,v.ownBlock=some b→u.ownBlock≠some b
 s:∀b,S b→some b≠u.ownBlock
 d:∀b,S b→D b
 g:Below W.heap.size W w
section
variable {D S:Nat→Prop} {W w w':World} {v u:Value} {xs:List RecV} {ys:List ImpV}
theorem TwoR.start (D:Nat→Prop) (W:World):TwoR D W W (.slice none 0 0) (.slice none 0 0) (fun _=>False) [] []:=
 ⟨Own.nil _ _ _,Own.nil _ _ _,fun _ h=>(by cases h),fun _ h=>h.elim,fun _ h=>h.elim,Below.refl _ _⟩
theorem TwoR.keep (h:TwoR D W w v u S xs ys) (hb:Below w.heap.size w w'):TwoR D W w' v u S xs ys:=
 ⟨h.o.below hb,h.p.below hb,h.ne,h.s,h.d,h.g.trans (hb.mono h.g.size)⟩
theorem TwoR.wide {T:Nat→Prop} (h:TwoR D W w v u S xs ys) (hT:∀b,T b→b<w.heap.size∧some b≠v.ownBlock):Own w (fun b=>S b∨T b) W.heap.size 42 v xs:=
 h.o.widen (fun _=>.inl) fun b hb=>hb.elim (h.o.apart b) (hT b)
theorem TwoR.first {T:Nat→Prop} {v':Value} {xs':List RecV} (h:TwoR D W w v u S xs ys) (hT:∀b,T b→D b∧some b≠u.ownBlock) (o:Own w' (fun b=>S b∨T b) W.heap.size 42 v' xs') (g:w.grownBy w' v.ownBlock) (q:v'.ownBlock=v.ownBlock∨∃b,v'.ownBlock=some b∧w.heap.size≤b):TwoR D W w' v' u (fun b=>S b∨T b) xs' ys:=
 ⟨o,h.p.keep g (by
  cases e:u.ownBlock with
  | none=>exact .inl rfl
  | some b=>exact .inr fun q=>h.ne b q.symm e) (fun _ h=>h.elim),fun b e=>by
  rcases q with q|⟨c,q,qc⟩
  ·exact h.ne b (q.symm.trans e)
  ·intro e2;have:=(h.p.lt b e2).2;rw[q] at e;injection e with e
   omega,fun b hb=>hb.elim (h.s b) fun t=>(hT b t).2,fun b hb=>hb.elim (h.d b) fun t=>(hT b t).1,h.g.grown g h.g.size fun k e=>(h.o.lt k e).1⟩
theorem TwoR.second {u':Value} {ys':List ImpV} (h:TwoR D W w v u S xs ys) (p:Own w' (fun _=>False) W.heap.size 69 u' ys') (g:w.grownBy w' u.ownBlock) (q:u'.ownBlock=u.ownBlock∨u'.ownBlock=some w.heap.size):TwoR D W w' v u' S xs ys':=
 ⟨h.o.keep g (by
  cases e:v.ownBlock with
  | none=>exact .inl rfl
  | some b=>exact .inr fun q=>h.ne b e q.symm) h.s,p,fun b e e2=>by
  rcases q with q|q
  ·exact h.ne b e (q.symm.trans e2)
  ·have:=(h.o.lt b e).2;rw[q] at e2;injection e2 with e2
   omega,fun b hb e=>by
  rcases q with q|q
  ·exact h.s b hb (e.trans q)
  ·have:=(h.o.apart b hb).1;rw[q] at e;injection e with e
   omega,h.d,h.g.grown g h.g.size fun k e=>(h.p.lt k e).1⟩
end
def RetRP (w:World) (xs:List RecV) (ys:List ImpV) (en:Ending) (w':World):Prop:=∃A n c A2 n2 c2,en=.returned (.tuple #[.slice A n c,.slice A2 n2 c2])∧RS w' (·<w'.heap.size) A n c xs∧RS w' (·<w'.heap.size) A2 n2 c2 ys∧Below w.heap.size w w'
section
variable {S:Nat→Prop} {w:World}
theorem SV.cs3 {va:Value} {r:RecV} (h:SV w S va r):∃A n c,va=.agg #[.int .i64 r.prec,.slice A n c,.bool r.doubt]∧RS w S A n c r.votes:=by
 obtain⟨_,rfl,A,n,c,rfl,h⟩:=h;exact⟨A,n,c,rfl,h⟩
theorem isVoid_eq (r:RecV):isVoidV r=decide (r=voidV):=by
 obtain⟨p,vs,d⟩:=r;unfold isVoidV voidV;cases vs<;>cases d<;>by_cases h:p= -1<;>simp[h]
 all_goals omega
set_option maxRecDepth 20000 in
theorem records_ok {es:List Value} {A:Option Addr} {n c:Nat} {bs:List BatchV} (h:RS w S A n c bs) (hS:∀b,S b→b<w.heap.size) (hn:n≤5) (kC:∀b∈bs,b.recs.length≤6) (KV:∀b∈bs,∀r∈b.recs,r.small) : Calls Tryz.prog 24 #[.agg es.toArray,.slice A n c] w (RetRP w ((pairs bs).map (·.1)) ((pairs bs).map (·.2))):=by
 have ln:=h.len;refine lIn Tryz.func24 [(0,.agg es.toArray),(1,.slice A n c)] fun a hf=>?_;refine WlR hf [gB w 0 30 es.toArray,gV (.slice none 0 0),gV (.slice none 0 0)] 0 [0] ⟨bxG,trivial⟩ fun a col w0 hb0 hf _=>?_;refine WlP hf [] [(1,.slice A n c),(6,.slice none 0 0)] fun a hf=>WlP hf [] [(1,.slice A n c),(6,.slice none 0 0),(7,.slice none 0 0)] fun a hf=>WlP hf [] [(6,.slice none 0 0),(7,.slice none 0 0),(12,.slice A n c),(13,.int .i64 n),(14,.int .i64 0)] fun a hf=>?_;have h0:=h.below hb0 hS;have Xo:∀b,S b→b<w0.heap.size:=fun b h=>Nat.lt_of_lt_of_le (hS b h) hb0.size;refine lLoop (fun a w'=>∃(k:Nat) (v u:Value) (T:Nat→Prop),k≤n∧Fr 48 [(6,v),(7,u),(12,.slice A n c),(13,.int .i64 n),(14,.int .i64 k)] a∧TwoR (w0.heap.size≤·) w0 w' v u T ((pairs (bs.take k)).map (·.1)) ((pairs (bs.take k)).map (·.2))) (fun a _=>n-(slotI 14 a).toNat) ⟨0,_,_,_,Nat.zero_le _,hf,TwoR.start _ _⟩ ?_;rintro a0 w1 ⟨k,v,u,T,hk,QR,hT0⟩;by_cases bn:k<n
 ·obtain⟨b1,o1,b,_,rfl,q1,hx,⟨lZ,A3,n3,c3,rfl,rx⟩,e1⟩:=h0.stA bn;have hbm:=List.mem_of_getElem? hx;have h6:=kC b hbm;have lx:=rx.len;have rZ:eT w1 ⟨b1,o1+k*68,none⟩ (batC b (.slice A3 n3 c3)):=e1.keep (aD.of_below hT0.g) (Xo _ q1);have t1:∀{b},S b→b<w1.heap.size:=fun h=>Nat.lt_of_lt_of_le (Xo _ h) hT0.g.size;have hL:(Tryz.prog.info? 61).map (·.size)=some (batC b (.slice A3 n3 c3)).length:=by rw[batC_len lZ];kernel_rfl
  have Pk:(pairs (bs.take k)).length≤6*k:=Nat.le_trans (pairs_len fun b hb=>kC b (List.mem_of_mem_take hb)) (by rw[List.length_take];omega);refine WlP QR [tb 0 (ltT bn)] [(6,v),(7,u),(12,.slice (some ⟨b1,o1,none⟩) n c),(13,.int .i64 n),(14,.int .i64 k),(15,.bool true)] fun a hf=>WlT hf (lBlk ?_);refine WlR hf [gV (.pointer (some ⟨b1,o1+k*68,none⟩)),gV (.agg (batC b (.slice A3 n3 c3)).toArray),gB w1 2 61 (batC zeroB (.slice none 0 0)).toArray] 1 [0,1,2] ⟨ixG c Tryz.batsW bn,lmG rZ (t1 q1) (h2:=hL),bxG,trivial⟩ fun a col w2 bY hf hH=>?_;obtain⟨g,u9,hg,_,k9⟩:=gotB hH 2 9;refine tStA (hf.c u9) k9 (batC b (.slice A3 n3 c3)) (by rw[batC_len lZ,List.size_toArray,batC_len zeroB_ok]) (batC_one lZ rfl) hL fun w3 p3 k9=>?_;have b13:Below w1.heap.size w1 w3:=p3.below bY hg;have hT1:=hT0.keep b13;refine WlP (hf.c u9) [cl (k9.at 35 (v:=.slice A3 n3 c3) (by simpa using batC_at lZ _))] [(6,v),(7,u),(9,.pointer (some ⟨g,0,none⟩)),(12,.slice (some ⟨b1,o1,none⟩) n c),(13,.int .i64 n),(14,.int .i64 k),(19,.slice A3 n3 c3),(20,.int .i64 n3),(21,.int .i64 0)] fun a hf=>?_;refine lLoop (fun a w'=>∃(j:Nat) (v u:Value) (T:Nat→Prop),j≤n3∧Fr 48 [(6,v),(7,u),(9,.pointer (some ⟨g,0,none⟩)),(12,.slice (some ⟨b1,o1,none⟩) n c),(13,.int .i64 n),(14,.int .i64 k),(19,.slice A3 n3 c3),(20,.int .i64 n3),(21,.int .i64 j)] a∧(aK w' g 61 (batC b (.slice A3 n3 c3)).toArray∧some g≠v.ownBlock∧some g≠u.ownBlock)∧TwoR (w0.heap.size≤·) w0 w' v u T ((pairs (bs.take k)++pairsB b j).map (·.1)) ((pairs (bs.take k)++pairsB b j).map (·.2))) (fun a _=>n3-(slotI 21 a).toNat) ⟨0,v,u,T,Nat.zero_le _,hf,⟨k9,fun e=>by have:=(hT0.o.lt g e.symm).2;omega,fun e=>by have:=(hT0.p.lt g e.symm).2;omega⟩,by simpa[pairsB] using hT1⟩ ?_;rintro a1 w4 ⟨j,v,u,T,hj,Fj,⟨kg,gv,gu⟩,hT2⟩;have Sm:=pairsB_len b j;by_cases NS:j<n3
  ·obtain⟨b2,o2,r,_,rfl,q2,hy,⟨A4,n4,c4,rfl,ry⟩,e2⟩:=rx.stA NS;have e24:eT w4 ⟨b2,o2+j*3,none⟩ [.int .i64 r.prec,.slice A4 n4 c4,.bool r.doubt]:=e2.keep (aD.of_below hT2.g) (Xo _ q2);have t4:∀{b},S b→b<w4.heap.size:=fun h=>Nat.lt_of_lt_of_le (Xo _ h) hT2.g.size;have mJ:=KV b hbm r (List.mem_of_getElem? hy);have ry4:=ry.below hT2.g Xo;refine WlP Fj [tb 0 (ltT NS)] [(6,v),(7,u),(9,.pointer (some ⟨g,0,none⟩)),(12,.slice (some ⟨b1,o1,none⟩) n c),(13,.int .i64 n),(14,.int .i64 k),(19,.slice (some ⟨b2,o2,none⟩) n3 c3),(20,.int .i64 n3),(21,.int .i64 j),(22,.bool true)] fun a hf=>WlT hf (lBlk ?_);refine WlR hf [gV (.int .i64 j),gV (.pointer (some ⟨b2,o2+j*3,none⟩)),gV (.agg #[.int .i64 r.prec,.slice A4 n4 c4,.bool r.doubt]),gB w4 3 42 #[.int .i64 0,.slice none 0 0,.bool false],gV (.int .i64 j)] 1 [1,2,3] ⟨ixG c3 Tryz.recsW NS,lmG e24 (t4 q2),bxG,trivial⟩ fun a col w5 mE hf hH=>?_;obtain⟨Oc,u11,hg11,_,k11⟩:=gotB hH 3 11;refine tSt (hf.c u11) k11 0 #[.int .i64 r.prec,.slice A4 n4 c4,.bool r.doubt] fun w6 p6 k11=>?_;have b46:Below w4.heap.size w4 w6:=p6.below mE hg11;refine WlR (hf.c u11) [gV (.agg #[.int .i64 r.prec,.slice A4 n4 c4,.bool r.doubt]),gS w6 99 voidV,gV (.bool (decide (r=voidV)))] 1 [0,1,2] ⟨lmG k11.cat k11.lt,csG fun w' _=>void_ok w',cwG 1 (fun cs=>#[.agg #[.int .i64 r.prec,.slice A4 n4 c4,.bool r.doubt],.agg cs.toArray]) fun w' xU S2 cs eF ri=>equalR_ok (S:=S) ⟨_,rfl,A4,n4,c4,rfl,ry4.below (b46.trans (xU.mono b46.size)) fun _=>t4⟩ ⟨cs,rfl,ri⟩ (fun b h=>Nat.lt_of_lt_of_le (t4 h) (b46.trans (xU.mono b46.size)).size) eF,trivial⟩ fun a col w7 uZ hf _=>tPu hf 29 fun a hf=>?_;have b47:=b46.trans (uZ.mono b46.size);have k117:=k11.keep uZ;have hT7:=hT2.keep b47;have kg7:=kg.keep b47;refine lIfB (b:=!decide (r=voidV)) hf (fun hv=>?_) fun hv=>?_
   ·have hvr:isVoidV r=false:=by rw[isVoid_eq];simpa using hv
    refine WlR hf [gV v,gV (.agg #[.int .i64 r.prec,.slice A4 n4 c4,.bool r.doubt]),gS w7 99 r,gR w7 99 3 42 [r] 1] 2 [1,2,3] ⟨lmG k117.cat k117.lt,csG fun w' xU=>cloneR_ok (S:=S) ⟨_,rfl,A4,n4,c4,rfl,ry4.below (b47.trans (xU.mono b47.size)) fun _=>t4⟩ (fun b h=>Nat.lt_of_lt_of_le (t4 h) (b47.trans (xU.mono b47.size)).size) mJ,rowG [2] Tryz.recsW recOne,trivial⟩ fun a col w8 oy hf hH=>?_;obtain⟨gr,cr,ur,_,_,kr,fr,_,hr⟩:=gotR hH 3 33;have hT8:=hT7.keep oy;have hD:∀b,(RD w7 99 col w8 b∧col b≠3)→w0.heap.size≤b∧b<w8.heap.size∧some b≠v.ownBlock∧some b≠u.ownBlock:=fun b hb=>by
     have h1:=hb.1.1;have h2:=hT7.g.size;refine⟨by omega,hb.1.2.1,fun e=>?_,fun e=>?_⟩
     ·have:=(hT7.o.lt b e.symm).2;omega
     ·have:=(hT7.p.lt b e.symm).2;omega
    refine tAp (hf.c ur) Tryz.recsW (hT8.wide fun b q=>⟨(hD b q).2.1,(hD b q).2.2.1⟩) hT8.g.size kr (fr.keep (fun _=>.inr) (aD.refl _ _)) hr rfl (cc:=1) (by simp;omega) fun A' n' c' w9 o9 g9 q9 a hf=>tPu hf 6 fun a hf=>?_;have hT9:=hT8.first (T:=fun b=>RD w7 99 col w8 b∧col b≠3) (fun b hb=>⟨(hD b hb).1,(hD b hb).2.2.2⟩) o9 g9 (q9.imp id fun h=>⟨_,h,Nat.le_refl _⟩);have kg9:=(kg7.keep oy).grown g9 gv;have gv9:some g≠(Value.slice A' n' c').ownBlock:=fun e=>by
     rcases q9 with q|q
     ·exact gv (e.trans q)
     ·rw[q] at e;injection e with e;have:=(kg7.keep oy).lt;omega
    refine WlR hf [gV u,gV (.pointer (some ⟨g,0,none⟩)),gV (.int .i64 b.scan),gV (.pointer (some ⟨g,1,none⟩)),gV (.int .i64 b.num),gV (.int .i64 j),gV (.agg #[.int .i64 b.scan,.int .i64 b.num,.int .i64 j]),WgW w9 7 69 #[.int .i64 b.scan,.int .i64 b.num,.int .i64 j] 1] 2 [2,4,7] ⟨ldG (kg9.at 0),ldG (kg9.at 1),wrG,trivial⟩ fun a col qJ ad2 hf hH=>?_;obtain⟨gi,ui,_,ki⟩:=gotW hH 7 42;have hT10:=hT9.keep ad2;refine tAp (α:=ImpV) (ys:=[⟨b.scan,b.num,(j:Nat)⟩]) (hf.c ui) Tryz.impsW hT10.p hT10.g.size ki (Flat.cons (ds:=[.int .i64 b.scan,.int .i64 b.num,.int .i64 j]) rfl Flat.nil) (by simp[Value.oneCell']) rfl (cc:=1) (by simp;omega) fun A2 n2 c2 ii o11 Oc q11 a hf=>tPu hf 7 fun a hf=>?_;have hT11:=hT10.second o11 Oc q11;have kg11:=(kg9.keep ad2).grown Oc gu;have gu11:some g≠(Value.slice A2 n2 c2).ownBlock:=fun e=>by
     rcases q11 with q|q
     ·exact gu (e.trans q)
     ·rw[q] at e;injection e with e;have:=(kg9.keep ad2).lt;omega
    refine WlP hf [tl 0 (wrap1 (k:=j) (by omega))] [(6,.slice A' n' c'),(7,.slice A2 n2 c2),(9,.pointer (some ⟨g,0,none⟩)),(12,.slice (some ⟨b1,o1,none⟩) n c),(13,.int .i64 n),(14,.int .i64 k),(19,.slice (some ⟨b2,o2,none⟩) n3 c3),(20,.int .i64 n3),(21,.int .i64 (j+1:Nat))] fun a' hf'=>⟨⟨j+1,_,_,_,NS,hf',⟨kg11,gv9,gu11⟩,by rw[pairsB_snoc hy,hvr];simpa using hT11⟩,?_⟩;rw[Fj.slotI (t:=21) (x:=j),hf'.slotI (t:=21) (x:=(j+1:Nat))];omega
   ·have hvr:isVoidV r=true:=by rw[isVoid_eq];simpa using hv
    refine WlP hf [tl 0 (wrap1 (k:=j) (by omega))] [(6,v),(7,u),(9,.pointer (some ⟨g,0,none⟩)),(12,.slice (some ⟨b1,o1,none⟩) n c),(13,.int .i64 n),(14,.int .i64 k),(19,.slice (some ⟨b2,o2,none⟩) n3 c3),(20,.int .i64 n3),(21,.int .i64 (j+1:Nat))] fun a' hf'=>⟨⟨j+1,v,u,T,NS,hf',⟨kg7,gv,gu⟩,by rw[pairsB_snoc hy,hvr];simpa using hT7⟩,?_⟩;rw[Fj.slotI (t:=21) (x:=j),hf'.slotI (t:=21) (x:=(j+1:Nat))];omega
  ·refine WlP Fj [tb 0 (ltF NS)] [(6,v),(7,u),(12,.slice (some ⟨b1,o1,none⟩) n c),(13,.int .i64 n),(14,.int .i64 k),(22,.bool false)] fun a hf=>WlF hf (lExit ?_);have hj3:j=b.recs.length:=by omega
   rw[hj3,←pairs_snoc hx] at hT2;refine WlP hf [tl 0 (wrap1 (k:=k) (by omega))] [(6,v),(7,u),(12,.slice (some ⟨b1,o1,none⟩) n c),(13,.int .i64 n),(14,.int .i64 (k+1:Nat))] fun a' hf'=>⟨⟨k+1,v,u,T,bn,hf',hT2⟩,?_⟩;rw[QR.slotI (t:=14) (x:=k),hf'.slotI (t:=14) (x:=(k+1:Nat))];omega
 ·refine WlP QR [tb 0 (ltF bn)] [(6,v),(7,u),(15,.bool false)] fun a hf=>WlF hf (lExit ?_);rw[List.take_of_length_le (by omega)] at hT0;obtain⟨A5,n5,c5,rfl,_⟩:=hT0.o.slice;obtain⟨A6,n6,c6,rfl,_⟩:=hT0.p.slice;exact WlP hf [] [(4,.slice A5 n5 c5),(5,.slice A6 n6 c6)] fun a hf=>lRet (rt2 hf ⟨A5,n5,c5,A6,n6,c6,rfl,hT0.o.rs (fun b hb=>(hT0.o.apart b hb).1) fun k _ h=>h,hT0.p.rs (fun _ h=>h.elim) fun k _ h=>h,ae hb0 hT0.g⟩)
end
end Go.Proofs.YtjlhbfbdcfajfaaGreatDoor
