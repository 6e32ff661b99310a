/- Rec13 Rec14 Rec15 -/
import Derived.Test.YtjlhbfbdcfajfaaGreatDoorR08
import Derived.Laws.StructEq
import Derived.Test.YtjlhbfbdcfajfaaGreatDoorB38
import Derived.OpenShut
namespace Go.Proofs.YtjlhbfbdcfajfaaGreatDoor
open Go Go.RowKit
section
variable {S:Nat→Prop} {w:World}
set_option maxRecDepth 20000 in
theorem refRecords_ok {A:Option Addr} {n c:Nat} {bs:List BatchV} (h:RS w S A n c bs) (hS:∀b,S b→b<w.heap.size) (hn:n≤5) (kC:∀b∈bs,b.recs.length≤6) : Calls Tryz.prog 25 #[.slice A n c] w (RetRP w ((pairs bs).map (·.1)) ((pairs bs).map (·.2))):=by
 have ln:=h.len;refine lIn Tryz.func25 [(0,.slice A n c)] fun a hf=>?_;refine WlP hf [] [(0,.slice A n c)] fun a hf=>WlP hf [] [(0,.slice A n c),(4,.slice none 0 0)] fun a hf=>WlP hf [] [(0,.slice A n c),(4,.slice none 0 0),(5,.slice none 0 0)] fun a hf=>WlP hf [] [(4,.slice none 0 0),(5,.slice none 0 0),(9,.slice A n c),(10,.int .i64 n),(11,.int .i64 0)] fun a hf=>?_;refine lLoop (fun a w'=>∃(k:Nat) (v u:Value) (T:Nat→Prop),k≤n∧Fr 49 [(4,v),(5,u),(9,.slice A n c),(10,.int .i64 n),(11,.int .i64 k)] a∧TwoR (fun _=>True) w w' v u T ((pairs (bs.take k)).map (·.1)) ((pairs (bs.take k)).map (·.2))) (fun a _=>n-(slotI 11 a).toNat) ⟨0,_,_,_,Nat.zero_le _,hf,TwoR.start _ _⟩ ?_;rintro a0 w1 ⟨k,v,u,T,hk,QR,hT0⟩;by_cases bn:k<n
 ·obtain⟨b1,o1,b,_,rfl,q1,hx,⟨lZ,A3,n3,c3,rfl,rx⟩,e1⟩:=h.stA bn;have hbm:=List.mem_of_getElem? hx;have h6:=kC b hbm;have lx:=rx.len;have rZ:eT w1 ⟨b1,o1+k*68,none⟩ (batC b (.slice A3 n3 c3)):=e1.keep (aD.of_below hT0.g) (hS _ q1);have t1:∀{b},S b→b<w1.heap.size:=fun h=>Nat.lt_of_lt_of_le (hS _ h) hT0.g.size;have hL:(Tryz.prog.info? 61).map (·.size)=some (batC b (.slice A3 n3 c3)).length:=by rw[batC_len lZ];kernel_rfl
  have Pk:(pairs (bs.take k)).length≤6*k:=Nat.le_trans (pairs_len fun b hb=>kC b (List.mem_of_mem_take hb)) (by rw[List.length_take];omega);refine WlP QR [tb 0 (ltT bn)] [(4,v),(5,u),(9,.slice (some ⟨b1,o1,none⟩) n c),(10,.int .i64 n),(11,.int .i64 k),(12,.bool true)] fun a hf=>WlT hf (lBlk ?_);refine WlR hf [gV (.pointer (some ⟨b1,o1+k*68,none⟩)),gV (.agg (batC b (.slice A3 n3 c3)).toArray),gB w1 2 61 (batC zeroB (.slice none 0 0)).toArray] 1 [0,1,2] ⟨ixG c Tryz.batsW bn,lmG rZ (t1 q1) (h2:=hL),bxG,trivial⟩ fun a col w2 bY hf hH=>?_;obtain⟨g,u9,hg,_,k9⟩:=gotB hH 2 7;refine tStA (hf.c u9) k9 (batC b (.slice A3 n3 c3)) (by rw[batC_len lZ,List.size_toArray,batC_len zeroB_ok]) (batC_one lZ rfl) hL fun w3 p3 k9=>?_;have b13:Below w1.heap.size w1 w3:=p3.below bY hg;have hT1:=hT0.keep b13;refine WlP (hf.c u9) [cl (k9.at 35 (v:=.slice A3 n3 c3) (by simpa using batC_at lZ _))] [(4,v),(5,u),(7,.pointer (some ⟨g,0,none⟩)),(9,.slice (some ⟨b1,o1,none⟩) n c),(10,.int .i64 n),(11,.int .i64 k),(17,.int .i64 n3),(18,.int .i64 0)] fun a hf=>?_;refine lLoop (fun a w'=>∃(j:Nat) (v u:Value) (T:Nat→Prop),j≤n3∧Fr 49 [(4,v),(5,u),(7,.pointer (some ⟨g,0,none⟩)),(9,.slice (some ⟨b1,o1,none⟩) n c),(10,.int .i64 n),(11,.int .i64 k),(17,.int .i64 n3),(18,.int .i64 j)] a∧(aK w' g 61 (batC b (.slice A3 n3 c3)).toArray∧some g≠v.ownBlock∧some g≠u.ownBlock)∧TwoR (fun _=>True) w w' v u T ((pairs (bs.take k)++pairsB b j).map (·.1)) ((pairs (bs.take k)++pairsB b j).map (·.2))) (fun a _=>n3-(slotI 18 a).toNat) ⟨0,v,u,T,Nat.zero_le _,hf,⟨k9,fun e=>by have:=(hT0.o.lt g e.symm).2;omega,fun e=>by have:=(hT0.p.lt g e.symm).2;omega⟩,by simpa[pairsB] using hT1⟩ ?_;rintro a1 w4 ⟨j,v,u,T,hj,Fj,⟨kg,gv,gu⟩,hT2⟩;have Sm:=pairsB_len b j;by_cases NS:j<n3
  ·obtain⟨b2,o2,r,_,rfl,q2,hy,⟨A4,n4,c4,rfl,ry⟩,e2⟩:=rx.stA NS;have e24:eT w4 ⟨b2,o2+j*3,none⟩ [.int .i64 r.prec,.slice A4 n4 c4,.bool r.doubt]:=e2.keep (aD.of_below hT2.g) (hS _ q2);have t4:∀{b},S b→b<w4.heap.size:=fun h=>Nat.lt_of_lt_of_le (hS _ h) hT2.g.size;have ry4:=ry.below hT2.g hS;have c35:=kg.at 35 (v:=.slice (some ⟨b2,o2,none⟩) n3 c3) (by simpa using batC_at lZ _);refine WlP Fj [tb 0 (ltT NS)] [(4,v),(5,u),(7,.pointer (some ⟨g,0,none⟩)),(9,.slice (some ⟨b1,o1,none⟩) n c),(10,.int .i64 n),(11,.int .i64 k),(17,.int .i64 n3),(18,.int .i64 j),(19,.bool true)] fun a hf=>WlT hf (lBlk (WlP hf [] [(4,v),(5,u),(7,.pointer (some ⟨g,0,none⟩)),(9,.slice (some ⟨b1,o1,none⟩) n c),(10,.int .i64 n),(11,.int .i64 k),(17,.int .i64 n3),(18,.int .i64 j),(8,.int .i64 j)] fun a hf=>?_));refine WlR hf [gV (.pointer (some ⟨g,35,none⟩)),gV (.slice (some ⟨b2,o2,none⟩) n3 c3),gV (.int .i64 j),gV (.pointer (some ⟨b2,o2+j*3,none⟩)),gV (.agg #[.int .i64 r.prec,.slice A4 n4 c4,.bool r.doubt]),gV (.bool (isVoidV r)),gV (.bool (!isVoidV r))] 0 [1,3,4,5] ⟨ldG c35,ixG c3 Tryz.recsW NS,lmG e24 (t4 q2),cvG fun w' xU=>isVoid_ok (S:=S) ⟨_,rfl,A4,n4,c4,rfl,ry4.below xU fun _=>t4⟩ fun b h=>Nat.lt_of_lt_of_le (t4 h) xU.size,trivial⟩ fun a col w5 mE hf _=>?_;have hT5:=hT2.keep mE;have kg5:=kg.keep mE;refine lIfB (b:=!isVoidV r) hf (fun hv=>?_) fun hv=>?_
   ·have hvr:isVoidV r=false:=by simpa using hv
    have hX:∀b,S b→some b≠v.ownBlock:=fun b hb e=>by have:=(hT2.o.lt b e.symm).1;have:=hS b hb;omega
    have hXu:∀b,S b→some b≠u.ownBlock:=fun b hb e=>by have:=(hT2.p.lt b e.symm).1;have:=hS b hb;omega
    have hXW:∀b,v.ownBlock=some b→b<w5.heap.size:=fun b e=>(hT5.o.lt b e).2;have t5:∀{b},S b→b<w5.heap.size:=fun h=>Nat.lt_of_lt_of_le (t4 h) mE.size;have e25:eT w5 ⟨b2,o2+j*3,none⟩ [.int .i64 r.prec,.slice A4 n4 c4,.bool r.doubt]:=e24.keep (aD.of_below mE) (t4 q2);have c35':=kg5.at 35 (v:=.slice (some ⟨b2,o2,none⟩) n3 c3) (by simpa using batC_at lZ _);refine lRX hf v.ownBlock 7 [gV v,gV (.pointer (some ⟨g,35,none⟩)),gV (.slice (some ⟨b2,o2,none⟩) n3 c3),gV (.int .i64 j),gV (.pointer (some ⟨b2,o2+j*3,none⟩)),gV (.agg #[.int .i64 r.prec,.slice A4 n4 c4,.bool r.doubt]),WgW w5 6 42 #[.int .i64 r.prec,.slice A4 n4 c4,.bool r.doubt] 1,WgO w5 v.ownBlock (fun b=>T b∨S b) w.heap.size 42 ((pairs (bs.take k)++pairsB b j).map (·.1)++[r]),gV u,gV (.pointer (some ⟨g,0,none⟩)),gV (.int .i64 b.scan),gV (.pointer (some ⟨g,1,none⟩)),gV (.int .i64 b.num),gV (.int .i64 j),gV (.agg #[.int .i64 b.scan,.int .i64 b.num,.int .i64 j]),WgW w5 15 69 #[.int .i64 b.scan,.int .i64 b.num,.int .i64 j] 1] 3 [2,4,5,6,7,10,12,15] [6,15]
     ⟨ldX c35' gv,ixX c3 Tryz.recsW NS,lmX e25 (t5 q2) (hX _ q2),wrX,WapX (ds:=[.int .i64 r.prec,.slice A4 n4 c4,.bool r.doubt]) 6 Tryz.recsW (hT5.wide fun b hb=>⟨t5 hb,hX b hb⟩) rfl hT5.g.size (Flat.cons (α:=RecV) (ds:=[.int .i64 r.prec,.slice A4 n4 c4,.bool r.doubt]) ⟨A4,n4,c4,rfl,(ry4.below mE fun _=>t4).keep (fun _=>.inr) (aD.refl _ _)⟩ Flat.nil) (fun b hb=>hb.elim (fun q=>(hT5.o.apart b q).1) t5) (by simp[Value.oneCell']) rfl (by simp;omega),ldX (kg5.at 0) gv,ldX (kg5.at 1) gv,wrX,trivial⟩ ⟨mwX hXW,mwX hXW,trivial⟩ fun a col w6 hg6 hf hH=>?_
    obtain⟨gi,ui,_,ki⟩:=gotW hH 15 43;obtain⟨A',n',c',us,o6,q6⟩:=gotO hH 7 35;have hT6:=hT5.first (T:=S) (fun b hb=>⟨trivial,hXu b hb⟩) o6 hg6 q6;have kg6:=kg5.grown hg6 gv;have gv6:some g≠(Value.slice A' n' c').ownBlock:=fun e=>by
     rcases q6 with q|⟨d,q,qd⟩
     ·exact gv (e.trans q)
     ·rw[q] at e;injection e with e;have:=kg5.lt;omega
    refine tAp (α:=ImpV) (ys:=[⟨b.scan,b.num,(j:Nat)⟩]) ((hf.c us).c ui) Tryz.impsW hT6.p hT6.g.size ki (Flat.cons (ds:=[.int .i64 b.scan,.int .i64 b.num,.int .i64 j]) rfl Flat.nil) (by simp[Value.oneCell']) rfl (cc:=1) (by simp;omega) fun A2 n2 c2 w7 o7 g7 q7 a hf=>tPu hf 4 fun a hf=>tPu hf 5 fun a hf=>?_;have hT7:=hT6.second o7 g7 q7;have kg7:=kg6.grown g7 gu;have gu7:some g≠(Value.slice A2 n2 c2).ownBlock:=fun e=>by
     rcases q7 with q|q
     ·exact gu (e.trans q)
     ·rw[q] at e;injection e with e;have:=kg6.lt;omega
    refine WlP hf [tl 0 (wrap1 (k:=j) (by omega))] [(4,.slice A' n' c'),(5,.slice A2 n2 c2),(7,.pointer (some ⟨g,0,none⟩)),(9,.slice (some ⟨b1,o1,none⟩) n c),(10,.int .i64 n),(11,.int .i64 k),(17,.int .i64 n3),(18,.int .i64 (j+1:Nat))] fun a' hf'=>⟨⟨j+1,_,_,_,NS,hf',⟨kg7,gv6,gu7⟩,by rw[pairsB_snoc hy,hvr];simpa using hT7⟩,?_⟩;rw[Fj.slotI (t:=18) (x:=j),hf'.slotI (t:=18) (x:=(j+1:Nat))];omega
   ·have hvr:isVoidV r=true:=by simpa using hv
    refine WlP hf [tl 0 (wrap1 (k:=j) (by omega))] [(4,v),(5,u),(7,.pointer (some ⟨g,0,none⟩)),(9,.slice (some ⟨b1,o1,none⟩) n c),(10,.int .i64 n),(11,.int .i64 k),(17,.int .i64 n3),(18,.int .i64 (j+1:Nat))] fun a' hf'=>⟨⟨j+1,v,u,T,NS,hf',⟨kg5,gv,gu⟩,by rw[pairsB_snoc hy,hvr];simpa using hT5⟩,?_⟩;rw[Fj.slotI (t:=18) (x:=j),hf'.slotI (t:=18) (x:=(j+1:Nat))];omega
  ·refine WlP Fj [tb 0 (ltF NS)] [(4,v),(5,u),(9,.slice (some ⟨b1,o1,none⟩) n c),(10,.int .i64 n),(11,.int .i64 k),(19,.bool false)] fun a hf=>WlF hf (lExit ?_);have hj3:j=b.recs.length:=by omega
   rw[hj3,←pairs_snoc hx] at hT2;refine WlP hf [tl 0 (wrap1 (k:=k) (by omega))] [(4,v),(5,u),(9,.slice (some ⟨b1,o1,none⟩) n c),(10,.int .i64 n),(11,.int .i64 (k+1:Nat))] fun a' hf'=>⟨⟨k+1,v,u,T,bn,hf',hT2⟩,?_⟩;rw[QR.slotI (t:=11) (x:=k),hf'.slotI (t:=11) (x:=(k+1:Nat))];omega
 ·refine WlP QR [tb 0 (ltF bn)] [(4,v),(5,u),(12,.bool false)] fun a hf=>WlF hf (lExit ?_);rw[List.take_of_length_le (by omega)] at hT0;obtain⟨A5,n5,c5,rfl,_⟩:=hT0.o.slice;obtain⟨A6,n6,c6,rfl,_⟩:=hT0.p.slice;exact WlP hf [] [(2,.slice A5 n5 c5),(3,.slice A6 n6 c6)] fun a hf=>lRet (rt2 hf ⟨A5,n5,c5,A6,n6,c6,rfl,hT0.o.rs (fun b hb=>(hT0.o.apart b hb).1) fun k _ h=>h,hT0.p.rs (fun _ h=>h.elim) fun k _ h=>h,hT0.g⟩)
end
theorem impSame (a b c:Int) (w:World):(Op.equalIn 10000 69 (.agg #[.int .i64 a,.int .i64 b,.int .i64 c]) (.agg #[.int .i64 a,.int .i64 b,.int .i64 c])).run Tryz.prog w=.ok true w:=by
 rw[run_equalIn_struct w 9999 69 _ _ (by kernel_rfl) (by kernel_rfl)];simp[Program.fieldsOf,Tryz.underlying69,Op.eqFields,go_sem]
theorem impNeq (x y:Operand) (a b c:Int) (w:World):(do eqGuard .neq 69 x y (.agg #[.int .i64 a,.int .i64 b,.int .i64 c]) (.agg #[.int .i64 a,.int .i64 b,.int .i64 c]);binOp .neq 69 (.agg #[.int .i64 a,.int .i64 b,.int .i64 c]) (.agg #[.int .i64 a,.int .i64 b,.int .i64 c]):Sem Value).run Tryz.prog w=.ok (.bool false) w:=by
 simp only[Sem.run_bind,run_eqGuard_agg w _ _ _ _ _ _ (show Tryz.prog.eqGuardType Tryz.prog.depth 69=false by kernel_rfl),run_neq_struct,impSame,Result.andThen_ok];rfl
theorem short14_small (r:RecV):(short14 r).small:=by
 unfold RecV.small VoteV.small short14;refine⟨?_,fun v hv=>?_⟩
 ·simp only[List.length_map,List.length_take];omega
 ·obtain⟨u,_,rfl⟩:=List.mem_map.1 hv;refine⟨?_,fun l hl=>?_⟩
  ·simp only[List.length_map,List.length_take];omega
  ·obtain⟨y,_,rfl⟩:=List.mem_map.1 hl;rw[List.length_take];omega
theorem short18_le (x:BatchV):(short18 x).recs.length≤6:=by
 unfold short18;simp only[List.length_map,List.length_take];omega
theorem short18_small (x:BatchV):∀r∈(short18 x).recs,r.small:=by
 intro r hr;obtain⟨q,_,rfl⟩:=List.mem_map.1 hr;exact short14_small q
theorem batOne {w:World} {S:Nat→Prop} {cs:List Value} {x:BatchV} (h:bG.rep w S cs x):∀u∈cs,u.oneCell'=true:=by
 obtain⟨ho,A,n,c,rfl,_⟩:=h;exact batC_one ho rfl
section
variable {S:Nat→Prop} {w:World}
set_option maxRecDepth 20000 in
theorem lawAccountRecords_any (haw:∀w',Below w.heap.size w w'→Calls Tryz.prog 10 #[] w' (gy w' (.bool true))) {es:List Value} {A:Option Addr} {n c:Nat} {bs:List BatchV} (Cp:(Tryz.prog.info? 30).map (·.size)=some es.length) (h:RS w S A n c bs) (hS:∀b,S b→b<w.heap.size):Calls Tryz.prog 9 #[.agg es.toArray,.slice A n c] w (gy w (.bool true)):=by
 have ln:=h.len;refine lIn Tryz.func9 [(0,.agg es.toArray),(1,.slice A n c)] fun a hf=>?_;refine WlR hf [gB w 0 30 es.toArray,gV (.bool false)] 0 [0] ⟨bxG,trivial⟩ fun a col w1 bd hf hH=>?_;obtain⟨g,u2,hg,_,k2⟩:=gotB hH 0 2;have h1:=h.below bd hS;have Ct:∀b,S b→b<w1.heap.size:=fun b h=>Nat.lt_of_lt_of_le (hS b h) bd.size;refine WlP (hf.c u2) [] [(1,.slice A n c),(2,.pointer (some ⟨g,0,none⟩)),(5,.slice none 0 0)] fun a hf=>WlP hf [] [(1,.slice A n c),(2,.pointer (some ⟨g,0,none⟩)),(5,.slice none 0 0),(6,.int .i64 0)] fun a hf=>?_;refine lLoop (fun a w'=>∃(k:Nat) (v:Value) (T:Nat→Prop),k≤n∧k≤5∧Fr 81 [(1,.slice A n c),(2,.pointer (some ⟨g,0,none⟩)),(5,v),(6,.int .i64 k)] a∧Own w' T w1.heap.size 61 v ((bs.take k).map short18)∧Below w1.heap.size w1 w') (fun a _=>5-(slotI 6 a).toNat) ⟨0,_,_,Nat.zero_le _,Nat.zero_le _,hf,Own.nil _ _ _,Below.refl _ _⟩ ?_;rintro a0 w2 ⟨k,v,T,hk,mx,QR,dB,bY⟩;by_cases bn:k<n∧k<5
 ·obtain⟨bn,hl5⟩:=bn;obtain⟨b1,o1,x,_,rfl,q1,hx,⟨lZ,A3,n3,c3,rfl,rx⟩,e1⟩:=(h1.below bY Ct).stA bn;have t2:∀{b},S b→b<w2.heap.size:=fun h=>Nat.lt_of_lt_of_le (Ct _ h) bY.size;have hL:(Tryz.prog.info? 61).map (·.size)=some (batC x (.slice A3 n3 c3)).length:=by rw[batC_len lZ];kernel_rfl
  refine WlP QR [tb 3 (ltT bn),tb 6 (ltT (n:=5) hl5)] [(1,.slice (some ⟨b1,o1,none⟩) n c),(2,.pointer (some ⟨g,0,none⟩)),(5,v),(6,.int .i64 k),(19,.bool true)] fun a hf=>WlT hf (lBlk ?_);refine WlR hf [gV v,gV (.slice (some ⟨b1,o1,none⟩) n c),gV (.int .i64 k),gV (.pointer (some ⟨b1,o1+k*68,none⟩)),gV (.agg (batC x (.slice A3 n3 c3)).toArray),gM S w2 99 (short18 x),WgT S w2 99 6 61 (short18 x)] 2 [3,4,5,6]
   ⟨ixG c Tryz.batsW bn,lmG e1 (t2 q1) (h2:=hL),cmG (fun _=>t2) fun w' xU=>short18_ok (S:=S) ⟨_,rfl,lZ,A3,n3,c3,rfl,rx.below xU fun _=>t2⟩ fun b h=>Nat.lt_of_lt_of_le (t2 h) xU.size,rmG 5 Tryz.batsW batOne,trivial⟩ fun a col w3 ey hf hH=>?_
  obtain⟨gr,ds,ur,kr,CP,Ec⟩:=gotT hH 6 28;have hT:∀b,((S b∧b<w2.heap.size)∨RD w2 99 col w3 b)→b<w3.heap.size∧some b≠v.ownBlock:=fun b hb=>by
   have h1:=ey.size;have h2:=bY.size;refine⟨hb.elim (fun q=>Nat.lt_of_lt_of_le q.2 h1) (·.2.1),fun e=>?_⟩;have h4:=dB.lt b e.symm;rcases hb with hb|hb
   ·have:=Ct _ hb.1;omega
   ·have:=hb.1;omega
  have uT:=dB.below ey;refine tAp (hf.c ur) Tryz.batsW (uT.widen (S':=fun b=>T b∨((S b∧b<w2.heap.size)∨RD w2 99 col w3 b)) (fun _=>.inl) fun b hb=>hb.elim (uT.apart b) (hT b)) (Nat.le_trans bY.size ey.size) kr (CP.keep (fun _=>.inr) (aD.refl _ _)) Ec rfl (cc:=1) (by simp;omega) fun A' n' c' w4 o4 g4 q4 a hf=>tPu hf 5 fun a hf=>?_;rw[←List.map_singleton (f:=short18),←List.map_append,←du hx] at o4;refine WlP hf [tl 1 (wrap1 (k:=k) (by omega))] [(1,.slice (some ⟨b1,o1,none⟩) n c),(2,.pointer (some ⟨g,0,none⟩)),(5,.slice A' n' c'),(6,.int .i64 (k+1:Nat))] fun a' hf'=>⟨⟨k+1,_,_,bn,hl5,hf',o4,(bY.trans (ey.mono bY.size)).grown g4 (Nat.le_trans bY.size ey.size) fun q e=>(uT.lt q e).1⟩,?_⟩;rw[QR.slotI (t:=6) (x:=k),hf'.slotI (t:=6) (x:=(k+1:Nat))];omega
 ·refine lPE QR [(2,.pointer (some ⟨g,0,none⟩)),(5,v),(19,.bool false)] (by
   by_cases q:k<n
   ·exact⟨[tb 3 (ltT q),tb 6 (ltF (k:=k) (n:=5) (by omega))],by kernel_rfl,by kernel_rfl⟩
   ·exact⟨[tb 3 (ltF q)],by kernel_rfl,by kernel_rfl⟩) fun a hf=>WlF hf (lExit ?_)
  have ww:bs.take k=bs.take 5:=by rw[show k=min n 5 by omega,take_min ln]
  rw[ww] at dB;obtain⟨A5,n5,c5,rfl,_⟩:=dB.slice;have r5:RS w2 (·<w2.heap.size) A5 n5 c5 ((bs.take 5).map short18):=dB.rs (fun b hb=>(dB.apart b hb).1) fun k _ h=>h;have l5:=r5.len;have k22:=k2.keep bY;have hb2':=ae bd bY;have hN:n5≤5:=by rw[←l5,List.length_map,List.length_take];omega
  have hP6:∀b∈(bs.take 5).map short18,b.recs.length≤6:=fun b hb=>by
   obtain⟨x,_,rfl⟩:=List.mem_map.1 hb;exact short18_le x
  have hPs:∀b∈(bs.take 5).map short18,∀r∈b.recs,r.small:=fun b hb=>by
   obtain⟨x,_,rfl⟩:=List.mem_map.1 hb;exact short18_small x
  generalize (bs.take 5).map short18=bs5 at r5 l5 hP6 hPs;refine WlR hf [gV (.agg es.toArray),gV (.slice A5 n5 c5)] 6 [0] ⟨lmG k22.cat k22.lt (h2:=Cp),trivial⟩ fun a col w3 ey hf _=>tCall hf (records_ok (es:=es) (r5.keep (S':=(·<w3.heap.size)) (fun b h=>Nat.lt_of_lt_of_le h ey.size) (aD.of_below ey)) (fun _ h=>h) hN hP6 hPs) fun e w4 he=>?_;obtain⟨A7,n7,c7,A8,n8,c8,rfl,r7,r8,fa⟩:=he;refine⟨_,rfl,tPu (hf.put 33 (.tuple #[.slice A7 n7 c7,.slice A8 n8 c8]) (by decide)) 30 fun a hf=>tPu hf 34 fun a hf=>tPu hf 35 fun a hf=>tPu hf 7 fun a hf=>tPu hf 8 fun a hf=>?_⟩;have hb24:=ey.trans (fa.mono ey.size);have hs4:=hb24.size;refine WlR (hf.sub [(5,.slice A5 n5 c5),(7,.slice A7 n7 c7),(8,.slice A8 n8 c8)]) [gV (.slice A5 n5 c5)] 6 [] trivial fun a col w5 mE hf _=>tCall hf (refRecords_ok (r5.keep (S':=(·<w5.heap.size)) (fun b h=>Nat.lt_of_lt_of_le h (Nat.le_trans hs4 mE.size)) (aD.of_below (hb24.trans (mE.mono hs4)))) (fun _ h=>h) hN hP6) fun e w6 he=>?_;obtain⟨A9,n9,c9,A10,n10,VZ,rfl,r9,r10,kC⟩:=he;refine⟨_,rfl,tPu (hf.put 38 (.tuple #[.slice A9 n9 c9,.slice A10 n10 VZ]) (by decide)) 36 fun a hf=>tPu hf 39 fun a hf=>tPu hf 40 fun a hf=>tPu hf 9 fun a hf=>tPu hf 10 fun a hf=>?_⟩;have hb46:=mE.trans (kC.mono mE.size);have bA:Below w.heap.size w w6:=ae (ae hb2' hb24) hb46;have r7:=r7.keep (S':=(·<w6.heap.size)) (fun b h=>Nat.lt_of_lt_of_le h hb46.size) (aD.of_below hb46);have r8:=r8.keep (S':=(·<w6.heap.size)) (fun b h=>Nat.lt_of_lt_of_le h hb46.size) (aD.of_below hb46);generalize hN7:(pairs bs5).length=N;have l7:=r7.len;have l8:=r8.len;have l9:=r9.len;have l10:=r10.len;rw[List.length_map,hN7] at l7 l8 l9 l10;subst l7 l8 l9 l10;refine WlP hf [tb 4 (neF (x:=(N:Int)) (y:=(N:Int)) rfl),tb 10 (neF (x:=(N:Int)) (y:=(N:Int)) rfl)] [(7,.slice A7 N c7),(8,.slice A8 N c8),(9,.slice A9 N c9),(10,.slice A10 N VZ),(52,.bool false)] fun a hf=>WlF hf ?_;have hm:=r7.max;refine WlP hf [] [(7,.slice A7 N c7),(8,.slice A8 N c8),(9,.slice A9 N c9),(10,.slice A10 N VZ),(54,.int .i64 N),(55,.int .i64 0)] fun a hf=>?_;refine lLoop (fun a w'=>∃i:Nat,i≤N∧Fr 81 [(7,.slice A7 N c7),(8,.slice A8 N c8),(9,.slice A9 N c9),(10,.slice A10 N VZ),(54,.int .i64 N),(55,.int .i64 i)] a∧Below w6.heap.size w6 w') (fun a _=>N-(slotI 55 a).toNat) ⟨0,Nat.zero_le _,hf,Below.refl _ _⟩ ?_;rintro a7 w7 ⟨i,hi,hf7,uZ⟩;by_cases YE:i<N
  ·obtain⟨p1,o1,x,_,rfl,d1,hx,⟨B1,m1,z1,rfl,rx⟩,e1⟩:=(r7.below uZ fun _ h=>h).stA YE;obtain⟨p2,o2,y,_,rfl,d2,hy,⟨B2,m2,z2,rfl,ry⟩,e2⟩:=(r9.below uZ fun _ h=>h).stA YE;obtain⟨p3,o3,u,_,rfl,d3,hu,rfl,e3⟩:=(r8.below uZ fun _ h=>h).stA YE;obtain⟨p4,o4,v,_,rfl,d4,hv,rfl,e4⟩:=(r10.below uZ fun _ h=>h).stA YE;obtain rfl:x=y:=Option.some.inj (hx.symm.trans hy);obtain rfl:u=v:=Option.some.inj (hu.symm.trans hv);have hs7:=uZ.size;refine WlP hf7 [tb 0 (ltT YE)] [(7,.slice (some ⟨p1,o1,none⟩) N c7),(8,.slice (some ⟨p3,o3,none⟩) N c8),(9,.slice (some ⟨p2,o2,none⟩) N c9),(10,.slice (some ⟨p4,o4,none⟩) N VZ),(54,.int .i64 N),(55,.int .i64 i),(56,.bool true)] fun a hf=>WlT hf (lBlk (WlP hf [] [(7,.slice (some ⟨p1,o1,none⟩) N c7),(8,.slice (some ⟨p3,o3,none⟩) N c8),(9,.slice (some ⟨p2,o2,none⟩) N c9),(10,.slice (some ⟨p4,o4,none⟩) N VZ),(54,.int .i64 N),(55,.int .i64 i),(11,.int .i64 i)] fun a hf=>?_));have rx':=fun w' (xU:Below w7.heap.size w7 w')=>rx.below xU fun _ h=>Nat.lt_of_lt_of_le h hs7;have ry':=fun w' (xU:Below w7.heap.size w7 w')=>ry.below xU fun _ h=>Nat.lt_of_lt_of_le h hs7;refine WlR hf [gV (.slice (some ⟨p1,o1,none⟩) N c7),gV (.int .i64 i),gV (.pointer (some ⟨p1,o1+i*3,none⟩)),gV (.agg #[.int .i64 x.prec,.slice B1 m1 z1,.bool x.doubt]),gV (.slice (some ⟨p2,o2,none⟩) N c9),gV (.int .i64 i),gV (.pointer (some ⟨p2,o2+i*3,none⟩)),gV (.agg #[.int .i64 x.prec,.slice B2 m2 z2,.bool x.doubt]),gV (.bool true),gV (.bool false),gV (.bool false),
    gV (.slice (some ⟨p3,o3,none⟩) N c8),gV (.int .i64 i),gV (.pointer (some ⟨p3,o3+i*3,none⟩)),gV (.agg #[.int .i64 u.scan,.int .i64 u.batch,.int .i64 u.place]),gV (.slice (some ⟨p4,o4,none⟩) N VZ),gV (.int .i64 i),gV (.pointer (some ⟨p4,o4+i*3,none⟩)),gV (.agg #[.int .i64 u.scan,.int .i64 u.batch,.int .i64 u.place]),gV (.bool false)] 1 [2,3,6,7,8,13,14,17,18,19]
    ⟨ixG c7 Tryz.recsW YE,lmG e1 (Nat.lt_of_lt_of_le d1 hs7),ixG c9 Tryz.recsW YE,lmG e2 (Nat.lt_of_lt_of_le d2 hs7),cvG fun w' xU=>(decide_eq_true (rfl:x=x))▸eq14_ok (S:=(·<w6.heap.size)) (S2:=(·<w6.heap.size)) ⟨_,rfl,B1,m1,z1,rfl,rx' w' xU⟩ ⟨_,rfl,B2,m2,z2,rfl,ry' w' xU⟩ (fun b h=>Nat.lt_of_lt_of_le h (Nat.le_trans hs7 xU.size)) (fun b h=>Nat.lt_of_lt_of_le h (Nat.le_trans hs7 xU.size)), ixG c8 Tryz.impsW YE,lmG e3 (Nat.lt_of_lt_of_le d3 hs7),ixG VZ Tryz.impsW YE,lmG e4 (Nat.lt_of_lt_of_le d4 hs7),rnG (impNeq (.tmp 72) (.tmp 76) u.scan u.batch u.place),trivial⟩ fun a col w8 oy hf _=>tPu hf 78 fun a hf=>WlF hf (WlP hf [tl 0 (wrap1 (k:=i) (by have:=r7.max;omega))] [(7,.slice (some ⟨p1,o1,none⟩) N c7),(8,.slice (some ⟨p3,o3,none⟩) N c8),(9,.slice (some ⟨p2,o2,none⟩) N c9),(10,.slice (some ⟨p4,o4,none⟩) N VZ),(54,.int .i64 N),(55,.int .i64 (i+1:Nat))] fun a' hf'=>⟨⟨i+1,YE,hf',uZ.trans (oy.mono uZ.size)⟩,?_⟩)
   rw[hf7.slotI (t:=55) (x:=i),hf'.slotI (t:=55) (x:=(i+1:Nat))];omega
  ·refine WlP hf7 [tb 0 (ltF YE)] [(56,.bool false)] fun a hf=>WlF hf (lExit ?_);refine WlR hf [gV (.bool true),gV (.bool true)] 0 [0] ⟨cvG fun w' xU=>haw w' (ae (ae bA uZ) xU),trivial⟩ fun a col w8 oy hf _=>lRet (rt1 hf ⟨rfl,ae (ae bA uZ) oy⟩)
end
theorem trodAt {P:Program} {H:Type} {enc:TypeId×Value→H} {w:World} {base:Nat} {spare:Nat→Bool} {held:Bool} {n:Nat} {fs:Array Field} {cs:List Value} {xs:List (DataW H×List MemPlace)} (hf:∀(i:Nat) (f:Field),fs[i]?=some f→DataW.trod enc P w base spare held n f.type ((cs.drop f.offset).take (P.cellsOf f.type))=xs[i]?) (i:Nat) {f:Field} (hi:fs[i]?=some f) (k m:Nat) (ho:f.offset=k) (hc:P.cellsOf f.type=m) (l:List Value) (hl:(cs.drop k).take m=l) (y:DataW H×List MemPlace) (hy:xs[i]?=some y):DataW.trod enc P w base spare held n f.type l=some y:=by
 have h:=hf i f hi;rw[ho,hc,hl,hy] at h;exact h
theorem unconsA' {α:Type} {n:Nat} {l:List α} (h:l.length=n+1):∃v m,l=v::m∧m.length=n:=by
 cases l with
 | nil=>cases h
 | cons v m=>exact⟨v,m,rfl,by simpa using h⟩
theorem Tryz.openIntR:wQ Tryz.prog 3 Int:=Qe Tryz.underlying3
theorem Tryz.openBoolR:wQ Tryz.prog 4 Bool:=Nh Tryz.underlying4
theorem Tryz.openRowsR:wQ Tryz.prog 91 (List (List Int)):=Ks Tryz.underlying91 (by kernel_rfl) (by show 0<1;omega) (Ks Tryz.underlying84 (by kernel_rfl) (by show 0<1;omega) Tryz.openIntR)
instance:Fits VoteV:=⟨fun _=>True⟩
instance:Fits RecV:=⟨fun _=>True⟩
instance:Fits BatchV:=⟨fun _=>True⟩
theorem Tryz.openVote:wQ Tryz.prog 93 VoteV:=by
 intro H enc w base spare held fuel cs x h;obtain⟨hl,Xj⟩:=J6 Tryz.underlying93 (by kernel_rfl) h;have hC:Tryz.prog.cellsOf 93=2:=by kernel_rfl
 match cs,hl.trans hC with
 | [c0,c1],_=>
  obtain⟨_,_,h0⟩:=Xj 0 _ c0 rfl rfl;obtain⟨_,_,h1⟩:=Xj 1 _ c1 rfl rfl;obtain⟨x0,e0,_⟩:=Tryz.openIntR _ _ _ _ _ _ _ _ _ h0;obtain⟨x1,⟨A1,n1,k1,e1,r1⟩,_⟩:=Tryz.openRowsR _ _ _ _ _ _ _ _ _ h1;obtain rfl:c0=.int .i64 x0:=by injection e0
  obtain rfl:c1=.slice A1 n1 k1:=by injection e1
  exact⟨⟨x0,x1⟩,⟨A1,n1,k1,rfl,r1⟩,trivial⟩
theorem Tryz.openVotes:wQ Tryz.prog 40 (List VoteV):=Ks Tryz.underlying40 (by kernel_rfl) (by show 0<2;omega) Tryz.openVote
theorem Tryz.openRec:wQ Tryz.prog 42 RecV:=by
 intro H enc w base spare held fuel cs x h;obtain⟨hl,Xj⟩:=J6 Tryz.underlying42 (by kernel_rfl) h;have hC:Tryz.prog.cellsOf 42=3:=by kernel_rfl
 match cs,hl.trans hC with
 | [c0,c1,c2],_=>
  obtain⟨_,_,h0⟩:=Xj 0 _ c0 rfl rfl;obtain⟨_,_,h1⟩:=Xj 1 _ c1 rfl rfl;obtain⟨_,_,h2⟩:=Xj 2 _ c2 rfl rfl;obtain⟨x0,e0,_⟩:=Tryz.openIntR _ _ _ _ _ _ _ _ _ h0;obtain⟨x1,⟨A1,n1,k1,e1,r1⟩,_⟩:=Tryz.openVotes _ _ _ _ _ _ _ _ _ h1;obtain⟨x2,e2,_⟩:=Tryz.openBoolR _ _ _ _ _ _ _ _ _ h2;obtain rfl:c0=.int .i64 x0:=by injection e0
  obtain rfl:c1=.slice A1 n1 k1:=by injection e1
  obtain rfl:c2=.bool x2:=by injection e2
  exact⟨⟨x0,x1,x2⟩,⟨A1,n1,k1,rfl,r1⟩,trivial⟩
theorem Tryz.openRecs:wQ Tryz.prog 35 (List RecV):=Ks Tryz.underlying35 (by kernel_rfl) (by show 0<3;omega) Tryz.openRec
set_option maxRecDepth 20000 in
theorem Tryz.openDig {H:Type} {enc:TypeId×Value→H} {w:World} {base:Nat} {spare:Nat→Bool} {held:Bool} {fuel:Nat} {cs:List Value} {x:DataW H×List MemPlace} (h:DataW.trod enc Tryz.prog w base spare held fuel 59 cs=some x):cs.length=32∧∀u∈cs,u.oneCell'=true:=by
 obtain⟨xs,m,rfl,_,hl,sR,hi⟩:=DataW.trod_array Tryz.underlying59 h;have hC:Tryz.prog.cellsOf 59=32:=by kernel_rfl
 have hl2:=hl.trans hC;refine⟨hl2,fun u hu=>?_⟩;obtain⟨j,hj,rfl⟩:=List.getElem_of_mem hu;have h1:=hi j (by omega);have hC1:Tryz.prog.cellsOf 5=1:=by kernel_rfl
 rw[hC1,Nat.mul_one,List.getElem?_eq_getElem (by omega),vM (List.getElem?_eq_getElem hj)] at h1;obtain⟨b,hb,_⟩:=acq Tryz.underlying5 _ _ _ _ _ _ _ _ _ h1;have xU:[cs[j]]=[Value.int .u8 (b.toNat:Int)]:=hb;injection xU with xU
 rw[xU];rfl
set_option maxRecDepth 20000 in
theorem Tryz.openBatch:wQ Tryz.prog 61 BatchV:=by
 intro H enc w base spare held fuel cs x h;obtain⟨xs,n,_,rfl,hl,sR,hf⟩:=DataW.trod_struct Tryz.underlying61 h;have hC:Tryz.prog.cellsOf 61=68:=by kernel_rfl
 have hX:xs.length=6:=sR;have hL:=hl.trans hC;obtain⟨y0,xs,rfl,Vw⟩:=unconsA' hX;obtain⟨y1,xs,rfl,Vv⟩:=unconsA' Vw;obtain⟨y2,xs,rfl,Vu⟩:=unconsA' Vv;obtain⟨y3,xs,rfl,hX4⟩:=unconsA' Vu;obtain⟨y4,xs,rfl,hX5⟩:=unconsA' hX4;obtain⟨y5,xs,rfl,hX6⟩:=unconsA' hX5;obtain⟨c0,cs,rfl,hL1⟩:=unconsA' hL;obtain⟨c1,cs,rfl,QX⟩:=unconsA' hL1;obtain⟨c2,cs,rfl,hL3⟩:=unconsA' QX;obtain⟨x0,e0,_⟩:=Tryz.openIntR _ _ _ _ _ _ _ _ _ (trodAt hf 0 rfl 0 1 rfl (by kernel_rfl) [c0] rfl y0 rfl);obtain⟨x1,e1,_⟩:=Tryz.openIntR _ _ _ _ _ _ _ _ _ (trodAt hf 1 rfl 1 1 rfl (by kernel_rfl) [c1] rfl y1 rfl);obtain⟨x2,e2,_⟩:=Tryz.openBoolR _ _ _ _ _ _ _ _ _ (trodAt hf 2 rfl 2 1 rfl (by kernel_rfl) [c2] rfl y2 rfl);obtain rfl:c0=.int .i64 x0:=by injection e0
 obtain rfl:c1=.int .i64 x1:=by injection e1
 obtain rfl:c2=.bool x2:=by injection e2
 obtain⟨l3,o3⟩:=Tryz.openDig (trodAt hf 3 rfl 3 32 rfl (by kernel_rfl) (cs.take 32) rfl y3 rfl);obtain⟨l5,o5⟩:=Tryz.openDig (trodAt hf 5 rfl 36 32 rfl (by kernel_rfl) ((cs.drop 33).take 32) rfl y5 rfl);obtain⟨c3,ds,hc3,hL4⟩:=unconsA' (show(cs.drop 32).length=32+1 by rw[List.length_drop];omega);obtain⟨x4,⟨A4,n4,k4,e4,r4⟩,_⟩:=Tryz.openRecs _ _ _ _ _ _ _ _ _ (trodAt hf 4 rfl 35 1 rfl (by kernel_rfl) [c3] (by show(cs.drop 32).take 1=_;rw[hc3];rfl) y4 rfl);obtain rfl:c3=.slice A4 n4 k4:=by injection e4
 have hds:ds=(cs.drop 33).take 32:=by
  have:cs.drop 33=ds:=by rw[show 33=32+1 from rfl,←List.drop_drop,hc3];rfl
  rw[this,List.take_of_length_le (by omega)]
 refine⟨⟨x0,x1,x2,cs.take 32,x4,(cs.drop 33).take 32⟩,⟨⟨l3,l5,fun u hu=>?_⟩,A4,n4,k4,?_,r4⟩,trivial⟩
 ·rcases List.mem_append.1 hu with h|h
  ·exact o3 u h
  ·exact o5 u h
 ·show _::_::_::cs=_::_::_::(cs.take 32++_::(cs.drop 33).take 32);rw[←hds,←hc3,List.take_append_drop]
theorem Tryz.openBatches:wQ Tryz.prog 57 (List BatchV):=Ks Tryz.underlying57 (by kernel_rfl) (by show 0<68;omega) Tryz.openBatch
end Go.Proofs.YtjlhbfbdcfajfaaGreatDoor
