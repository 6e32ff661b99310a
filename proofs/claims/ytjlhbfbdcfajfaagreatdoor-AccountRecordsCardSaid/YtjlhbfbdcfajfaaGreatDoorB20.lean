/- Same3 -/
import Derived.Test.YtjlhbfbdcfajfaaGreatDoorB19
import Derived.Deep.DeepCutAuto
namespace Go.Proofs.YtjlhbfbdcfajfaaGreatDoor
open Go.RowKit
theorem RS.load_at {α:Type} [bG α] {w:World} {S:Nat→Prop} {A:Option Addr} {n c:Nat} {xs:List α} (h:RS w S A n c xs) (hS:∀b,S b→b<w.heap.size) {k:Nat} (hk:k<n) : ∃b o x cs,A=some ⟨b,o,none⟩∧S b∧xs[k]?=some x∧bG.rep w S cs x∧∀w',Below w.heap.size w w'→(∀u,cs[0]?=some u→w'.cell? ⟨b,o+k*bG.sz α,none⟩=some u)∧∀j u,cs[j]?=some u→w'.cell? ⟨b,o+k*bG.sz α+j,none⟩=some u:=by
 obtain⟨b,o,x,cs,rfl,hb,hx,hr,hc⟩:=h.at_ hk;have sC:∀w',Below w.heap.size w w'→∀j u,cs[j]?=some u→w'.cell? ⟨b,o+k*bG.sz α+j,none⟩=some u:=by
  intro w' hw j u hj;rw[←hc j u hj,←Nat.add_assoc];exact hw.cell (p:=⟨b,o+k*bG.sz α+j,none⟩) (hS b hb)
 exact⟨b,o,x,cs,rfl,hb,hx,hr,fun w' hw=>⟨fun u hu=>sC w' hw 0 u hu,sC w' hw⟩⟩
theorem I9 {α:Type} {f:α→α→Bool}:∀{xs ys:List α},xs.length≠ys.length→lG f xs ys=false
 | [],[],h=>absurd rfl h
 | [],_::_,_=>rfl
 | _::_,[],_=>rfl
 | x::l,y::m,h=>by
  have:l.length≠m.length:=fun e=>h (by simp[e]);rw[lG,I9 this,Bool.and_false]
theorem bR {α:Type} {xs:List α} {k:Nat} {x:α} (h:xs[k]?=some x):xs.drop k=x::xs.drop (k+1):=by
 obtain⟨hk,rfl⟩:=List.getElem?_eq_some_iff.1 h;exact List.drop_eq_getElem_cons hk
set_option maxRecDepth 20000 in
set_option maxHeartbeats 2000000 in
theorem IX {w:World} {S S2:Nat→Prop} {A A2:Option Addr} {n c n2 c2:Nat} {xs ys:List ay} (h:RS w S A n c xs) (h2:RS w S2 A2 n2 c2 ys) (hS:∀b,S b→b<w.heap.size) (eF:∀b,S2 b→b<w.heap.size) : Calls Tryz.prog 77 #[.slice A n c,.slice A2 n2 c2,.func (.func 78) #[] #[]] w (gy w (.bool (lG bf xs ys))):=by
 obtain⟨z,hz⟩:∃z,lG bf xs ys=z:=⟨_,rfl⟩;rw[hz];have eh:=hz.symm;have hl1:=h.len;have hl2:=h2.len;have Cn:=h.max;have xR:=h2.max;have dA:n≠n2→z=false:=fun e=>by rw[eh];exact I9 (by rw[hl1,hl2];exact e)
 have H1:=zH h;have H2:=zH h2;have HZ:=zH eh;have vw:=zH hl1;have ua:=zH hl2;have kV:=zH dA;clear h h2 hz eh hl1 hl2 dA;go_enter Tryz.func77,Tryz.ntmps77;by_cases hn:n=n2
 case neg=>
  have av:=kV.out hn;have bm:=zH av;have hb:((n:Int)==(n2:Int))=false:=by rw[beq_eq_false_iff_ne];omega
  have bY:(n==n2)=false:=by rw[beq_eq_false_iff_ne];exact hn
  clear av hn kV;go_wp2_with fail;go_ret
  exact⟨by rw[bm.out];rfl,Below.refl _ _⟩
 subst hn;clear kV;go_wp2_with fail;go_loopw [17] (fun iv wr=>∃k:Nat,iv=.int .i64 k∧k≤n∧z=lG bf (xs.drop k) (ys.drop k)∧Below w.heap.size w wr) (fun iv _=>n-(intOf iv).toNat)
 case atStart=>exact⟨0,rfl,Nat.zero_le _,by simpa using HZ.out,Below.refl _ _⟩
 case round=>
  clear HZ;obtain⟨k,rfl,hk,pF,hb⟩:=hrel;have ql:=zH pF;have HB:=zH hb;have HR:=zH (H1.out.below hb hS);have sW:=zH (H2.out.below hb eF);clear pF hb;by_cases bn:k<n
  ·have dK:(k:Int)<(n:Int):=by omega
   obtain⟨b,o,x,cs,rfl,yR,hx,hr,jG⟩:=HR.out.load_at (fun b h=>Nat.lt_of_lt_of_le (hS b h) HB.out.size) bn;obtain⟨b2,o2,y,I1,rfl,YX,D6,ri,Eg⟩:=sW.out.load_at (fun b h=>Nat.lt_of_lt_of_le (eF b h) HB.out.size) bn;have gO:(k:Int)≤(c:Int):=by have:=HR.out.cap;omega
   have xp:(k:Int)≤(c2:Int):=by have:=sW.out.cap;omega
   have eQ:z=(bf x y&&lG bf (xs.drop (k+1)) (ys.drop (k+1))):=by rw[ql.out,bR hx,bR D6];rfl
   have fy:=zH eQ;obtain⟨z1,Nu⟩:∃q,bf x y=q:=⟨_,rfl⟩;rw[Nu] at eQ;have HZE:=zH Nu;clear Nu;have fy:=zH eQ;obtain⟨A3,n3,c3,rfl,x1⟩:=hr;obtain⟨A4,n4,c4,rfl,x2⟩:=ri;have bd:Below wr.heap.size wr (wr.alloc (.cells #[.string x.name,.slice A3 n3 c3,.int .i64 x.method,.int .i64 x.seats,.int .i64 x.ranks,.int .i64 x.digits,.int .i64 x.ties,.int .i64 x.over,.int .i64 x.skip] 95)):=(Below.refl _ _).alloc (Nat.le_refl _) _;have dy:aK (wr.alloc (.cells #[.string x.name,.slice A3 n3 c3,.int .i64 x.method,.int .i64 x.seats,.int .i64 x.ranks,.int .i64 x.digits,.int .i64 x.ties,.int .i64 x.over,.int .i64 x.skip] 95)) wr.heap.size 95 #[.string x.name,.slice A3 n3 c3,.int .i64 x.method,.int .i64 x.seats,.int .i64 x.ranks,.int .i64 x.digits,.int .i64 x.ties,.int .i64 x.over,.int .i64 x.skip]:=aK.new _ _ _;have eQ:(wr.alloc (.cells #[.string x.name,.slice A3 n3 c3,.int .i64 x.method,.int .i64 x.seats,.int .i64 x.ranks,.int .i64 x.digits,.int .i64 x.ties,.int .i64 x.over,.int .i64 x.skip] 95)).heap.size=wr.heap.size+1:=by simp
   obtain⟨w1,bj⟩:∃q,wr.alloc (.cells #[.string x.name,.slice A3 n3 c3,.int .i64 x.method,.int .i64 x.seats,.int .i64 x.ranks,.int .i64 x.digits,.int .i64 x.ties,.int .i64 x.over,.int .i64 x.skip] 95)=q:=⟨_,rfl⟩;rw[bj] at bd dy eQ;have bY:Below wr.heap.size wr (w1.alloc (.cells #[.string y.name,.slice A4 n4 c4,.int .i64 y.method,.int .i64 y.seats,.int .i64 y.ranks,.int .i64 y.digits,.int .i64 y.ties,.int .i64 y.over,.int .i64 y.skip] 95)):=bd.alloc (by omega) _;have fM:aK (w1.alloc (.cells #[.string y.name,.slice A4 n4 c4,.int .i64 y.method,.int .i64 y.seats,.int .i64 y.ranks,.int .i64 y.digits,.int .i64 y.ties,.int .i64 y.over,.int .i64 y.skip] 95)) (wr.heap.size+1) 95 #[.string y.name,.slice A4 n4 c4,.int .i64 y.method,.int .i64 y.seats,.int .i64 y.ranks,.int .i64 y.digits,.int .i64 y.ties,.int .i64 y.over,.int .i64 y.skip]:=aK.new' eQ _ _;have pk:=dy.alloc (.cells #[.string y.name,.slice A4 n4 c4,.int .i64 y.method,.int .i64 y.seats,.int .i64 y.ranks,.int .i64 y.digits,.int .i64 y.ties,.int .i64 y.over,.int .i64 y.skip] 95);obtain⟨w2,jY⟩:∃q,w1.alloc (.cells #[.string y.name,.slice A4 n4 c4,.int .i64 y.method,.int .i64 y.seats,.int .i64 y.ranks,.int .i64 y.digits,.int .i64 y.ties,.int .i64 y.over,.int .i64 y.skip] 95)=q:=⟨_,rfl⟩;rw[jY] at bY fM pk;have dT:=jG wr (Below.refl _ _);have qB:=Eg w1 bd;have p0:w2.cell? ⟨wr.heap.size,0,none⟩=some (.string x.name):=pk.cell 0;have p1:w2.cell? ⟨wr.heap.size,1,none⟩=some (.slice A3 n3 c3):=pk.cell 1;have p2:w2.cell? ⟨wr.heap.size,2,none⟩=some (.int .i64 x.method):=pk.cell 2;have p3:w2.cell? ⟨wr.heap.size,3,none⟩=some (.int .i64 x.seats):=pk.cell 3;have p4:w2.cell? ⟨wr.heap.size,4,none⟩=some (.int .i64 x.ranks):=pk.cell 4;have p5:w2.cell? ⟨wr.heap.size,5,none⟩=some (.int .i64 x.digits):=pk.cell 5;have p6:w2.cell? ⟨wr.heap.size,6,none⟩=some (.int .i64 x.ties):=pk.cell 6;have p7:w2.cell? ⟨wr.heap.size,7,none⟩=some (.int .i64 x.over):=pk.cell 7;have p8:w2.cell? ⟨wr.heap.size,8,none⟩=some (.int .i64 x.skip):=pk.cell 8;have q0:w2.cell? ⟨wr.heap.size+1,0,none⟩=some (.string y.name):=fM.cell 0;have q1:w2.cell? ⟨wr.heap.size+1,1,none⟩=some (.slice A4 n4 c4):=fM.cell 1;have q2:w2.cell? ⟨wr.heap.size+1,2,none⟩=some (.int .i64 y.method):=fM.cell 2;have q3:w2.cell? ⟨wr.heap.size+1,3,none⟩=some (.int .i64 y.seats):=fM.cell 3;have q4:w2.cell? ⟨wr.heap.size+1,4,none⟩=some (.int .i64 y.ranks):=fM.cell 4;have q5:w2.cell? ⟨wr.heap.size+1,5,none⟩=some (.int .i64 y.digits):=fM.cell 5;have q6:w2.cell? ⟨wr.heap.size+1,6,none⟩=some (.int .i64 y.ties):=fM.cell 6;have q7:w2.cell? ⟨wr.heap.size+1,7,none⟩=some (.int .i64 y.over):=fM.cell 7;have q8:w2.cell? ⟨wr.heap.size+1,8,none⟩=some (.int .i64 y.skip):=fM.cell 8;have r0:wr.cell? ⟨b,o+k*9,none⟩=some (.string x.name):=dT.1 _ rfl;have r1:wr.cell? ⟨b,o+k*9+1,none⟩=some (.slice A3 n3 c3):=dT.2 1 _ rfl;have r2:wr.cell? ⟨b,o+k*9+2,none⟩=some (.int .i64 x.method):=dT.2 2 _ rfl;have r3:wr.cell? ⟨b,o+k*9+3,none⟩=some (.int .i64 x.seats):=dT.2 3 _ rfl;have r4:wr.cell? ⟨b,o+k*9+4,none⟩=some (.int .i64 x.ranks):=dT.2 4 _ rfl;have r5:wr.cell? ⟨b,o+k*9+5,none⟩=some (.int .i64 x.digits):=dT.2 5 _ rfl;have r6:wr.cell? ⟨b,o+k*9+6,none⟩=some (.int .i64 x.ties):=dT.2 6 _ rfl;have r7:wr.cell? ⟨b,o+k*9+7,none⟩=some (.int .i64 x.over):=dT.2 7 _ rfl;have r8:wr.cell? ⟨b,o+k*9+8,none⟩=some (.int .i64 x.skip):=dT.2 8 _ rfl;have s0:w1.cell? ⟨b2,o2+k*9,none⟩=some (.string y.name):=qB.1 _ rfl;have s1:w1.cell? ⟨b2,o2+k*9+1,none⟩=some (.slice A4 n4 c4):=qB.2 1 _ rfl;have s2:w1.cell? ⟨b2,o2+k*9+2,none⟩=some (.int .i64 y.method):=qB.2 2 _ rfl;have s3:w1.cell? ⟨b2,o2+k*9+3,none⟩=some (.int .i64 y.seats):=qB.2 3 _ rfl;have s4:w1.cell? ⟨b2,o2+k*9+4,none⟩=some (.int .i64 y.ranks):=qB.2 4 _ rfl;have s5:w1.cell? ⟨b2,o2+k*9+5,none⟩=some (.int .i64 y.digits):=qB.2 5 _ rfl;have s6:w1.cell? ⟨b2,o2+k*9+6,none⟩=some (.int .i64 y.ties):=qB.2 6 _ rfl;have s7:w1.cell? ⟨b2,o2+k*9+7,none⟩=some (.int .i64 y.over):=qB.2 7 _ rfl;have s8:w1.cell? ⟨b2,o2+k*9+8,none⟩=some (.int .i64 y.skip):=qB.2 8 _ rfl;have sC:=(Dl (w:=w2) (S:=S) (S2:=S2) (a:=x) (b:=y) ⟨_,rfl,A3,n3,c3,rfl,x1.below bY (fun b h=>Nat.lt_of_lt_of_le (hS b h) HB.out.size)⟩ ⟨_,rfl,A4,n4,c4,rfl,x2.below bY (fun b h=>Nat.lt_of_lt_of_le (eF b h) HB.out.size)⟩ (fun b h=>Nat.lt_of_lt_of_le (hS b h) (Nat.le_trans HB.out.size bY.size)) (fun b h=>Nat.lt_of_lt_of_le (eF b h) (Nat.le_trans HB.out.size bY.size)));rw[HZE.out] at sC;have HC:=zH sC;have bX:=zH (ae HB.out bY);have dO:=zH bj;have Wi:=zH jY;have Cy:=zH eQ;clear sC dT qB bj jY dy fM pk bd bY jG Eg hx D6 eQ;go_upto_region 6 with(fail);rw[dO.out];go_upto_region 7 with(fail);rw[Cy.out,Wi.out];go_wp2_with fail;refine HC.out.mono ?_;rintro e w3 ⟨rfl,ey⟩;have iT:=zH (ae bX.out ey);clear ey;cases z1
   case false=>
    have av:z=false:=by rw[fy.out];rfl
    have bm:=zH av;clear av;go_wp2_with fail;go_ret
    exact⟨by rw[bm.out];rfl,iT.out⟩
   case true=>
    go_wp2_with fail;go_roundw
    case rel=>exact⟨k+1,by go_num,by omega,by rw[fy.out,Bool.true_and],iT.out⟩
    case measure=>simp[intOf];omega
  ·have fI:k=n:=by omega
   have av:z=true:=by
    rw[ql.out,List.drop_eq_nil_of_le (by rw[vw.out];omega),List.drop_eq_nil_of_le (by rw[ua.out];omega)];rfl
   have bm:=zH av;clear av fI;go_wp2_with fail;go_ret
   exact⟨by rw[bm.out];rfl,HB.out⟩
set_option maxRecDepth 20000 in
set_option maxHeartbeats 2000000 in
theorem Og {w:World} {S S2:Nat→Prop} {A A2:Option Addr} {n c n2 c2:Nat} {xs ys:List aX} (h:RS w S A n c xs) (h2:RS w S2 A2 n2 c2 ys) (hS:∀b,S b→b<w.heap.size) (eF:∀b,S2 b→b<w.heap.size) : Calls Tryz.prog 79 #[.slice A n c,.slice A2 n2 c2,.func (.func 80) #[] #[]] w (gy w (.bool (lG dc xs ys))):=by
 obtain⟨z,hz⟩:∃z,lG dc xs ys=z:=⟨_,rfl⟩;rw[hz];have eh:=hz.symm;have hl1:=h.len;have hl2:=h2.len;have Cn:=h.max;have xR:=h2.max;have dA:n≠n2→z=false:=fun e=>by rw[eh];exact I9 (by rw[hl1,hl2];exact e)
 have H1:=zH h;have H2:=zH h2;have HZ:=zH eh;have vw:=zH hl1;have ua:=zH hl2;have kV:=zH dA;clear h h2 hz eh hl1 hl2 dA;go_enter Tryz.func79,Tryz.ntmps79;by_cases hn:n=n2
 case neg=>
  have av:=kV.out hn;have bm:=zH av;have hb:((n:Int)==(n2:Int))=false:=by rw[beq_eq_false_iff_ne];omega
  have bY:(n==n2)=false:=by rw[beq_eq_false_iff_ne];exact hn
  clear av hn kV;go_wp2_with fail;go_ret
  exact⟨by rw[bm.out];rfl,Below.refl _ _⟩
 subst hn;clear kV;go_wp2_with fail;go_loopw [17] (fun iv wr=>∃k:Nat,iv=.int .i64 k∧k≤n∧z=lG dc (xs.drop k) (ys.drop k)∧Below w.heap.size w wr) (fun iv _=>n-(intOf iv).toNat)
 case atStart=>exact⟨0,rfl,Nat.zero_le _,by simpa using HZ.out,Below.refl _ _⟩
 case round=>
  clear HZ;obtain⟨k,rfl,hk,pF,hb⟩:=hrel;have ql:=zH pF;have HB:=zH hb;have HR:=zH (H1.out.below hb hS);have sW:=zH (H2.out.below hb eF);clear pF hb;by_cases bn:k<n
  ·have dK:(k:Int)<(n:Int):=by omega
   obtain⟨b,o,x,cs,rfl,yR,hx,hr,jG⟩:=HR.out.load_at (fun b h=>Nat.lt_of_lt_of_le (hS b h) HB.out.size) bn;obtain⟨b2,o2,y,I1,rfl,YX,D6,ri,Eg⟩:=sW.out.load_at (fun b h=>Nat.lt_of_lt_of_le (eF b h) HB.out.size) bn;have gO:(k:Int)≤(c:Int):=by have:=HR.out.cap;omega
   have xp:(k:Int)≤(c2:Int):=by have:=sW.out.cap;omega
   have eQ:z=(dc x y&&lG dc (xs.drop (k+1)) (ys.drop (k+1))):=by rw[ql.out,bR hx,bR D6];rfl
   have fy:=zH eQ;obtain⟨z1,Nu⟩:∃q,dc x y=q:=⟨_,rfl⟩;rw[Nu] at eQ;have HZE:=zH Nu;clear Nu;have fy:=zH eQ;obtain⟨A3,n3,c3,A5,n5,c5,rfl,x1,x3⟩:=hr;obtain⟨A4,n4,c4,A6,n6,c6,rfl,x2,x4⟩:=ri;have bd:Below wr.heap.size wr (wr.alloc (.cells #[.string x.name,.slice A3 n3 c3,.slice A5 n5 c5] 97)):=(Below.refl _ _).alloc (Nat.le_refl _) _;have dy:aK (wr.alloc (.cells #[.string x.name,.slice A3 n3 c3,.slice A5 n5 c5] 97)) wr.heap.size 97 #[.string x.name,.slice A3 n3 c3,.slice A5 n5 c5]:=aK.new _ _ _;have eQ:(wr.alloc (.cells #[.string x.name,.slice A3 n3 c3,.slice A5 n5 c5] 97)).heap.size=wr.heap.size+1:=by simp
   obtain⟨w1,bj⟩:∃q,wr.alloc (.cells #[.string x.name,.slice A3 n3 c3,.slice A5 n5 c5] 97)=q:=⟨_,rfl⟩;rw[bj] at bd dy eQ;have bY:Below wr.heap.size wr (w1.alloc (.cells #[.string y.name,.slice A4 n4 c4,.slice A6 n6 c6] 97)):=bd.alloc (by omega) _;have fM:aK (w1.alloc (.cells #[.string y.name,.slice A4 n4 c4,.slice A6 n6 c6] 97)) (wr.heap.size+1) 97 #[.string y.name,.slice A4 n4 c4,.slice A6 n6 c6]:=aK.new' eQ _ _;have pk:=dy.alloc (.cells #[.string y.name,.slice A4 n4 c4,.slice A6 n6 c6] 97);obtain⟨w2,jY⟩:∃q,w1.alloc (.cells #[.string y.name,.slice A4 n4 c4,.slice A6 n6 c6] 97)=q:=⟨_,rfl⟩;rw[jY] at bY fM pk;have dT:=jG wr (Below.refl _ _);have qB:=Eg w1 bd;have p0:w2.cell? ⟨wr.heap.size,0,none⟩=some (.string x.name):=pk.cell 0;have p1:w2.cell? ⟨wr.heap.size,1,none⟩=some (.slice A3 n3 c3):=pk.cell 1;have p2:w2.cell? ⟨wr.heap.size,2,none⟩=some (.slice A5 n5 c5):=pk.cell 2;have q0:w2.cell? ⟨wr.heap.size+1,0,none⟩=some (.string y.name):=fM.cell 0;have q1:w2.cell? ⟨wr.heap.size+1,1,none⟩=some (.slice A4 n4 c4):=fM.cell 1;have q2:w2.cell? ⟨wr.heap.size+1,2,none⟩=some (.slice A6 n6 c6):=fM.cell 2;have r0:wr.cell? ⟨b,o+k*3,none⟩=some (.string x.name):=dT.1 _ rfl;have r1:wr.cell? ⟨b,o+k*3+1,none⟩=some (.slice A3 n3 c3):=dT.2 1 _ rfl;have r2:wr.cell? ⟨b,o+k*3+2,none⟩=some (.slice A5 n5 c5):=dT.2 2 _ rfl;have s0:w1.cell? ⟨b2,o2+k*3,none⟩=some (.string y.name):=qB.1 _ rfl;have s1:w1.cell? ⟨b2,o2+k*3+1,none⟩=some (.slice A4 n4 c4):=qB.2 1 _ rfl;have s2:w1.cell? ⟨b2,o2+k*3+2,none⟩=some (.slice A6 n6 c6):=qB.2 2 _ rfl;have sC:=(Io (w:=w2) (S:=S) (S2:=S2) (a:=x) (b:=y) ⟨_,rfl,A3,n3,c3,A5,n5,c5,rfl,x1.below bY (fun b h=>Nat.lt_of_lt_of_le (hS b h) HB.out.size),x3.below bY (fun b h=>Nat.lt_of_lt_of_le (hS b h) HB.out.size)⟩ ⟨_,rfl,A4,n4,c4,A6,n6,c6,rfl,x2.below bY (fun b h=>Nat.lt_of_lt_of_le (eF b h) HB.out.size),x4.below bY (fun b h=>Nat.lt_of_lt_of_le (eF b h) HB.out.size)⟩ (fun b h=>Nat.lt_of_lt_of_le (hS b h) (Nat.le_trans HB.out.size bY.size)) (fun b h=>Nat.lt_of_lt_of_le (eF b h) (Nat.le_trans HB.out.size bY.size)));rw[HZE.out] at sC;have HC:=zH sC;have bX:=zH (ae HB.out bY);have dO:=zH bj;have Wi:=zH jY;have Cy:=zH eQ;clear sC dT qB bj jY dy fM pk bd bY jG Eg hx D6 eQ;go_upto_region 6 with(fail);rw[dO.out];go_upto_region 7 with(fail);rw[Cy.out,Wi.out];go_wp2_with fail;refine HC.out.mono ?_;rintro e w3 ⟨rfl,ey⟩;have iT:=zH (ae bX.out ey);clear ey;cases z1
   case false=>
    have av:z=false:=by rw[fy.out];rfl
    have bm:=zH av;clear av;go_wp2_with fail;go_ret
    exact⟨by rw[bm.out];rfl,iT.out⟩
   case true=>
    go_wp2_with fail;go_roundw
    case rel=>exact⟨k+1,by go_num,by omega,by rw[fy.out,Bool.true_and],iT.out⟩
    case measure=>simp[intOf];omega
  ·have fI:k=n:=by omega
   have av:z=true:=by
    rw[ql.out,List.drop_eq_nil_of_le (by rw[vw.out];omega),List.drop_eq_nil_of_le (by rw[ua.out];omega)];rfl
   have bm:=zH av;clear av fI;go_wp2_with fail;go_ret
   exact⟨by rw[bm.out];rfl,HB.out⟩
end Go.Proofs.YtjlhbfbdcfajfaaGreatDoor
