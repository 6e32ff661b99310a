/- Same1 Same2 Same3 -/
import Derived.Test.YtjlhbfbdcfajfaaGreatDoorV09
import Derived.Test.YtjlhbfbdcfajfaaGreatDoorV12
import Derived.Test.YtjlhbfbdcfajfaaGreatDoorProg
import Derived.Test.YtjlhbfbdcfajfaaGreatDoorV01
import Derived.Test.YtjlhbfbdcfajfaaGreatDoorV18
import Derived.Deep.DeepCutAuto
set_option maxHeartbeats 8000000
set_option maxRecDepth 100000
namespace Go.Proofs.YtjlhbfbdcfajfaaGreatDoor
open Go.RowKit
theorem zz {w:World} {S S2:Nat→Prop} {v v2:Value} {a b:aw} (h:SV w S v a) (h2:SV w S2 v2 b) (hS:∀b,S b→b<w.heap.size) (iC:∀b,S2 b→b<w.heap.size) : Calls Tryz.prog 80 #[v,v2] w (j5 w (.bool (bA a b))):=by
 obtain⟨cs,rfl,A,n,c,A2,n2,c2,rfl,r1,r2⟩:=h;obtain⟨cs,rfl,A3,n3,c3,A4,n4,c4,rfl,r3,r4⟩:=h2;obtain⟨w1,fX⟩:∃x,(w.alloc (.cells #[.string a.name,.slice A n c,.slice A2 n2 c2] 97)).alloc (.cells #[.string b.name,.slice A3 n3 c3,.slice A4 n4 c4] 97)=x:=⟨_,rfl⟩;have cI:Below w.heap.size w w1:=by rw[←fX];exact((Below.refl _ _).alloc (Nat.le_refl _) _).alloc (by simp) _
 have D7:dy w1 w.heap.size 97 #[.string a.name,.slice A n c,.slice A2 n2 c2]:=by rw[←fX];exact(dy.new _ _ _).alloc _
 have D6:dy w1 (w.heap.size+1) 97 #[.string b.name,.slice A3 n3 c3,.slice A4 n4 c4]:=by
  rw[←fX];have:=dy.new (w.alloc (.cells #[.string a.name,.slice A n c,.slice A2 n2 c2] 97)) 97 #[.string b.name,.slice A3 n3 c3,.slice A4 n4 c4];simpa using this
 have H1:=zH (r1.below cI hS);have H2:=zH (r2.below cI hS);have H3:=zH (r3.below cI iC);have H4:=zH (r4.below cI iC);obtain⟨na,pa,ca⟩:=a;obtain⟨nb,pb,cb⟩:=b;obtain⟨z,hz⟩:∃z,bA ⟨na,pa,ca⟩ ⟨nb,pb,cb⟩=z:=⟨_,rfl⟩;have fA:z=(decide (na=nb)&&(decide (pa=pb)&&decide (ca=cb))):=hz.symm;rw[hz];obtain⟨d0,d1,d2,_,_,_⟩:=D7.facts3;obtain⟨d3,d4,d5,_,_,_⟩:=D6.facts3;have oq:=zH fX;have fy:=zH cI;have HZ:=zH fA;clear fX cI hz fA D7 D6 r1 r2 r3 r4;go_enter Tryz.func80,Tryz.ntmps80;by_cases hn:na=nb
 ·have bj:=HZ.out;rw[decide_eq_true hn,Bool.true_and] at bj;have dL:=zH bj;have Xp:(na.toList==nb.toList)=true:=by rw[hn];simp
  clear bj HZ hn;go_wp2_with fail;rw[oq.out];go_wp2_with fail;refine(yN H1.out H3.out).mono ?_;rintro e w' ⟨rfl,m,rfl⟩;by_cases hx:pa=pb
  ·have bj:=dL.out;rw[decide_eq_true hx,Bool.true_and] at bj;rw[decide_eq_true hx];have k8:=zH bj;clear bj dL hx;go_wp2_with fail;refine(yN (H2.out.drewN m) (H4.out.drewN m)).mono ?_;rintro e w' ⟨rfl,m2,rfl⟩;rw[←k8.out];go_wp2_with fail;go_ret
   exact⟨rfl,below_drewN fy.out (m+m2)⟩
  ·have bj:=dL.out;rw[decide_eq_false hx,Bool.false_and] at bj;rw[decide_eq_false hx];have k8:=zH bj;clear bj dL hx;go_wp2_with fail;go_ret
   exact⟨by rw[k8.out];rfl,below_drewN fy.out m⟩
 ·have bj:=HZ.out;rw[decide_eq_false hn,Bool.false_and] at bj;have dL:=zH bj;have Xp:(na.toList==nb.toList)=false:=by
   have:=Lib.bytes_beq_false_iff na nb;exact this.2 hn
  clear bj HZ hn;go_wp2_with fail;rw[oq.out];go_wp2_with fail;go_ret
  exact⟨by rw[dL.out];rfl,fy.out⟩
theorem u3 {w:World} {S S2:Nat→Prop} {v v2:Value} {a b:ah} (h:SV w S v a) (h2:SV w S2 v2 b) (hS:∀b,S b→b<w.heap.size) (iC:∀b,S2 b→b<w.heap.size) : Calls Tryz.prog 78 #[v,v2] w (j5 w (.bool (bh a b))):=by
 obtain⟨cs,rfl,A,n,c,rfl,r1⟩:=h;obtain⟨cs,rfl,A3,n3,c3,rfl,r3⟩:=h2;obtain⟨w1,fX⟩:∃x,(w.alloc (.cells #[.string a.name,.slice A n c,.int .i64 a.method,.int .i64 a.seats,.int .i64 a.ranks,.int .i64 a.digits,.int .i64 a.ties,.int .i64 a.over,.int .i64 a.skip] 95)).alloc (.cells #[.string b.name,.slice A3 n3 c3,.int .i64 b.method,.int .i64 b.seats,.int .i64 b.ranks,.int .i64 b.digits,.int .i64 b.ties,.int .i64 b.over,.int .i64 b.skip] 95)=x:=⟨_,rfl⟩;have cI:Below w.heap.size w w1:=by rw[←fX];exact((Below.refl _ _).alloc (Nat.le_refl _) _).alloc (by simp) _
 have D7:dy w1 w.heap.size 95 #[.string a.name,.slice A n c,.int .i64 a.method,.int .i64 a.seats,.int .i64 a.ranks,.int .i64 a.digits,.int .i64 a.ties,.int .i64 a.over,.int .i64 a.skip]:=by rw[←fX];exact(dy.new _ _ _).alloc _
 have D6:dy w1 (w.heap.size+1) 95 #[.string b.name,.slice A3 n3 c3,.int .i64 b.method,.int .i64 b.seats,.int .i64 b.ranks,.int .i64 b.digits,.int .i64 b.ties,.int .i64 b.over,.int .i64 b.skip]:=by
  rw[←fX];have:=dy.new (w.alloc (.cells #[.string a.name,.slice A n c,.int .i64 a.method,.int .i64 a.seats,.int .i64 a.ranks,.int .i64 a.digits,.int .i64 a.ties,.int .i64 a.over,.int .i64 a.skip] 95)) 95 #[.string b.name,.slice A3 n3 c3,.int .i64 b.method,.int .i64 b.seats,.int .i64 b.ranks,.int .i64 b.digits,.int .i64 b.ties,.int .i64 b.over,.int .i64 b.skip];simpa using this
 have H1:=zH (r1.below cI hS);have H3:=zH (r3.below cI iC);obtain⟨na,pa,a0,a1,a2,a3,a4,a5,a6⟩:=a;obtain⟨nb,pb,b0,b1,b2,b3,b4,b5,b6⟩:=b;obtain⟨z,hz⟩:∃z,bh ⟨na,pa,a0,a1,a2,a3,a4,a5,a6⟩ ⟨nb,pb,b0,b1,b2,b3,b4,b5,b6⟩=z:=⟨_,rfl⟩;have fA:z=(decide (na=nb)&&(decide (pa=pb)&&(decide (a0=b0)&&(decide (a1=b1)&&(decide (a2=b2)&&(decide (a3=b3)&&(decide (a4=b4)&&(decide (a5=b5)&&(decide (a6=b6)))))))))):=hz.symm;rw[hz];have d0:w1.cell? ⟨w.heap.size,0,none⟩=some (.string na):=D7.cell 0;have d1:w1.cell? ⟨w.heap.size,1,none⟩=some (.slice A n c):=D7.cell 1;have e0:w1.cell? ⟨w.heap.size+1,0,none⟩=some (.string nb):=D6.cell 0;have e1:w1.cell? ⟨w.heap.size+1,1,none⟩=some (.slice A3 n3 c3):=D6.cell 1;have d2:w1.cell? ⟨w.heap.size,2,none⟩=some (.int .i64 a0):=D7.cell 2;have e2:w1.cell? ⟨w.heap.size+1,2,none⟩=some (.int .i64 b0):=D6.cell 2;have d3:w1.cell? ⟨w.heap.size,3,none⟩=some (.int .i64 a1):=D7.cell 3;have e3:w1.cell? ⟨w.heap.size+1,3,none⟩=some (.int .i64 b1):=D6.cell 3;have d4:w1.cell? ⟨w.heap.size,4,none⟩=some (.int .i64 a2):=D7.cell 4;have e4:w1.cell? ⟨w.heap.size+1,4,none⟩=some (.int .i64 b2):=D6.cell 4;have d5:w1.cell? ⟨w.heap.size,5,none⟩=some (.int .i64 a3):=D7.cell 5;have e5:w1.cell? ⟨w.heap.size+1,5,none⟩=some (.int .i64 b3):=D6.cell 5;have d6:w1.cell? ⟨w.heap.size,6,none⟩=some (.int .i64 a4):=D7.cell 6;have e6:w1.cell? ⟨w.heap.size+1,6,none⟩=some (.int .i64 b4):=D6.cell 6;have d7:w1.cell? ⟨w.heap.size,7,none⟩=some (.int .i64 a5):=D7.cell 7;have e7:w1.cell? ⟨w.heap.size+1,7,none⟩=some (.int .i64 b5):=D6.cell 7;have d8:w1.cell? ⟨w.heap.size,8,none⟩=some (.int .i64 a6):=D7.cell 8;have e8:w1.cell? ⟨w.heap.size+1,8,none⟩=some (.int .i64 b6):=D6.cell 8;have oq:=zH fX;have fy:=zH cI;have HZ:=zH fA;clear fX cI hz fA D7 D6 r1 r3;go_enter Tryz.func78,Tryz.ntmps78;by_cases hn:na=nb
 case neg=>
  have bj:=HZ.out;rw[decide_eq_false hn,Bool.false_and] at bj;have dL:=zH bj;have Xp:(na.toList==nb.toList)=false:=(Lib.bytes_beq_false_iff na nb).2 hn;clear bj HZ hn;go_wp2_with fail;rw[oq.out];go_wp2_with fail;go_ret
  exact⟨by rw[dL.out];rfl,fy.out⟩
 have bj:=HZ.out;rw[decide_eq_true hn,Bool.true_and] at bj;have pY:=zH bj;have Xp:(na.toList==nb.toList)=true:=by rw[hn];simp
 clear bj HZ hn;go_wp2_with fail;rw[oq.out];go_wp2_with fail;refine(yL H1.out H3.out).mono ?_;rintro e w' ⟨rfl,m,rfl⟩;by_cases hx:pa=pb
 case neg=>
  have bj:=pY.out;rw[decide_eq_false hx,Bool.false_and] at bj;rw[decide_eq_false hx];have dL:=zH bj;clear bj pY hx;go_wp2_with fail;go_ret
  exact⟨by rw[dL.out];rfl,below_drewN fy.out m⟩
 have bj:=pY.out;rw[decide_eq_true hx,Bool.true_and] at bj;rw[decide_eq_true hx];have ka:=zH bj;clear bj pY hx;by_cases h0:a0=b0
 case neg=>
  have bj:=ka.out;rw[decide_eq_false h0,Bool.false_and] at bj;have dL:=zH bj;have g0:(a0==b0)=false:=by rw[beq_eq_false_iff_ne];exact h0
  clear bj ka h0;go_wp2_with fail;go_ret
  exact⟨by rw[dL.out];rfl,below_drewN fy.out m⟩
 have bj:=ka.out;rw[decide_eq_true h0,Bool.true_and] at bj;have k8:=zH bj;have g0:(a0==b0)=true:=by rw[beq_iff_eq];exact h0
 clear bj ka h0;by_cases h1:a1=b1
 case neg=>
  have bj:=k8.out;rw[decide_eq_false h1,Bool.false_and] at bj;have dL:=zH bj;have g1:(a1==b1)=false:=by rw[beq_eq_false_iff_ne];exact h1
  clear bj k8 h1;go_wp2_with fail;go_ret
  exact⟨by rw[dL.out];rfl,below_drewN fy.out m⟩
 have bj:=k8.out;rw[decide_eq_true h1,Bool.true_and] at bj;have HZ3:=zH bj;have g1:(a1==b1)=true:=by rw[beq_iff_eq];exact h1
 clear bj k8 h1;by_cases h2:a2=b2
 case neg=>
  have bj:=HZ3.out;rw[decide_eq_false h2,Bool.false_and] at bj;have dL:=zH bj;have g2:(a2==b2)=false:=by rw[beq_eq_false_iff_ne];exact h2
  clear bj HZ3 h2;go_wp2_with fail;go_ret
  exact⟨by rw[dL.out];rfl,below_drewN fy.out m⟩
 have bj:=HZ3.out;rw[decide_eq_true h2,Bool.true_and] at bj;have HZ4:=zH bj;have g2:(a2==b2)=true:=by rw[beq_iff_eq];exact h2
 clear bj HZ3 h2;by_cases h3:a3=b3
 case neg=>
  have bj:=HZ4.out;rw[decide_eq_false h3,Bool.false_and] at bj;have dL:=zH bj;have g3:(a3==b3)=false:=by rw[beq_eq_false_iff_ne];exact h3
  clear bj HZ4 h3;go_wp2_with fail;go_ret
  exact⟨by rw[dL.out];rfl,below_drewN fy.out m⟩
 have bj:=HZ4.out;rw[decide_eq_true h3,Bool.true_and] at bj;have Zw:=zH bj;have g3:(a3==b3)=true:=by rw[beq_iff_eq];exact h3
 clear bj HZ4 h3;by_cases h4:a4=b4
 case neg=>
  have bj:=Zw.out;rw[decide_eq_false h4,Bool.false_and] at bj;have dL:=zH bj;have g4:(a4==b4)=false:=by rw[beq_eq_false_iff_ne];exact h4
  clear bj Zw h4;go_wp2_with fail;go_ret
  exact⟨by rw[dL.out];rfl,below_drewN fy.out m⟩
 have bj:=Zw.out;rw[decide_eq_true h4,Bool.true_and] at bj;have HZ6:=zH bj;have g4:(a4==b4)=true:=by rw[beq_iff_eq];exact h4
 clear bj Zw h4;by_cases h5:a5=b5
 case neg=>
  have bj:=HZ6.out;rw[decide_eq_false h5,Bool.false_and] at bj;have dL:=zH bj;have g5:(a5==b5)=false:=by rw[beq_eq_false_iff_ne];exact h5
  clear bj HZ6 h5;go_wp2_with fail;go_ret
  exact⟨by rw[dL.out];rfl,below_drewN fy.out m⟩
 have bj:=HZ6.out;rw[decide_eq_true h5,Bool.true_and] at bj;have HZ7:=zH bj;have g5:(a5==b5)=true:=by rw[beq_iff_eq];exact h5
 clear bj HZ6 h5;by_cases h6:a6=b6
 case neg=>
  have bj:=HZ7.out;rw[decide_eq_false h6] at bj;have dL:=zH bj;have g6:(a6==b6)=false:=by rw[beq_eq_false_iff_ne];exact h6
  clear bj HZ7 h6;go_wp2_with fail;go_ret
  exact⟨by rw[dL.out];rfl,below_drewN fy.out m⟩
 have bj:=HZ7.out;rw[decide_eq_true h6] at bj;have HZ8:=zH bj;have g6:(a6==b6)=true:=by rw[beq_iff_eq];exact h6
 clear bj HZ7 h6;go_wp2_with fail;go_ret
 exact⟨by rw[HZ8.out];rfl,below_drewN fy.out m⟩
theorem RS.load_at {α:Type} [aK α] {w:World} {S:Nat→Prop} {A:Option Addr} {n c:Nat} {xs:List α} (h:RS w S A n c xs) (hS:∀b,S b→b<w.heap.size) {k:Nat} (hk:k<n) : ∃b o x cs,A=some ⟨b,o,none⟩∧S b∧xs[k]?=some x∧aK.rep w S cs x∧∀w',Below w.heap.size w w'→(∀u,cs[0]?=some u→w'.cell? ⟨b,o+k*aK.sz α,none⟩=some u)∧∀j u,cs[j]?=some u→w'.cell? ⟨b,o+k*aK.sz α+j,none⟩=some u:=by
 obtain⟨b,o,x,cs,rfl,hb,hx,hr,hc⟩:=h.at_ hk;have hcc:∀w',Below w.heap.size w w'→∀j u,cs[j]?=some u→w'.cell? ⟨b,o+k*aK.sz α+j,none⟩=some u:=by
  intro w' hw j u hj;rw[←hc j u hj,←Nat.add_assoc];exact hw.cell (p:=⟨b,o+k*aK.sz α+j,none⟩) (hS b hb)
 exact⟨b,o,x,cs,rfl,hb,hx,hr,fun w' hw=>⟨fun u hu=>hcc w' hw 0 u hu,hcc w' hw⟩⟩
theorem AR {α:Type} {f:α→α→Bool}:∀{xs ys:List α},xs.length≠ys.length→gW f xs ys=false
 | [],[],h=>absurd rfl h
 | [],_::_,_=>rfl
 | _::_,[],_=>rfl
 | x::l,y::m,h=>by
  have:l.length≠m.length:=fun e=>h (by simp[e]);rw[gW,AR this,Bool.and_false]
theorem ky {α:Type} {xs:List α} {k:Nat} {x:α} (h:xs[k]?=some x):xs.drop k=x::xs.drop (k+1):=by
 obtain⟨hk,rfl⟩:=List.getElem?_eq_some_iff.1 h;exact List.drop_eq_getElem_cons hk
theorem AH {w:World} {S S2:Nat→Prop} {A A2:Option Addr} {n c n2 c2:Nat} {xs ys:List ah} (h:RS w S A n c xs) (h2:RS w S2 A2 n2 c2 ys) (hS:∀b,S b→b<w.heap.size) (iC:∀b,S2 b→b<w.heap.size) : Calls Tryz.prog 77 #[.slice A n c,.slice A2 n2 c2,.func (.func 78) #[] #[]] w (j5 w (.bool (gW bh xs ys))):=by
 obtain⟨z,hz⟩:∃z,gW bh xs ys=z:=⟨_,rfl⟩;rw[hz];have fA:=hz.symm;have hl1:=h.len;have hl2:=h2.len;have Hq:=h.max;have hm2:=h2.max;have fv:n≠n2→z=false:=fun e=>by rw[fA];exact AR (by rw[hl1,hl2];exact e)
 have H1:=zH h;have H2:=zH h2;have HZ:=zH fA;have Ec:=zH hl1;have o0:=zH hl2;have YO:=zH fv;clear h h2 hz fA hl1 hl2 fv;go_enter Tryz.func77,Tryz.ntmps77;by_cases hn:n=n2
 case neg=>
  have bj:=YO.out hn;have dL:=zH bj;have hb:((n:Int)==(n2:Int))=false:=by rw[beq_eq_false_iff_ne];omega
  have bZ:(n==n2)=false:=by rw[beq_eq_false_iff_ne];exact hn
  clear bj hn YO;go_wp2_with fail;go_ret
  exact⟨by rw[dL.out];rfl,Below.refl _ _⟩
 subst hn;clear YO;go_wp2_with fail;go_loopw [17] (fun iv wr=>∃k:Nat,iv=.int .i64 k∧k≤n∧z=gW bh (xs.drop k) (ys.drop k)∧Below w.heap.size w wr) (fun iv _=>n-(intOf iv).toNat)
 case atStart=>exact⟨0,rfl,Nat.zero_le _,by simpa using HZ.out,Below.refl _ _⟩
 case round=>
  clear HZ;obtain⟨k,rfl,hk,E9,hb⟩:=hrel;have PK:=zH E9;have HB:=zH hb;have HR:=zH (H1.out.below hb hS);have IF:=zH (H2.out.below hb iC);clear E9 hb;by_cases hlt:k<n
  ·have jJ:(k:Int)<(n:Int):=by omega
   obtain⟨b,o,x,cs,rfl,Bf,hx,hr,UP⟩:=HR.out.load_at (fun b h=>Nat.lt_of_lt_of_le (hS b h) HB.out.size) hlt;obtain⟨b2,o2,y,cs2,rfl,ab9,Bb,NK,NS⟩:=IF.out.load_at (fun b h=>Nat.lt_of_lt_of_le (iC b h) HB.out.size) hlt;have NV:(k:Int)≤(c:Int):=by have:=HR.out.cap;omega
   have NU:(k:Int)≤(c2:Int):=by have:=IF.out.cap;omega
   have fu:z=(bh x y&&gW bh (xs.drop (k+1)) (ys.drop (k+1))):=by rw[PK.out,ky hx,ky Bb];rfl
   have ka:=zH fu;obtain⟨z1,Fa⟩:∃q,bh x y=q:=⟨_,rfl⟩;rw[Fa] at fu;have HZE:=zH Fa;clear Fa;have ka:=zH fu;obtain⟨A3,n3,c3,rfl,x1⟩:=hr;obtain⟨A4,n4,c4,rfl,x2⟩:=NK;have cI:Below wr.heap.size wr (wr.alloc (.cells #[.string x.name,.slice A3 n3 c3,.int .i64 x.method,.int .i64 x.seats,.int .i64 x.ranks,.int .i64 x.digits,.int .i64 x.ties,.int .i64 x.over,.int .i64 x.skip] 95)):=(Below.refl _ _).alloc (Nat.le_refl _) _;have tw:dy (wr.alloc (.cells #[.string x.name,.slice A3 n3 c3,.int .i64 x.method,.int .i64 x.seats,.int .i64 x.ranks,.int .i64 x.digits,.int .i64 x.ties,.int .i64 x.over,.int .i64 x.skip] 95)) wr.heap.size 95 #[.string x.name,.slice A3 n3 c3,.int .i64 x.method,.int .i64 x.seats,.int .i64 x.ranks,.int .i64 x.digits,.int .i64 x.ties,.int .i64 x.over,.int .i64 x.skip]:=dy.new _ _ _;have fu:(wr.alloc (.cells #[.string x.name,.slice A3 n3 c3,.int .i64 x.method,.int .i64 x.seats,.int .i64 x.ranks,.int .i64 x.digits,.int .i64 x.ties,.int .i64 x.over,.int .i64 x.skip] 95)).heap.size=wr.heap.size+1:=by simp
   obtain⟨w1,fX⟩:∃q,wr.alloc (.cells #[.string x.name,.slice A3 n3 c3,.int .i64 x.method,.int .i64 x.seats,.int .i64 x.ranks,.int .i64 x.digits,.int .i64 x.ties,.int .i64 x.over,.int .i64 x.skip] 95)=q:=⟨_,rfl⟩;rw[fX] at cI tw fu;have bZ:Below wr.heap.size wr (w1.alloc (.cells #[.string y.name,.slice A4 n4 c4,.int .i64 y.method,.int .i64 y.seats,.int .i64 y.ranks,.int .i64 y.digits,.int .i64 y.ties,.int .i64 y.over,.int .i64 y.skip] 95)):=cI.alloc (by omega) _;have gR:dy (w1.alloc (.cells #[.string y.name,.slice A4 n4 c4,.int .i64 y.method,.int .i64 y.seats,.int .i64 y.ranks,.int .i64 y.digits,.int .i64 y.ties,.int .i64 y.over,.int .i64 y.skip] 95)) (wr.heap.size+1) 95 #[.string y.name,.slice A4 n4 c4,.int .i64 y.method,.int .i64 y.seats,.int .i64 y.ranks,.int .i64 y.digits,.int .i64 y.ties,.int .i64 y.over,.int .i64 y.skip]:=dy.new' fu _ _;have nX:=tw.alloc (.cells #[.string y.name,.slice A4 n4 c4,.int .i64 y.method,.int .i64 y.seats,.int .i64 y.ranks,.int .i64 y.digits,.int .i64 y.ties,.int .i64 y.over,.int .i64 y.skip] 95);obtain⟨w2,Sd⟩:∃q,w1.alloc (.cells #[.string y.name,.slice A4 n4 c4,.int .i64 y.method,.int .i64 y.seats,.int .i64 y.ranks,.int .i64 y.digits,.int .i64 y.ties,.int .i64 y.over,.int .i64 y.skip] 95)=q:=⟨_,rfl⟩;rw[Sd] at bZ gR nX;have iF:=UP wr (Below.refl _ _);have kV:=NS w1 cI;have p0:w2.cell? ⟨wr.heap.size,0,none⟩=some (.string x.name):=nX.cell 0;have p1:w2.cell? ⟨wr.heap.size,1,none⟩=some (.slice A3 n3 c3):=nX.cell 1;have p2:w2.cell? ⟨wr.heap.size,2,none⟩=some (.int .i64 x.method):=nX.cell 2;have p3:w2.cell? ⟨wr.heap.size,3,none⟩=some (.int .i64 x.seats):=nX.cell 3;have p4:w2.cell? ⟨wr.heap.size,4,none⟩=some (.int .i64 x.ranks):=nX.cell 4;have p5:w2.cell? ⟨wr.heap.size,5,none⟩=some (.int .i64 x.digits):=nX.cell 5;have p6:w2.cell? ⟨wr.heap.size,6,none⟩=some (.int .i64 x.ties):=nX.cell 6;have p7:w2.cell? ⟨wr.heap.size,7,none⟩=some (.int .i64 x.over):=nX.cell 7;have p8:w2.cell? ⟨wr.heap.size,8,none⟩=some (.int .i64 x.skip):=nX.cell 8;have q0:w2.cell? ⟨wr.heap.size+1,0,none⟩=some (.string y.name):=gR.cell 0;have q1:w2.cell? ⟨wr.heap.size+1,1,none⟩=some (.slice A4 n4 c4):=gR.cell 1;have q2:w2.cell? ⟨wr.heap.size+1,2,none⟩=some (.int .i64 y.method):=gR.cell 2;have q3:w2.cell? ⟨wr.heap.size+1,3,none⟩=some (.int .i64 y.seats):=gR.cell 3;have q4:w2.cell? ⟨wr.heap.size+1,4,none⟩=some (.int .i64 y.ranks):=gR.cell 4;have q5:w2.cell? ⟨wr.heap.size+1,5,none⟩=some (.int .i64 y.digits):=gR.cell 5;have q6:w2.cell? ⟨wr.heap.size+1,6,none⟩=some (.int .i64 y.ties):=gR.cell 6;have q7:w2.cell? ⟨wr.heap.size+1,7,none⟩=some (.int .i64 y.over):=gR.cell 7;have q8:w2.cell? ⟨wr.heap.size+1,8,none⟩=some (.int .i64 y.skip):=gR.cell 8;have r0:wr.cell? ⟨b,o+k*9,none⟩=some (.string x.name):=iF.1 _ rfl;have r1:wr.cell? ⟨b,o+k*9+1,none⟩=some (.slice A3 n3 c3):=iF.2 1 _ rfl;have r2:wr.cell? ⟨b,o+k*9+2,none⟩=some (.int .i64 x.method):=iF.2 2 _ rfl;have r3:wr.cell? ⟨b,o+k*9+3,none⟩=some (.int .i64 x.seats):=iF.2 3 _ rfl;have r4:wr.cell? ⟨b,o+k*9+4,none⟩=some (.int .i64 x.ranks):=iF.2 4 _ rfl;have r5:wr.cell? ⟨b,o+k*9+5,none⟩=some (.int .i64 x.digits):=iF.2 5 _ rfl;have r6:wr.cell? ⟨b,o+k*9+6,none⟩=some (.int .i64 x.ties):=iF.2 6 _ rfl;have r7:wr.cell? ⟨b,o+k*9+7,none⟩=some (.int .i64 x.over):=iF.2 7 _ rfl;have r8:wr.cell? ⟨b,o+k*9+8,none⟩=some (.int .i64 x.skip):=iF.2 8 _ rfl;have s0:w1.cell? ⟨b2,o2+k*9,none⟩=some (.string y.name):=kV.1 _ rfl;have s1:w1.cell? ⟨b2,o2+k*9+1,none⟩=some (.slice A4 n4 c4):=kV.2 1 _ rfl;have s2:w1.cell? ⟨b2,o2+k*9+2,none⟩=some (.int .i64 y.method):=kV.2 2 _ rfl;have s3:w1.cell? ⟨b2,o2+k*9+3,none⟩=some (.int .i64 y.seats):=kV.2 3 _ rfl;have s4:w1.cell? ⟨b2,o2+k*9+4,none⟩=some (.int .i64 y.ranks):=kV.2 4 _ rfl;have s5:w1.cell? ⟨b2,o2+k*9+5,none⟩=some (.int .i64 y.digits):=kV.2 5 _ rfl;have s6:w1.cell? ⟨b2,o2+k*9+6,none⟩=some (.int .i64 y.ties):=kV.2 6 _ rfl;have s7:w1.cell? ⟨b2,o2+k*9+7,none⟩=some (.int .i64 y.over):=kV.2 7 _ rfl;have s8:w1.cell? ⟨b2,o2+k*9+8,none⟩=some (.int .i64 y.skip):=kV.2 8 _ rfl;have hcc:=(u3 (w:=w2) (S:=S) (S2:=S2) (a:=x) (b:=y) ⟨_,rfl,A3,n3,c3,rfl,x1.below bZ (fun b h=>Nat.lt_of_lt_of_le (hS b h) HB.out.size)⟩ ⟨_,rfl,A4,n4,c4,rfl,x2.below bZ (fun b h=>Nat.lt_of_lt_of_le (iC b h) HB.out.size)⟩ (fun b h=>Nat.lt_of_lt_of_le (hS b h) (Nat.le_trans HB.out.size bZ.size)) (fun b h=>Nat.lt_of_lt_of_le (iC b h) (Nat.le_trans HB.out.size bZ.size)));rw[HZE.out] at hcc;have HC:=zH hcc;have eP:=zH (ak HB.out bZ);have oq:=zH fX;have YG:=zH Sd;have HSZ:=zH fu;clear hcc iF kV fX Sd tw gR nX cI bZ UP NS hx Bb fu;go_upto_region 6 with(fail);rw[oq.out];go_upto_region 7 with(fail);rw[HSZ.out,YG.out];go_wp2_with fail;refine HC.out.mono ?_;rintro e w3 ⟨rfl,kD⟩;have mg:=zH (ak eP.out kD);clear kD;cases z1
   case false=>
    have bj:z=false:=by rw[ka.out];rfl
    have dL:=zH bj;clear bj;go_wp2_with fail;go_ret
    exact⟨by rw[dL.out];rfl,mg.out⟩
   case true=>
    go_wp2_with fail;go_roundw
    case rel=>exact⟨k+1,by go_num,by omega,by rw[ka.out,Bool.true_and],mg.out⟩
    case measure=>simp[intOf];omega
  ·have gM:k=n:=by omega
   have bj:z=true:=by
    rw[PK.out,List.drop_eq_nil_of_le (by rw[Ec.out];omega),List.drop_eq_nil_of_le (by rw[o0.out];omega)];rfl
   have dL:=zH bj;clear bj gM;go_wp2_with fail;go_ret
   exact⟨by rw[dL.out];rfl,HB.out⟩
theorem Fv {w:World} {S S2:Nat→Prop} {A A2:Option Addr} {n c n2 c2:Nat} {xs ys:List aw} (h:RS w S A n c xs) (h2:RS w S2 A2 n2 c2 ys) (hS:∀b,S b→b<w.heap.size) (iC:∀b,S2 b→b<w.heap.size) : Calls Tryz.prog 79 #[.slice A n c,.slice A2 n2 c2,.func (.func 80) #[] #[]] w (j5 w (.bool (gW bA xs ys))):=by
 obtain⟨z,hz⟩:∃z,gW bA xs ys=z:=⟨_,rfl⟩;rw[hz];have fA:=hz.symm;have hl1:=h.len;have hl2:=h2.len;have Hq:=h.max;have hm2:=h2.max;have fv:n≠n2→z=false:=fun e=>by rw[fA];exact AR (by rw[hl1,hl2];exact e)
 have H1:=zH h;have H2:=zH h2;have HZ:=zH fA;have Ec:=zH hl1;have o0:=zH hl2;have YO:=zH fv;clear h h2 hz fA hl1 hl2 fv;go_enter Tryz.func79,Tryz.ntmps79;by_cases hn:n=n2
 case neg=>
  have bj:=YO.out hn;have dL:=zH bj;have hb:((n:Int)==(n2:Int))=false:=by rw[beq_eq_false_iff_ne];omega
  have bZ:(n==n2)=false:=by rw[beq_eq_false_iff_ne];exact hn
  clear bj hn YO;go_wp2_with fail;go_ret
  exact⟨by rw[dL.out];rfl,Below.refl _ _⟩
 subst hn;clear YO;go_wp2_with fail;go_loopw [17] (fun iv wr=>∃k:Nat,iv=.int .i64 k∧k≤n∧z=gW bA (xs.drop k) (ys.drop k)∧Below w.heap.size w wr) (fun iv _=>n-(intOf iv).toNat)
 case atStart=>exact⟨0,rfl,Nat.zero_le _,by simpa using HZ.out,Below.refl _ _⟩
 case round=>
  clear HZ;obtain⟨k,rfl,hk,E9,hb⟩:=hrel;have PK:=zH E9;have HB:=zH hb;have HR:=zH (H1.out.below hb hS);have IF:=zH (H2.out.below hb iC);clear E9 hb;by_cases hlt:k<n
  ·have jJ:(k:Int)<(n:Int):=by omega
   obtain⟨b,o,x,cs,rfl,Bf,hx,hr,UP⟩:=HR.out.load_at (fun b h=>Nat.lt_of_lt_of_le (hS b h) HB.out.size) hlt;obtain⟨b2,o2,y,cs2,rfl,ab9,Bb,NK,NS⟩:=IF.out.load_at (fun b h=>Nat.lt_of_lt_of_le (iC b h) HB.out.size) hlt;have NV:(k:Int)≤(c:Int):=by have:=HR.out.cap;omega
   have NU:(k:Int)≤(c2:Int):=by have:=IF.out.cap;omega
   have fu:z=(bA x y&&gW bA (xs.drop (k+1)) (ys.drop (k+1))):=by rw[PK.out,ky hx,ky Bb];rfl
   have ka:=zH fu;obtain⟨z1,Fa⟩:∃q,bA x y=q:=⟨_,rfl⟩;rw[Fa] at fu;have HZE:=zH Fa;clear Fa;have ka:=zH fu;obtain⟨A3,n3,c3,A5,n5,c5,rfl,x1,x3⟩:=hr;obtain⟨A4,n4,c4,A6,n6,c6,rfl,x2,x4⟩:=NK;have cI:Below wr.heap.size wr (wr.alloc (.cells #[.string x.name,.slice A3 n3 c3,.slice A5 n5 c5] 97)):=(Below.refl _ _).alloc (Nat.le_refl _) _;have tw:dy (wr.alloc (.cells #[.string x.name,.slice A3 n3 c3,.slice A5 n5 c5] 97)) wr.heap.size 97 #[.string x.name,.slice A3 n3 c3,.slice A5 n5 c5]:=dy.new _ _ _;have fu:(wr.alloc (.cells #[.string x.name,.slice A3 n3 c3,.slice A5 n5 c5] 97)).heap.size=wr.heap.size+1:=by simp
   obtain⟨w1,fX⟩:∃q,wr.alloc (.cells #[.string x.name,.slice A3 n3 c3,.slice A5 n5 c5] 97)=q:=⟨_,rfl⟩;rw[fX] at cI tw fu;have bZ:Below wr.heap.size wr (w1.alloc (.cells #[.string y.name,.slice A4 n4 c4,.slice A6 n6 c6] 97)):=cI.alloc (by omega) _;have gR:dy (w1.alloc (.cells #[.string y.name,.slice A4 n4 c4,.slice A6 n6 c6] 97)) (wr.heap.size+1) 97 #[.string y.name,.slice A4 n4 c4,.slice A6 n6 c6]:=dy.new' fu _ _;have nX:=tw.alloc (.cells #[.string y.name,.slice A4 n4 c4,.slice A6 n6 c6] 97);obtain⟨w2,Sd⟩:∃q,w1.alloc (.cells #[.string y.name,.slice A4 n4 c4,.slice A6 n6 c6] 97)=q:=⟨_,rfl⟩;rw[Sd] at bZ gR nX;have iF:=UP wr (Below.refl _ _);have kV:=NS w1 cI;have p0:w2.cell? ⟨wr.heap.size,0,none⟩=some (.string x.name):=nX.cell 0;have p1:w2.cell? ⟨wr.heap.size,1,none⟩=some (.slice A3 n3 c3):=nX.cell 1;have p2:w2.cell? ⟨wr.heap.size,2,none⟩=some (.slice A5 n5 c5):=nX.cell 2;have q0:w2.cell? ⟨wr.heap.size+1,0,none⟩=some (.string y.name):=gR.cell 0;have q1:w2.cell? ⟨wr.heap.size+1,1,none⟩=some (.slice A4 n4 c4):=gR.cell 1;have q2:w2.cell? ⟨wr.heap.size+1,2,none⟩=some (.slice A6 n6 c6):=gR.cell 2;have r0:wr.cell? ⟨b,o+k*3,none⟩=some (.string x.name):=iF.1 _ rfl;have r1:wr.cell? ⟨b,o+k*3+1,none⟩=some (.slice A3 n3 c3):=iF.2 1 _ rfl;have r2:wr.cell? ⟨b,o+k*3+2,none⟩=some (.slice A5 n5 c5):=iF.2 2 _ rfl;have s0:w1.cell? ⟨b2,o2+k*3,none⟩=some (.string y.name):=kV.1 _ rfl;have s1:w1.cell? ⟨b2,o2+k*3+1,none⟩=some (.slice A4 n4 c4):=kV.2 1 _ rfl;have s2:w1.cell? ⟨b2,o2+k*3+2,none⟩=some (.slice A6 n6 c6):=kV.2 2 _ rfl;have hcc:=(zz (w:=w2) (S:=S) (S2:=S2) (a:=x) (b:=y) ⟨_,rfl,A3,n3,c3,A5,n5,c5,rfl,x1.below bZ (fun b h=>Nat.lt_of_lt_of_le (hS b h) HB.out.size),x3.below bZ (fun b h=>Nat.lt_of_lt_of_le (hS b h) HB.out.size)⟩ ⟨_,rfl,A4,n4,c4,A6,n6,c6,rfl,x2.below bZ (fun b h=>Nat.lt_of_lt_of_le (iC b h) HB.out.size),x4.below bZ (fun b h=>Nat.lt_of_lt_of_le (iC b h) HB.out.size)⟩ (fun b h=>Nat.lt_of_lt_of_le (hS b h) (Nat.le_trans HB.out.size bZ.size)) (fun b h=>Nat.lt_of_lt_of_le (iC b h) (Nat.le_trans HB.out.size bZ.size)));rw[HZE.out] at hcc;have HC:=zH hcc;have eP:=zH (ak HB.out bZ);have oq:=zH fX;have YG:=zH Sd;have HSZ:=zH fu;clear hcc iF kV fX Sd tw gR nX cI bZ UP NS hx Bb fu;go_upto_region 6 with(fail);rw[oq.out];go_upto_region 7 with(fail);rw[HSZ.out,YG.out];go_wp2_with fail;refine HC.out.mono ?_;rintro e w3 ⟨rfl,kD⟩;have mg:=zH (ak eP.out kD);clear kD;cases z1
   case false=>
    have bj:z=false:=by rw[ka.out];rfl
    have dL:=zH bj;clear bj;go_wp2_with fail;go_ret
    exact⟨by rw[dL.out];rfl,mg.out⟩
   case true=>
    go_wp2_with fail;go_roundw
    case rel=>exact⟨k+1,by go_num,by omega,by rw[ka.out,Bool.true_and],mg.out⟩
    case measure=>simp[intOf];omega
  ·have gM:k=n:=by omega
   have bj:z=true:=by
    rw[PK.out,List.drop_eq_nil_of_le (by rw[Ec.out];omega),List.drop_eq_nil_of_le (by rw[o0.out];omega)];rfl
   have dL:=zH bj;clear bj gM;go_wp2_with fail;go_ret
   exact⟨by rw[dL.out];rfl,HB.out⟩
end Go.Proofs.YtjlhbfbdcfajfaaGreatDoor
