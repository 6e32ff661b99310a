/- Same1 Same2 Same3 -/
import Derived.Test.YtdbpbfglhbiadaaGreatDoorL05
import Derived.Test.YtdbpbfglhbiadaaGreatDoorL11
import Derived.Test.YtdbpbfglhbiadaaGreatDoorProg
import Derived.Test.YtdbpbfglhbiadaaGreatDoorL01
import Derived.Test.YtdbpbfglhbiadaaGreatDoorL15
import Derived.Deep.DeepCutAuto
set_option maxHeartbeats 8000000
set_option maxRecDepth 100000
namespace Go.Proofs.YtdbpbfglhbiadaaGreatDoor
open Go.RowKit
theorem Bf {w:World} {S S2:Nat→Prop} {v v2:Value} {a b:aj} (h:SV w S v a) (h2:SV w S2 v2 b) (hS:∀b,S b→b<w.heap.size) (iM:∀b,S2 b→b<w.heap.size) : Calls Tryz.prog 53 #[v,v2] w (jZ w (.bool (bw a b))):=by
 obtain⟨cs,rfl,A,n,c,A2,n2,c2,rfl,r1,r2⟩:=h;obtain⟨cs,rfl,A3,n3,c3,A4,n4,c4,rfl,r3,r4⟩:=h2;obtain⟨w1,gl⟩:∃x,(w.alloc (.cells #[.string a.name,.slice A n c,.slice A2 n2 c2] 42)).alloc (.cells #[.string b.name,.slice A3 n3 c3,.slice A4 n4 c4] 42)=x:=⟨_,rfl⟩;have cK:Below w.heap.size w w1:=by rw[←gl];exact((Below.refl _ _).alloc (Nat.le_refl _) _).alloc (by simp) _
 have Fz:dI w1 w.heap.size 42 #[.string a.name,.slice A n c,.slice A2 n2 c2]:=by rw[←gl];exact(dI.new _ _ _).alloc _
 have Fy:dI w1 (w.heap.size+1) 42 #[.string b.name,.slice A3 n3 c3,.slice A4 n4 c4]:=by
  rw[←gl];have:=dI.new (w.alloc (.cells #[.string a.name,.slice A n c,.slice A2 n2 c2] 42)) 42 #[.string b.name,.slice A3 n3 c3,.slice A4 n4 c4];simpa using this
 have H1:=zH (r1.below cK hS);have H2:=zH (r2.below cK hS);have H3:=zH (r3.below cK iM);have H4:=zH (r4.below cK iM);obtain⟨na,pa,ca⟩:=a;obtain⟨nb,pb,cb⟩:=b;obtain⟨z,hz⟩:∃z,bw ⟨na,pa,ca⟩ ⟨nb,pb,cb⟩=z:=⟨_,rfl⟩;have fL:z=(decide (na=nb)&&(decide (pa=pb)&&decide (ca=cb))):=hz.symm;rw[hz];obtain⟨d0,d1,d2,_,_,_⟩:=Fz.facts3;obtain⟨d3,d4,d5,_,_,_⟩:=Fy.facts3;have oS:=zH gl;have fK:=zH cK;have HZ:=zH fL;clear gl cK hz fL Fz Fy r1 r2 r3 r4;go_enter Tryz.func53,Tryz.ntmps53;by_cases hn:na=nb
 ·have bm:=HZ.out;rw[decide_eq_true hn,Bool.true_and] at bm;have dU:=zH bm;have heq:(na.toList==nb.toList)=true:=by rw[hn];simp
  clear bm HZ hn;go_wp2_with fail;rw[oS.out];go_wp2_with fail;refine(Ar H1.out H3.out).mono ?_;rintro e w' ⟨rfl,m,rfl⟩;by_cases hx:pa=pb
  ·have bm:=dU.out;rw[decide_eq_true hx,Bool.true_and] at bm;rw[decide_eq_true hx];have lC:=zH bm;clear bm dU hx;go_wp2_with fail;refine(Ar (H2.out.drewN m) (H4.out.drewN m)).mono ?_;rintro e w' ⟨rfl,m2,rfl⟩;rw[←lC.out];go_wp2_with fail;go_ret
   exact⟨rfl,below_drewN fK.out (m+m2)⟩
  ·have bm:=dU.out;rw[decide_eq_false hx,Bool.false_and] at bm;rw[decide_eq_false hx];have lC:=zH bm;clear bm dU hx;go_wp2_with fail;go_ret
   exact⟨by rw[lC.out];rfl,below_drewN fK.out m⟩
 ·have bm:=HZ.out;rw[decide_eq_false hn,Bool.false_and] at bm;have dU:=zH bm;have heq:(na.toList==nb.toList)=false:=by
   have:=Lib.bytes_beq_false_iff na nb;exact this.2 hn
  clear bm HZ hn;go_wp2_with fail;rw[oS.out];go_wp2_with fail;go_ret
  exact⟨by rw[dU.out];rfl,fK.out⟩
theorem wH {w:World} {S S2:Nat→Prop} {v v2:Value} {a b:ae} (h:SV w S v a) (h2:SV w S2 v2 b) (hS:∀b,S b→b<w.heap.size) (iM:∀b,S2 b→b<w.heap.size) : Calls Tryz.prog 51 #[v,v2] w (jZ w (.bool (bc a b))):=by
 obtain⟨cs,rfl,A,n,c,rfl,r1⟩:=h;obtain⟨cs,rfl,A3,n3,c3,rfl,r3⟩:=h2;obtain⟨w1,gl⟩:∃x,(w.alloc (.cells #[.string a.name,.slice A n c,.int .i64 a.method,.int .i64 a.seats,.int .i64 a.ranks,.int .i64 a.digits,.int .i64 a.ties,.int .i64 a.over,.int .i64 a.skip] 87)).alloc (.cells #[.string b.name,.slice A3 n3 c3,.int .i64 b.method,.int .i64 b.seats,.int .i64 b.ranks,.int .i64 b.digits,.int .i64 b.ties,.int .i64 b.over,.int .i64 b.skip] 87)=x:=⟨_,rfl⟩;have cK:Below w.heap.size w w1:=by rw[←gl];exact((Below.refl _ _).alloc (Nat.le_refl _) _).alloc (by simp) _
 have Fz:dI w1 w.heap.size 87 #[.string a.name,.slice A n c,.int .i64 a.method,.int .i64 a.seats,.int .i64 a.ranks,.int .i64 a.digits,.int .i64 a.ties,.int .i64 a.over,.int .i64 a.skip]:=by rw[←gl];exact(dI.new _ _ _).alloc _
 have Fy:dI w1 (w.heap.size+1) 87 #[.string b.name,.slice A3 n3 c3,.int .i64 b.method,.int .i64 b.seats,.int .i64 b.ranks,.int .i64 b.digits,.int .i64 b.ties,.int .i64 b.over,.int .i64 b.skip]:=by
  rw[←gl];have:=dI.new (w.alloc (.cells #[.string a.name,.slice A n c,.int .i64 a.method,.int .i64 a.seats,.int .i64 a.ranks,.int .i64 a.digits,.int .i64 a.ties,.int .i64 a.over,.int .i64 a.skip] 87)) 87 #[.string b.name,.slice A3 n3 c3,.int .i64 b.method,.int .i64 b.seats,.int .i64 b.ranks,.int .i64 b.digits,.int .i64 b.ties,.int .i64 b.over,.int .i64 b.skip];simpa using this
 have H1:=zH (r1.below cK hS);have H3:=zH (r3.below cK iM);obtain⟨na,pa,a0,a1,a2,a3,a4,a5,a6⟩:=a;obtain⟨nb,pb,b0,b1,b2,b3,b4,b5,b6⟩:=b;obtain⟨z,hz⟩:∃z,bc ⟨na,pa,a0,a1,a2,a3,a4,a5,a6⟩ ⟨nb,pb,b0,b1,b2,b3,b4,b5,b6⟩=z:=⟨_,rfl⟩;have fL:z=(decide (na=nb)&&(decide (pa=pb)&&(decide (a0=b0)&&(decide (a1=b1)&&(decide (a2=b2)&&(decide (a3=b3)&&(decide (a4=b4)&&(decide (a5=b5)&&(decide (a6=b6)))))))))):=hz.symm;rw[hz];have d0:w1.cell? ⟨w.heap.size,0,none⟩=some (.string na):=Fz.cell 0;have d1:w1.cell? ⟨w.heap.size,1,none⟩=some (.slice A n c):=Fz.cell 1;have e0:w1.cell? ⟨w.heap.size+1,0,none⟩=some (.string nb):=Fy.cell 0;have e1:w1.cell? ⟨w.heap.size+1,1,none⟩=some (.slice A3 n3 c3):=Fy.cell 1;have d2:w1.cell? ⟨w.heap.size,2,none⟩=some (.int .i64 a0):=Fz.cell 2;have e2:w1.cell? ⟨w.heap.size+1,2,none⟩=some (.int .i64 b0):=Fy.cell 2;have d3:w1.cell? ⟨w.heap.size,3,none⟩=some (.int .i64 a1):=Fz.cell 3;have e3:w1.cell? ⟨w.heap.size+1,3,none⟩=some (.int .i64 b1):=Fy.cell 3;have d4:w1.cell? ⟨w.heap.size,4,none⟩=some (.int .i64 a2):=Fz.cell 4;have e4:w1.cell? ⟨w.heap.size+1,4,none⟩=some (.int .i64 b2):=Fy.cell 4;have d5:w1.cell? ⟨w.heap.size,5,none⟩=some (.int .i64 a3):=Fz.cell 5;have e5:w1.cell? ⟨w.heap.size+1,5,none⟩=some (.int .i64 b3):=Fy.cell 5;have d6:w1.cell? ⟨w.heap.size,6,none⟩=some (.int .i64 a4):=Fz.cell 6;have e6:w1.cell? ⟨w.heap.size+1,6,none⟩=some (.int .i64 b4):=Fy.cell 6;have d7:w1.cell? ⟨w.heap.size,7,none⟩=some (.int .i64 a5):=Fz.cell 7;have e7:w1.cell? ⟨w.heap.size+1,7,none⟩=some (.int .i64 b5):=Fy.cell 7;have d8:w1.cell? ⟨w.heap.size,8,none⟩=some (.int .i64 a6):=Fz.cell 8;have e8:w1.cell? ⟨w.heap.size+1,8,none⟩=some (.int .i64 b6):=Fy.cell 8;have oS:=zH gl;have fK:=zH cK;have HZ:=zH fL;clear gl cK hz fL Fz Fy r1 r3;go_enter Tryz.func51,Tryz.ntmps51;by_cases hn:na=nb
 case neg=>
  have bm:=HZ.out;rw[decide_eq_false hn,Bool.false_and] at bm;have dU:=zH bm;have heq:(na.toList==nb.toList)=false:=(Lib.bytes_beq_false_iff na nb).2 hn;clear bm HZ hn;go_wp2_with fail;rw[oS.out];go_wp2_with fail;go_ret
  exact⟨by rw[dU.out];rfl,fK.out⟩
 have bm:=HZ.out;rw[decide_eq_true hn,Bool.true_and] at bm;have qR:=zH bm;have heq:(na.toList==nb.toList)=true:=by rw[hn];simp
 clear bm HZ hn;go_wp2_with fail;rw[oS.out];go_wp2_with fail;refine(An H1.out H3.out).mono ?_;rintro e w' ⟨rfl,m,rfl⟩;by_cases hx:pa=pb
 case neg=>
  have bm:=qR.out;rw[decide_eq_false hx,Bool.false_and] at bm;rw[decide_eq_false hx];have dU:=zH bm;clear bm qR hx;go_wp2_with fail;go_ret
  exact⟨by rw[dU.out];rfl,below_drewN fK.out m⟩
 have bm:=qR.out;rw[decide_eq_true hx,Bool.true_and] at bm;rw[decide_eq_true hx];have ku:=zH bm;clear bm qR hx;by_cases h0:a0=b0
 case neg=>
  have bm:=ku.out;rw[decide_eq_false h0,Bool.false_and] at bm;have dU:=zH bm;have g0:(a0==b0)=false:=by rw[beq_eq_false_iff_ne];exact h0
  clear bm ku h0;go_wp2_with fail;go_ret
  exact⟨by rw[dU.out];rfl,below_drewN fK.out m⟩
 have bm:=ku.out;rw[decide_eq_true h0,Bool.true_and] at bm;have lC:=zH bm;have g0:(a0==b0)=true:=by rw[beq_iff_eq];exact h0
 clear bm ku h0;by_cases h1:a1=b1
 case neg=>
  have bm:=lC.out;rw[decide_eq_false h1,Bool.false_and] at bm;have dU:=zH bm;have g1:(a1==b1)=false:=by rw[beq_eq_false_iff_ne];exact h1
  clear bm lC h1;go_wp2_with fail;go_ret
  exact⟨by rw[dU.out];rfl,below_drewN fK.out m⟩
 have bm:=lC.out;rw[decide_eq_true h1,Bool.true_and] at bm;have HZ3:=zH bm;have g1:(a1==b1)=true:=by rw[beq_iff_eq];exact h1
 clear bm lC h1;by_cases h2:a2=b2
 case neg=>
  have bm:=HZ3.out;rw[decide_eq_false h2,Bool.false_and] at bm;have dU:=zH bm;have g2:(a2==b2)=false:=by rw[beq_eq_false_iff_ne];exact h2
  clear bm HZ3 h2;go_wp2_with fail;go_ret
  exact⟨by rw[dU.out];rfl,below_drewN fK.out m⟩
 have bm:=HZ3.out;rw[decide_eq_true h2,Bool.true_and] at bm;have HZ4:=zH bm;have g2:(a2==b2)=true:=by rw[beq_iff_eq];exact h2
 clear bm HZ3 h2;by_cases h3:a3=b3
 case neg=>
  have bm:=HZ4.out;rw[decide_eq_false h3,Bool.false_and] at bm;have dU:=zH bm;have g3:(a3==b3)=false:=by rw[beq_eq_false_iff_ne];exact h3
  clear bm HZ4 h3;go_wp2_with fail;go_ret
  exact⟨by rw[dU.out];rfl,below_drewN fK.out m⟩
 have bm:=HZ4.out;rw[decide_eq_true h3,Bool.true_and] at bm;have HZ5:=zH bm;have g3:(a3==b3)=true:=by rw[beq_iff_eq];exact h3
 clear bm HZ4 h3;by_cases h4:a4=b4
 case neg=>
  have bm:=HZ5.out;rw[decide_eq_false h4,Bool.false_and] at bm;have dU:=zH bm;have g4:(a4==b4)=false:=by rw[beq_eq_false_iff_ne];exact h4
  clear bm HZ5 h4;go_wp2_with fail;go_ret
  exact⟨by rw[dU.out];rfl,below_drewN fK.out m⟩
 have bm:=HZ5.out;rw[decide_eq_true h4,Bool.true_and] at bm;have HZ6:=zH bm;have g4:(a4==b4)=true:=by rw[beq_iff_eq];exact h4
 clear bm HZ5 h4;by_cases h5:a5=b5
 case neg=>
  have bm:=HZ6.out;rw[decide_eq_false h5,Bool.false_and] at bm;have dU:=zH bm;have g5:(a5==b5)=false:=by rw[beq_eq_false_iff_ne];exact h5
  clear bm HZ6 h5;go_wp2_with fail;go_ret
  exact⟨by rw[dU.out];rfl,below_drewN fK.out m⟩
 have bm:=HZ6.out;rw[decide_eq_true h5,Bool.true_and] at bm;have HZ7:=zH bm;have g5:(a5==b5)=true:=by rw[beq_iff_eq];exact h5
 clear bm HZ6 h5;by_cases h6:a6=b6
 case neg=>
  have bm:=HZ7.out;rw[decide_eq_false h6] at bm;have dU:=zH bm;have g6:(a6==b6)=false:=by rw[beq_eq_false_iff_ne];exact h6
  clear bm HZ7 h6;go_wp2_with fail;go_ret
  exact⟨by rw[dU.out];rfl,below_drewN fK.out m⟩
 have bm:=HZ7.out;rw[decide_eq_true h6] at bm;have HZ8:=zH bm;have g6:(a6==b6)=true:=by rw[beq_iff_eq];exact h6
 clear bm HZ7 h6;go_wp2_with fail;go_ret
 exact⟨by rw[HZ8.out];rfl,below_drewN fK.out m⟩
theorem RS.load_at {α:Type} [aF α] {w:World} {S:Nat→Prop} {A:Option Addr} {n c:Nat} {xs:List α} (h:RS w S A n c xs) (hS:∀b,S b→b<w.heap.size) {k:Nat} (hk:k<n) : ∃b o x cs,A=some ⟨b,o,none⟩∧S b∧xs[k]?=some x∧aF.rep w S cs x∧∀w',Below w.heap.size w w'→(∀u,cs[0]?=some u→w'.cell? ⟨b,o+k*aF.sz α,none⟩=some u)∧∀j u,cs[j]?=some u→w'.cell? ⟨b,o+k*aF.sz α+j,none⟩=some u:=by
 obtain⟨b,o,x,cs,rfl,hb,hx,hr,hc⟩:=h.at_ hk;have hcc:∀w',Below w.heap.size w w'→∀j u,cs[j]?=some u→w'.cell? ⟨b,o+k*aF.sz α+j,none⟩=some u:=by
  intro w' hw j u hj;rw[←hc j u hj,←Nat.add_assoc];exact hw.cell (p:=⟨b,o+k*aF.sz α+j,none⟩) (hS b hb)
 exact⟨b,o,x,cs,rfl,hb,hx,hr,fun w' hw=>⟨fun u hu=>hcc w' hw 0 u hu,hcc w' hw⟩⟩
theorem Cm {α:Type} {f:α→α→Bool}:∀{xs ys:List α},xs.length≠ys.length→gU f xs ys=false
 | [],[],h=>absurd rfl h
 | [],_::_,_=>rfl
 | _::_,[],_=>rfl
 | x::l,y::m,h=>by
  have:l.length≠m.length:=fun e=>h (by simp[e]);rw[gU,Cm this,Bool.and_false]
theorem kN {α:Type} {xs:List α} {k:Nat} {x:α} (h:xs[k]?=some x):xs.drop k=x::xs.drop (k+1):=by
 obtain⟨hk,rfl⟩:=List.getElem?_eq_some_iff.1 h;exact List.drop_eq_getElem_cons hk
theorem Cd {w:World} {S S2:Nat→Prop} {A A2:Option Addr} {n c n2 c2:Nat} {xs ys:List ae} (h:RS w S A n c xs) (h2:RS w S2 A2 n2 c2 ys) (hS:∀b,S b→b<w.heap.size) (iM:∀b,S2 b→b<w.heap.size) : Calls Tryz.prog 50 #[.slice A n c,.slice A2 n2 c2,.func (.func 51) #[] #[]] w (jZ w (.bool (gU bc xs ys))):=by
 obtain⟨z,hz⟩:∃z,gU bc xs ys=z:=⟨_,rfl⟩;rw[hz];have fL:=hz.symm;have hl1:=h.len;have hl2:=h2.len;have Jm:=h.max;have hm2:=h2.max;have fG:n≠n2→z=false:=fun e=>by rw[fL];exact Cm (by rw[hl1,hl2];exact e)
 have H1:=zH h;have H2:=zH h2;have HZ:=zH fL;have FF:=zH hl1;have pG:=zH hl2;have HNE:=zH fG;clear h h2 hz fL hl1 hl2 fG;go_enter Tryz.func50,Tryz.ntmps50;by_cases hn:n=n2
 case neg=>
  have bm:=HNE.out hn;have dU:=zH bm;have hb:((n:Int)==(n2:Int))=false:=by rw[beq_eq_false_iff_ne];omega
  have cm:(n==n2)=false:=by rw[beq_eq_false_iff_ne];exact hn
  clear bm hn HNE;go_wp2_with fail;go_ret
  exact⟨by rw[dU.out];rfl,Below.refl _ _⟩
 subst hn;clear HNE;go_wp2_with fail;go_loopw [17] (fun iv wr=>∃k:Nat,iv=.int .i64 k∧k≤n∧z=gU bc (xs.drop k) (ys.drop k)∧Below w.heap.size w wr) (fun iv _=>n-(intOf iv).toNat)
 case atStart=>exact⟨0,rfl,Nat.zero_le _,by simpa using HZ.out,Below.refl _ _⟩
 case round=>
  clear HZ;obtain⟨k,rfl,hk,Gz,hb⟩:=hrel;have RO:=zH Gz;have HB:=zH hb;have HR:=zH (H1.out.below hb hS);have J2:=zH (H2.out.below hb iM);clear Gz hb;by_cases hlt:k<n
  ·have jX:(k:Int)<(n:Int):=by omega
   obtain⟨b,o,x,cs,rfl,CE,hx,hr,W4⟩:=HR.out.load_at (fun b h=>Nat.lt_of_lt_of_le (hS b h) HB.out.size) hlt;obtain⟨b2,o2,y,cs2,rfl,afP,Cw,PK,PU⟩:=J2.out.load_at (fun b h=>Nat.lt_of_lt_of_le (iM b h) HB.out.size) hlt;have PY:(k:Int)≤(c:Int):=by have:=HR.out.cap;omega
   have PX:(k:Int)≤(c2:Int):=by have:=J2.out.cap;omega
   have fF:z=(bc x y&&gU bc (xs.drop (k+1)) (ys.drop (k+1))):=by rw[RO.out,kN hx,kN Cw];rfl
   have ku:=zH fF;obtain⟨z1,GA⟩:∃q,bc x y=q:=⟨_,rfl⟩;rw[GA] at fF;have HZE:=zH GA;clear GA;have ku:=zH fF;obtain⟨A3,n3,c3,rfl,x1⟩:=hr;obtain⟨A4,n4,c4,rfl,x2⟩:=PK;have cK:Below wr.heap.size wr (wr.alloc (.cells #[.string x.name,.slice A3 n3 c3,.int .i64 x.method,.int .i64 x.seats,.int .i64 x.ranks,.int .i64 x.digits,.int .i64 x.ties,.int .i64 x.over,.int .i64 x.skip] 87)):=(Below.refl _ _).alloc (Nat.le_refl _) _;have oF:dI (wr.alloc (.cells #[.string x.name,.slice A3 n3 c3,.int .i64 x.method,.int .i64 x.seats,.int .i64 x.ranks,.int .i64 x.digits,.int .i64 x.ties,.int .i64 x.over,.int .i64 x.skip] 87)) wr.heap.size 87 #[.string x.name,.slice A3 n3 c3,.int .i64 x.method,.int .i64 x.seats,.int .i64 x.ranks,.int .i64 x.digits,.int .i64 x.ties,.int .i64 x.over,.int .i64 x.skip]:=dI.new _ _ _;have fF:(wr.alloc (.cells #[.string x.name,.slice A3 n3 c3,.int .i64 x.method,.int .i64 x.seats,.int .i64 x.ranks,.int .i64 x.digits,.int .i64 x.ties,.int .i64 x.over,.int .i64 x.skip] 87)).heap.size=wr.heap.size+1:=by simp
   obtain⟨w1,gl⟩:∃q,wr.alloc (.cells #[.string x.name,.slice A3 n3 c3,.int .i64 x.method,.int .i64 x.seats,.int .i64 x.ranks,.int .i64 x.digits,.int .i64 x.ties,.int .i64 x.over,.int .i64 x.skip] 87)=q:=⟨_,rfl⟩;rw[gl] at cK oF fF;have cm:Below wr.heap.size wr (w1.alloc (.cells #[.string y.name,.slice A4 n4 c4,.int .i64 y.method,.int .i64 y.seats,.int .i64 y.ranks,.int .i64 y.digits,.int .i64 y.ties,.int .i64 y.over,.int .i64 y.skip] 87)):=cK.alloc (by omega) _;have hZ:dI (w1.alloc (.cells #[.string y.name,.slice A4 n4 c4,.int .i64 y.method,.int .i64 y.seats,.int .i64 y.ranks,.int .i64 y.digits,.int .i64 y.ties,.int .i64 y.over,.int .i64 y.skip] 87)) (wr.heap.size+1) 87 #[.string y.name,.slice A4 n4 c4,.int .i64 y.method,.int .i64 y.seats,.int .i64 y.ranks,.int .i64 y.digits,.int .i64 y.ties,.int .i64 y.over,.int .i64 y.skip]:=dI.new' fF _ _;have oE:=oF.alloc (.cells #[.string y.name,.slice A4 n4 c4,.int .i64 y.method,.int .i64 y.seats,.int .i64 y.ranks,.int .i64 y.digits,.int .i64 y.ties,.int .i64 y.over,.int .i64 y.skip] 87);obtain⟨w2,UE⟩:∃q,w1.alloc (.cells #[.string y.name,.slice A4 n4 c4,.int .i64 y.method,.int .i64 y.seats,.int .i64 y.ranks,.int .i64 y.digits,.int .i64 y.ties,.int .i64 y.over,.int .i64 y.skip] 87)=q:=⟨_,rfl⟩;rw[UE] at cm hZ oE;have iP:=W4 wr (Below.refl _ _);have lw:=PU w1 cK;have p0:w2.cell? ⟨wr.heap.size,0,none⟩=some (.string x.name):=oE.cell 0;have p1:w2.cell? ⟨wr.heap.size,1,none⟩=some (.slice A3 n3 c3):=oE.cell 1;have p2:w2.cell? ⟨wr.heap.size,2,none⟩=some (.int .i64 x.method):=oE.cell 2;have p3:w2.cell? ⟨wr.heap.size,3,none⟩=some (.int .i64 x.seats):=oE.cell 3;have p4:w2.cell? ⟨wr.heap.size,4,none⟩=some (.int .i64 x.ranks):=oE.cell 4;have p5:w2.cell? ⟨wr.heap.size,5,none⟩=some (.int .i64 x.digits):=oE.cell 5;have p6:w2.cell? ⟨wr.heap.size,6,none⟩=some (.int .i64 x.ties):=oE.cell 6;have p7:w2.cell? ⟨wr.heap.size,7,none⟩=some (.int .i64 x.over):=oE.cell 7;have p8:w2.cell? ⟨wr.heap.size,8,none⟩=some (.int .i64 x.skip):=oE.cell 8;have q0:w2.cell? ⟨wr.heap.size+1,0,none⟩=some (.string y.name):=hZ.cell 0;have q1:w2.cell? ⟨wr.heap.size+1,1,none⟩=some (.slice A4 n4 c4):=hZ.cell 1;have q2:w2.cell? ⟨wr.heap.size+1,2,none⟩=some (.int .i64 y.method):=hZ.cell 2;have q3:w2.cell? ⟨wr.heap.size+1,3,none⟩=some (.int .i64 y.seats):=hZ.cell 3;have q4:w2.cell? ⟨wr.heap.size+1,4,none⟩=some (.int .i64 y.ranks):=hZ.cell 4;have q5:w2.cell? ⟨wr.heap.size+1,5,none⟩=some (.int .i64 y.digits):=hZ.cell 5;have q6:w2.cell? ⟨wr.heap.size+1,6,none⟩=some (.int .i64 y.ties):=hZ.cell 6;have q7:w2.cell? ⟨wr.heap.size+1,7,none⟩=some (.int .i64 y.over):=hZ.cell 7;have q8:w2.cell? ⟨wr.heap.size+1,8,none⟩=some (.int .i64 y.skip):=hZ.cell 8;have r0:wr.cell? ⟨b,o+k*9,none⟩=some (.string x.name):=iP.1 _ rfl;have r1:wr.cell? ⟨b,o+k*9+1,none⟩=some (.slice A3 n3 c3):=iP.2 1 _ rfl;have r2:wr.cell? ⟨b,o+k*9+2,none⟩=some (.int .i64 x.method):=iP.2 2 _ rfl;have r3:wr.cell? ⟨b,o+k*9+3,none⟩=some (.int .i64 x.seats):=iP.2 3 _ rfl;have r4:wr.cell? ⟨b,o+k*9+4,none⟩=some (.int .i64 x.ranks):=iP.2 4 _ rfl;have r5:wr.cell? ⟨b,o+k*9+5,none⟩=some (.int .i64 x.digits):=iP.2 5 _ rfl;have r6:wr.cell? ⟨b,o+k*9+6,none⟩=some (.int .i64 x.ties):=iP.2 6 _ rfl;have r7:wr.cell? ⟨b,o+k*9+7,none⟩=some (.int .i64 x.over):=iP.2 7 _ rfl;have r8:wr.cell? ⟨b,o+k*9+8,none⟩=some (.int .i64 x.skip):=iP.2 8 _ rfl;have s0:w1.cell? ⟨b2,o2+k*9,none⟩=some (.string y.name):=lw.1 _ rfl;have s1:w1.cell? ⟨b2,o2+k*9+1,none⟩=some (.slice A4 n4 c4):=lw.2 1 _ rfl;have s2:w1.cell? ⟨b2,o2+k*9+2,none⟩=some (.int .i64 y.method):=lw.2 2 _ rfl;have s3:w1.cell? ⟨b2,o2+k*9+3,none⟩=some (.int .i64 y.seats):=lw.2 3 _ rfl;have s4:w1.cell? ⟨b2,o2+k*9+4,none⟩=some (.int .i64 y.ranks):=lw.2 4 _ rfl;have s5:w1.cell? ⟨b2,o2+k*9+5,none⟩=some (.int .i64 y.digits):=lw.2 5 _ rfl;have s6:w1.cell? ⟨b2,o2+k*9+6,none⟩=some (.int .i64 y.ties):=lw.2 6 _ rfl;have s7:w1.cell? ⟨b2,o2+k*9+7,none⟩=some (.int .i64 y.over):=lw.2 7 _ rfl;have s8:w1.cell? ⟨b2,o2+k*9+8,none⟩=some (.int .i64 y.skip):=lw.2 8 _ rfl;have hcc:=(wH (w:=w2) (S:=S) (S2:=S2) (a:=x) (b:=y) ⟨_,rfl,A3,n3,c3,rfl,x1.below cm (fun b h=>Nat.lt_of_lt_of_le (hS b h) HB.out.size)⟩ ⟨_,rfl,A4,n4,c4,rfl,x2.below cm (fun b h=>Nat.lt_of_lt_of_le (iM b h) HB.out.size)⟩ (fun b h=>Nat.lt_of_lt_of_le (hS b h) (Nat.le_trans HB.out.size cm.size)) (fun b h=>Nat.lt_of_lt_of_le (iM b h) (Nat.le_trans HB.out.size cm.size)));rw[HZE.out] at hcc;have HC:=zH hcc;have fg:=zH (ao HB.out cm);have oS:=zH gl;have HW2:=zH UE;have HSZ:=zH fF;clear hcc iP lw gl UE oF hZ oE cK cm W4 PU hx Cw fF;go_upto_region 6 with(fail);rw[oS.out];go_upto_region 7 with(fail);rw[HSZ.out,HW2.out];go_wp2_with fail;refine HC.out.mono ?_;rintro e w3 ⟨rfl,kR⟩;have mM:=zH (ao fg.out kR);clear kR;cases z1
   case false=>
    have bm:z=false:=by rw[ku.out];rfl
    have dU:=zH bm;clear bm;go_wp2_with fail;go_ret
    exact⟨by rw[dU.out];rfl,mM.out⟩
   case true=>
    go_wp2_with fail;go_roundw
    case rel=>exact⟨k+1,by go_num,by omega,by rw[ku.out,Bool.true_and],mM.out⟩
    case measure=>simp[intOf];omega
  ·have gX:k=n:=by omega
   have bm:z=true:=by
    rw[RO.out,List.drop_eq_nil_of_le (by rw[FF.out];omega),List.drop_eq_nil_of_le (by rw[pG.out];omega)];rfl
   have dU:=zH bm;clear bm gX;go_wp2_with fail;go_ret
   exact⟨by rw[dU.out];rfl,HB.out⟩
theorem GU {w:World} {S S2:Nat→Prop} {A A2:Option Addr} {n c n2 c2:Nat} {xs ys:List aj} (h:RS w S A n c xs) (h2:RS w S2 A2 n2 c2 ys) (hS:∀b,S b→b<w.heap.size) (iM:∀b,S2 b→b<w.heap.size) : Calls Tryz.prog 52 #[.slice A n c,.slice A2 n2 c2,.func (.func 53) #[] #[]] w (jZ w (.bool (gU bw xs ys))):=by
 obtain⟨z,hz⟩:∃z,gU bw xs ys=z:=⟨_,rfl⟩;rw[hz];have fL:=hz.symm;have hl1:=h.len;have hl2:=h2.len;have Jm:=h.max;have hm2:=h2.max;have fG:n≠n2→z=false:=fun e=>by rw[fL];exact Cm (by rw[hl1,hl2];exact e)
 have H1:=zH h;have H2:=zH h2;have HZ:=zH fL;have FF:=zH hl1;have pG:=zH hl2;have HNE:=zH fG;clear h h2 hz fL hl1 hl2 fG;go_enter Tryz.func52,Tryz.ntmps52;by_cases hn:n=n2
 case neg=>
  have bm:=HNE.out hn;have dU:=zH bm;have hb:((n:Int)==(n2:Int))=false:=by rw[beq_eq_false_iff_ne];omega
  have cm:(n==n2)=false:=by rw[beq_eq_false_iff_ne];exact hn
  clear bm hn HNE;go_wp2_with fail;go_ret
  exact⟨by rw[dU.out];rfl,Below.refl _ _⟩
 subst hn;clear HNE;go_wp2_with fail;go_loopw [17] (fun iv wr=>∃k:Nat,iv=.int .i64 k∧k≤n∧z=gU bw (xs.drop k) (ys.drop k)∧Below w.heap.size w wr) (fun iv _=>n-(intOf iv).toNat)
 case atStart=>exact⟨0,rfl,Nat.zero_le _,by simpa using HZ.out,Below.refl _ _⟩
 case round=>
  clear HZ;obtain⟨k,rfl,hk,Gz,hb⟩:=hrel;have RO:=zH Gz;have HB:=zH hb;have HR:=zH (H1.out.below hb hS);have J2:=zH (H2.out.below hb iM);clear Gz hb;by_cases hlt:k<n
  ·have jX:(k:Int)<(n:Int):=by omega
   obtain⟨b,o,x,cs,rfl,CE,hx,hr,W4⟩:=HR.out.load_at (fun b h=>Nat.lt_of_lt_of_le (hS b h) HB.out.size) hlt;obtain⟨b2,o2,y,cs2,rfl,afP,Cw,PK,PU⟩:=J2.out.load_at (fun b h=>Nat.lt_of_lt_of_le (iM b h) HB.out.size) hlt;have PY:(k:Int)≤(c:Int):=by have:=HR.out.cap;omega
   have PX:(k:Int)≤(c2:Int):=by have:=J2.out.cap;omega
   have fF:z=(bw x y&&gU bw (xs.drop (k+1)) (ys.drop (k+1))):=by rw[RO.out,kN hx,kN Cw];rfl
   have ku:=zH fF;obtain⟨z1,GA⟩:∃q,bw x y=q:=⟨_,rfl⟩;rw[GA] at fF;have HZE:=zH GA;clear GA;have ku:=zH fF;obtain⟨A3,n3,c3,A5,n5,c5,rfl,x1,x3⟩:=hr;obtain⟨A4,n4,c4,A6,n6,c6,rfl,x2,x4⟩:=PK;have cK:Below wr.heap.size wr (wr.alloc (.cells #[.string x.name,.slice A3 n3 c3,.slice A5 n5 c5] 42)):=(Below.refl _ _).alloc (Nat.le_refl _) _;have oF:dI (wr.alloc (.cells #[.string x.name,.slice A3 n3 c3,.slice A5 n5 c5] 42)) wr.heap.size 42 #[.string x.name,.slice A3 n3 c3,.slice A5 n5 c5]:=dI.new _ _ _;have fF:(wr.alloc (.cells #[.string x.name,.slice A3 n3 c3,.slice A5 n5 c5] 42)).heap.size=wr.heap.size+1:=by simp
   obtain⟨w1,gl⟩:∃q,wr.alloc (.cells #[.string x.name,.slice A3 n3 c3,.slice A5 n5 c5] 42)=q:=⟨_,rfl⟩;rw[gl] at cK oF fF;have cm:Below wr.heap.size wr (w1.alloc (.cells #[.string y.name,.slice A4 n4 c4,.slice A6 n6 c6] 42)):=cK.alloc (by omega) _;have hZ:dI (w1.alloc (.cells #[.string y.name,.slice A4 n4 c4,.slice A6 n6 c6] 42)) (wr.heap.size+1) 42 #[.string y.name,.slice A4 n4 c4,.slice A6 n6 c6]:=dI.new' fF _ _;have oE:=oF.alloc (.cells #[.string y.name,.slice A4 n4 c4,.slice A6 n6 c6] 42);obtain⟨w2,UE⟩:∃q,w1.alloc (.cells #[.string y.name,.slice A4 n4 c4,.slice A6 n6 c6] 42)=q:=⟨_,rfl⟩;rw[UE] at cm hZ oE;have iP:=W4 wr (Below.refl _ _);have lw:=PU w1 cK;have p0:w2.cell? ⟨wr.heap.size,0,none⟩=some (.string x.name):=oE.cell 0;have p1:w2.cell? ⟨wr.heap.size,1,none⟩=some (.slice A3 n3 c3):=oE.cell 1;have p2:w2.cell? ⟨wr.heap.size,2,none⟩=some (.slice A5 n5 c5):=oE.cell 2;have q0:w2.cell? ⟨wr.heap.size+1,0,none⟩=some (.string y.name):=hZ.cell 0;have q1:w2.cell? ⟨wr.heap.size+1,1,none⟩=some (.slice A4 n4 c4):=hZ.cell 1;have q2:w2.cell? ⟨wr.heap.size+1,2,none⟩=some (.slice A6 n6 c6):=hZ.cell 2;have r0:wr.cell? ⟨b,o+k*3,none⟩=some (.string x.name):=iP.1 _ rfl;have r1:wr.cell? ⟨b,o+k*3+1,none⟩=some (.slice A3 n3 c3):=iP.2 1 _ rfl;have r2:wr.cell? ⟨b,o+k*3+2,none⟩=some (.slice A5 n5 c5):=iP.2 2 _ rfl;have s0:w1.cell? ⟨b2,o2+k*3,none⟩=some (.string y.name):=lw.1 _ rfl;have s1:w1.cell? ⟨b2,o2+k*3+1,none⟩=some (.slice A4 n4 c4):=lw.2 1 _ rfl;have s2:w1.cell? ⟨b2,o2+k*3+2,none⟩=some (.slice A6 n6 c6):=lw.2 2 _ rfl;have hcc:=(Bf (w:=w2) (S:=S) (S2:=S2) (a:=x) (b:=y) ⟨_,rfl,A3,n3,c3,A5,n5,c5,rfl,x1.below cm (fun b h=>Nat.lt_of_lt_of_le (hS b h) HB.out.size),x3.below cm (fun b h=>Nat.lt_of_lt_of_le (hS b h) HB.out.size)⟩ ⟨_,rfl,A4,n4,c4,A6,n6,c6,rfl,x2.below cm (fun b h=>Nat.lt_of_lt_of_le (iM b h) HB.out.size),x4.below cm (fun b h=>Nat.lt_of_lt_of_le (iM b h) HB.out.size)⟩ (fun b h=>Nat.lt_of_lt_of_le (hS b h) (Nat.le_trans HB.out.size cm.size)) (fun b h=>Nat.lt_of_lt_of_le (iM b h) (Nat.le_trans HB.out.size cm.size)));rw[HZE.out] at hcc;have HC:=zH hcc;have fg:=zH (ao HB.out cm);have oS:=zH gl;have HW2:=zH UE;have HSZ:=zH fF;clear hcc iP lw gl UE oF hZ oE cK cm W4 PU hx Cw fF;go_upto_region 6 with(fail);rw[oS.out];go_upto_region 7 with(fail);rw[HSZ.out,HW2.out];go_wp2_with fail;refine HC.out.mono ?_;rintro e w3 ⟨rfl,kR⟩;have mM:=zH (ao fg.out kR);clear kR;cases z1
   case false=>
    have bm:z=false:=by rw[ku.out];rfl
    have dU:=zH bm;clear bm;go_wp2_with fail;go_ret
    exact⟨by rw[dU.out];rfl,mM.out⟩
   case true=>
    go_wp2_with fail;go_roundw
    case rel=>exact⟨k+1,by go_num,by omega,by rw[ku.out,Bool.true_and],mM.out⟩
    case measure=>simp[intOf];omega
  ·have gX:k=n:=by omega
   have bm:z=true:=by
    rw[RO.out,List.drop_eq_nil_of_le (by rw[FF.out];omega),List.drop_eq_nil_of_le (by rw[pG.out];omega)];rfl
   have dU:=zH bm;clear bm gX;go_wp2_with fail;go_ret
   exact⟨by rw[dU.out];rfl,HB.out⟩
end Go.Proofs.YtdbpbfglhbiadaaGreatDoor
