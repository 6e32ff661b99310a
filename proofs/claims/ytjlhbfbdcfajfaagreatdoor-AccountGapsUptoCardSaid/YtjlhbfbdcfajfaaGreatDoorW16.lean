/- Same1 Same2 Same3 -/
import Derived.Test.YtjlhbfbdcfajfaaGreatDoorW05
import Derived.Test.YtjlhbfbdcfajfaaGreatDoorW11
import Derived.Test.YtjlhbfbdcfajfaaGreatDoorProg
import Derived.Test.YtjlhbfbdcfajfaaGreatDoorW01
import Derived.Test.YtjlhbfbdcfajfaaGreatDoorW15
import Derived.Deep.DeepCutAuto
set_option maxHeartbeats 8000000
set_option maxRecDepth 100000
namespace Go.Proofs.YtjlhbfbdcfajfaaGreatDoor
open Go.RowKit
theorem AT {w:World} {S S2:Nat→Prop} {v v2:Value} {a b:ax} (h:SV w S v a) (h2:SV w S2 v2 b) (hS:∀b,S b→b<w.heap.size) (iN:∀b,S2 b→b<w.heap.size) : Calls Tryz.prog 80 #[v,v2] w (jQ w (.bool (bB a b))):=by
 obtain⟨cs,rfl,A,n,c,A2,n2,c2,rfl,r1,r2⟩:=h;obtain⟨cs,rfl,A3,n3,c3,A4,n4,c4,rfl,r3,r4⟩:=h2;obtain⟨w1,gj⟩:∃x,(w.alloc (.cells #[.string a.name,.slice A n c,.slice A2 n2 c2] 97)).alloc (.cells #[.string b.name,.slice A3 n3 c3,.slice A4 n4 c4] 97)=x:=⟨_,rfl⟩;have cI:Below w.heap.size w w1:=by rw[←gj];exact((Below.refl _ _).alloc (Nat.le_refl _) _).alloc (by simp) _
 have Fl:dE w1 w.heap.size 97 #[.string a.name,.slice A n c,.slice A2 n2 c2]:=by rw[←gj];exact(dE.new _ _ _).alloc _
 have Fj:dE w1 (w.heap.size+1) 97 #[.string b.name,.slice A3 n3 c3,.slice A4 n4 c4]:=by
  rw[←gj];have:=dE.new (w.alloc (.cells #[.string a.name,.slice A n c,.slice A2 n2 c2] 97)) 97 #[.string b.name,.slice A3 n3 c3,.slice A4 n4 c4];simpa using this
 have H1:=zH (r1.below cI hS);have H2:=zH (r2.below cI hS);have H3:=zH (r3.below cI iN);have H4:=zH (r4.below cI iN);obtain⟨na,pa,ca⟩:=a;obtain⟨nb,pb,cb⟩:=b;obtain⟨z,hz⟩:∃z,bB ⟨na,pa,ca⟩ ⟨nb,pb,cb⟩=z:=⟨_,rfl⟩;have fM:z=(decide (na=nb)&&(decide (pa=pb)&&decide (ca=cb))):=hz.symm;rw[hz];obtain⟨d0,d1,d2,_,_,_⟩:=Fl.facts3;obtain⟨d3,d4,d5,_,_,_⟩:=Fj.facts3;have oQ:=zH gj;have fL:=zH cI;have HZ:=zH fM;clear gj cI hz fM Fl Fj r1 r2 r3 r4;go_enter Tryz.func80,Tryz.ntmps80;by_cases hn:na=nb
 ·have bm:=HZ.out;rw[decide_eq_true hn,Bool.true_and] at bm;have dS:=zH bm;have ZO:(na.toList==nb.toList)=true:=by rw[hn];simp
  clear bm HZ hn;go_wp2_with fail;rw[oQ.out];go_wp2_with fail;refine(z9 H1.out H3.out).mono ?_;rintro e w' ⟨rfl,m,rfl⟩;by_cases hx:pa=pb
  ·have bm:=dS.out;rw[decide_eq_true hx,Bool.true_and] at bm;rw[decide_eq_true hx];have lA:=zH bm;clear bm dS hx;go_wp2_with fail;refine(z9 (H2.out.drewN m) (H4.out.drewN m)).mono ?_;rintro e w' ⟨rfl,m2,rfl⟩;rw[←lA.out];go_wp2_with fail;go_ret
   exact⟨rfl,below_drewN fL.out (m+m2)⟩
  ·have bm:=dS.out;rw[decide_eq_false hx,Bool.false_and] at bm;rw[decide_eq_false hx];have lA:=zH bm;clear bm dS hx;go_wp2_with fail;go_ret
   exact⟨by rw[lA.out];rfl,below_drewN fL.out m⟩
 ·have bm:=HZ.out;rw[decide_eq_false hn,Bool.false_and] at bm;have dS:=zH bm;have ZO:(na.toList==nb.toList)=false:=by
   have:=Lib.bytes_beq_false_iff na nb;exact this.2 hn
  clear bm HZ hn;go_wp2_with fail;rw[oQ.out];go_wp2_with fail;go_ret
  exact⟨by rw[dS.out];rfl,fL.out⟩
theorem wl {w:World} {S S2:Nat→Prop} {v v2:Value} {a b:ai} (h:SV w S v a) (h2:SV w S2 v2 b) (hS:∀b,S b→b<w.heap.size) (iN:∀b,S2 b→b<w.heap.size) : Calls Tryz.prog 78 #[v,v2] w (jQ w (.bool (bi a b))):=by
 obtain⟨cs,rfl,A,n,c,rfl,r1⟩:=h;obtain⟨cs,rfl,A3,n3,c3,rfl,r3⟩:=h2;obtain⟨w1,gj⟩:∃x,(w.alloc (.cells #[.string a.name,.slice A n c,.int .i64 a.method,.int .i64 a.seats,.int .i64 a.ranks,.int .i64 a.digits,.int .i64 a.ties,.int .i64 a.over,.int .i64 a.skip] 95)).alloc (.cells #[.string b.name,.slice A3 n3 c3,.int .i64 b.method,.int .i64 b.seats,.int .i64 b.ranks,.int .i64 b.digits,.int .i64 b.ties,.int .i64 b.over,.int .i64 b.skip] 95)=x:=⟨_,rfl⟩;have cI:Below w.heap.size w w1:=by rw[←gj];exact((Below.refl _ _).alloc (Nat.le_refl _) _).alloc (by simp) _
 have Fl:dE w1 w.heap.size 95 #[.string a.name,.slice A n c,.int .i64 a.method,.int .i64 a.seats,.int .i64 a.ranks,.int .i64 a.digits,.int .i64 a.ties,.int .i64 a.over,.int .i64 a.skip]:=by rw[←gj];exact(dE.new _ _ _).alloc _
 have Fj:dE w1 (w.heap.size+1) 95 #[.string b.name,.slice A3 n3 c3,.int .i64 b.method,.int .i64 b.seats,.int .i64 b.ranks,.int .i64 b.digits,.int .i64 b.ties,.int .i64 b.over,.int .i64 b.skip]:=by
  rw[←gj];have:=dE.new (w.alloc (.cells #[.string a.name,.slice A n c,.int .i64 a.method,.int .i64 a.seats,.int .i64 a.ranks,.int .i64 a.digits,.int .i64 a.ties,.int .i64 a.over,.int .i64 a.skip] 95)) 95 #[.string b.name,.slice A3 n3 c3,.int .i64 b.method,.int .i64 b.seats,.int .i64 b.ranks,.int .i64 b.digits,.int .i64 b.ties,.int .i64 b.over,.int .i64 b.skip];simpa using this
 have H1:=zH (r1.below cI hS);have H3:=zH (r3.below cI iN);obtain⟨na,pa,a0,a1,a2,a3,a4,a5,a6⟩:=a;obtain⟨nb,pb,b0,b1,b2,b3,b4,b5,b6⟩:=b;obtain⟨z,hz⟩:∃z,bi ⟨na,pa,a0,a1,a2,a3,a4,a5,a6⟩ ⟨nb,pb,b0,b1,b2,b3,b4,b5,b6⟩=z:=⟨_,rfl⟩;have fM:z=(decide (na=nb)&&(decide (pa=pb)&&(decide (a0=b0)&&(decide (a1=b1)&&(decide (a2=b2)&&(decide (a3=b3)&&(decide (a4=b4)&&(decide (a5=b5)&&(decide (a6=b6)))))))))):=hz.symm;rw[hz];have d0:w1.cell? ⟨w.heap.size,0,none⟩=some (.string na):=Fl.cell 0;have d1:w1.cell? ⟨w.heap.size,1,none⟩=some (.slice A n c):=Fl.cell 1;have e0:w1.cell? ⟨w.heap.size+1,0,none⟩=some (.string nb):=Fj.cell 0;have e1:w1.cell? ⟨w.heap.size+1,1,none⟩=some (.slice A3 n3 c3):=Fj.cell 1;have d2:w1.cell? ⟨w.heap.size,2,none⟩=some (.int .i64 a0):=Fl.cell 2;have e2:w1.cell? ⟨w.heap.size+1,2,none⟩=some (.int .i64 b0):=Fj.cell 2;have d3:w1.cell? ⟨w.heap.size,3,none⟩=some (.int .i64 a1):=Fl.cell 3;have e3:w1.cell? ⟨w.heap.size+1,3,none⟩=some (.int .i64 b1):=Fj.cell 3;have d4:w1.cell? ⟨w.heap.size,4,none⟩=some (.int .i64 a2):=Fl.cell 4;have e4:w1.cell? ⟨w.heap.size+1,4,none⟩=some (.int .i64 b2):=Fj.cell 4;have d5:w1.cell? ⟨w.heap.size,5,none⟩=some (.int .i64 a3):=Fl.cell 5;have e5:w1.cell? ⟨w.heap.size+1,5,none⟩=some (.int .i64 b3):=Fj.cell 5;have d6:w1.cell? ⟨w.heap.size,6,none⟩=some (.int .i64 a4):=Fl.cell 6;have e6:w1.cell? ⟨w.heap.size+1,6,none⟩=some (.int .i64 b4):=Fj.cell 6;have d7:w1.cell? ⟨w.heap.size,7,none⟩=some (.int .i64 a5):=Fl.cell 7;have e7:w1.cell? ⟨w.heap.size+1,7,none⟩=some (.int .i64 b5):=Fj.cell 7;have d8:w1.cell? ⟨w.heap.size,8,none⟩=some (.int .i64 a6):=Fl.cell 8;have e8:w1.cell? ⟨w.heap.size+1,8,none⟩=some (.int .i64 b6):=Fj.cell 8;have oQ:=zH gj;have fL:=zH cI;have HZ:=zH fM;clear gj cI hz fM Fl Fj r1 r3;go_enter Tryz.func78,Tryz.ntmps78;by_cases hn:na=nb
 case neg=>
  have bm:=HZ.out;rw[decide_eq_false hn,Bool.false_and] at bm;have dS:=zH bm;have ZO:(na.toList==nb.toList)=false:=(Lib.bytes_beq_false_iff na nb).2 hn;clear bm HZ hn;go_wp2_with fail;rw[oQ.out];go_wp2_with fail;go_ret
  exact⟨by rw[dS.out];rfl,fL.out⟩
 have bm:=HZ.out;rw[decide_eq_true hn,Bool.true_and] at bm;have qJ:=zH bm;have ZO:(na.toList==nb.toList)=true:=by rw[hn];simp
 clear bm HZ hn;go_wp2_with fail;rw[oQ.out];go_wp2_with fail;refine(z7 H1.out H3.out).mono ?_;rintro e w' ⟨rfl,m,rfl⟩;by_cases hx:pa=pb
 case neg=>
  have bm:=qJ.out;rw[decide_eq_false hx,Bool.false_and] at bm;rw[decide_eq_false hx];have dS:=zH bm;clear bm qJ hx;go_wp2_with fail;go_ret
  exact⟨by rw[dS.out];rfl,below_drewN fL.out m⟩
 have bm:=qJ.out;rw[decide_eq_true hx,Bool.true_and] at bm;rw[decide_eq_true hx];have kr:=zH bm;clear bm qJ hx;by_cases h0:a0=b0
 case neg=>
  have bm:=kr.out;rw[decide_eq_false h0,Bool.false_and] at bm;have dS:=zH bm;have g0:(a0==b0)=false:=by rw[beq_eq_false_iff_ne];exact h0
  clear bm kr h0;go_wp2_with fail;go_ret
  exact⟨by rw[dS.out];rfl,below_drewN fL.out m⟩
 have bm:=kr.out;rw[decide_eq_true h0,Bool.true_and] at bm;have lA:=zH bm;have g0:(a0==b0)=true:=by rw[beq_iff_eq];exact h0
 clear bm kr h0;by_cases h1:a1=b1
 case neg=>
  have bm:=lA.out;rw[decide_eq_false h1,Bool.false_and] at bm;have dS:=zH bm;have g1:(a1==b1)=false:=by rw[beq_eq_false_iff_ne];exact h1
  clear bm lA h1;go_wp2_with fail;go_ret
  exact⟨by rw[dS.out];rfl,below_drewN fL.out m⟩
 have bm:=lA.out;rw[decide_eq_true h1,Bool.true_and] at bm;have HZ3:=zH bm;have g1:(a1==b1)=true:=by rw[beq_iff_eq];exact h1
 clear bm lA h1;by_cases h2:a2=b2
 case neg=>
  have bm:=HZ3.out;rw[decide_eq_false h2,Bool.false_and] at bm;have dS:=zH bm;have g2:(a2==b2)=false:=by rw[beq_eq_false_iff_ne];exact h2
  clear bm HZ3 h2;go_wp2_with fail;go_ret
  exact⟨by rw[dS.out];rfl,below_drewN fL.out m⟩
 have bm:=HZ3.out;rw[decide_eq_true h2,Bool.true_and] at bm;have HZ4:=zH bm;have g2:(a2==b2)=true:=by rw[beq_iff_eq];exact h2
 clear bm HZ3 h2;by_cases h3:a3=b3
 case neg=>
  have bm:=HZ4.out;rw[decide_eq_false h3,Bool.false_and] at bm;have dS:=zH bm;have g3:(a3==b3)=false:=by rw[beq_eq_false_iff_ne];exact h3
  clear bm HZ4 h3;go_wp2_with fail;go_ret
  exact⟨by rw[dS.out];rfl,below_drewN fL.out m⟩
 have bm:=HZ4.out;rw[decide_eq_true h3,Bool.true_and] at bm;have HZ5:=zH bm;have g3:(a3==b3)=true:=by rw[beq_iff_eq];exact h3
 clear bm HZ4 h3;by_cases h4:a4=b4
 case neg=>
  have bm:=HZ5.out;rw[decide_eq_false h4,Bool.false_and] at bm;have dS:=zH bm;have g4:(a4==b4)=false:=by rw[beq_eq_false_iff_ne];exact h4
  clear bm HZ5 h4;go_wp2_with fail;go_ret
  exact⟨by rw[dS.out];rfl,below_drewN fL.out m⟩
 have bm:=HZ5.out;rw[decide_eq_true h4,Bool.true_and] at bm;have HZ6:=zH bm;have g4:(a4==b4)=true:=by rw[beq_iff_eq];exact h4
 clear bm HZ5 h4;by_cases h5:a5=b5
 case neg=>
  have bm:=HZ6.out;rw[decide_eq_false h5,Bool.false_and] at bm;have dS:=zH bm;have g5:(a5==b5)=false:=by rw[beq_eq_false_iff_ne];exact h5
  clear bm HZ6 h5;go_wp2_with fail;go_ret
  exact⟨by rw[dS.out];rfl,below_drewN fL.out m⟩
 have bm:=HZ6.out;rw[decide_eq_true h5,Bool.true_and] at bm;have HZ7:=zH bm;have g5:(a5==b5)=true:=by rw[beq_iff_eq];exact h5
 clear bm HZ6 h5;by_cases h6:a6=b6
 case neg=>
  have bm:=HZ7.out;rw[decide_eq_false h6] at bm;have dS:=zH bm;have g6:(a6==b6)=false:=by rw[beq_eq_false_iff_ne];exact h6
  clear bm HZ7 h6;go_wp2_with fail;go_ret
  exact⟨by rw[dS.out];rfl,below_drewN fL.out m⟩
 have bm:=HZ7.out;rw[decide_eq_true h6] at bm;have HZ8:=zH bm;have g6:(a6==b6)=true:=by rw[beq_iff_eq];exact h6
 clear bm HZ7 h6;go_wp2_with fail;go_ret
 exact⟨by rw[HZ8.out];rfl,below_drewN fL.out m⟩
theorem RS.load_at {α:Type} [aG α] {w:World} {S:Nat→Prop} {A:Option Addr} {n c:Nat} {xs:List α} (h:RS w S A n c xs) (hS:∀b,S b→b<w.heap.size) {k:Nat} (hk:k<n) : ∃b o x cs,A=some ⟨b,o,none⟩∧S b∧xs[k]?=some x∧aG.rep w S cs x∧∀w',Below w.heap.size w w'→(∀u,cs[0]?=some u→w'.cell? ⟨b,o+k*aG.sz α,none⟩=some u)∧∀j u,cs[j]?=some u→w'.cell? ⟨b,o+k*aG.sz α+j,none⟩=some u:=by
 obtain⟨b,o,x,cs,rfl,hb,hx,hr,hc⟩:=h.at_ hk;have hcc:∀w',Below w.heap.size w w'→∀j u,cs[j]?=some u→w'.cell? ⟨b,o+k*aG.sz α+j,none⟩=some u:=by
  intro w' hw j u hj;rw[←hc j u hj,←Nat.add_assoc];exact hw.cell (p:=⟨b,o+k*aG.sz α+j,none⟩) (hS b hb)
 exact⟨b,o,x,cs,rfl,hb,hx,hr,fun w' hw=>⟨fun u hu=>hcc w' hw 0 u hu,hcc w' hw⟩⟩
theorem Cg {α:Type} {f:α→α→Bool}:∀{xs ys:List α},xs.length≠ys.length→ij f xs ys=false
 | [],[],h=>absurd rfl h
 | [],_::_,_=>rfl
 | _::_,[],_=>rfl
 | x::l,y::m,h=>by
  have:l.length≠m.length:=fun e=>h (by simp[e]);rw[ij,Cg this,Bool.and_false]
theorem kK {α:Type} {xs:List α} {k:Nat} {x:α} (h:xs[k]?=some x):xs.drop k=x::xs.drop (k+1):=by
 obtain⟨hk,rfl⟩:=List.getElem?_eq_some_iff.1 h;exact List.drop_eq_getElem_cons hk
theorem BU {w:World} {S S2:Nat→Prop} {A A2:Option Addr} {n c n2 c2:Nat} {xs ys:List ai} (h:RS w S A n c xs) (h2:RS w S2 A2 n2 c2 ys) (hS:∀b,S b→b<w.heap.size) (iN:∀b,S2 b→b<w.heap.size) : Calls Tryz.prog 77 #[.slice A n c,.slice A2 n2 c2,.func (.func 78) #[] #[]] w (jQ w (.bool (ij bi xs ys))):=by
 obtain⟨z,hz⟩:∃z,ij bi xs ys=z:=⟨_,rfl⟩;rw[hz];have fM:=hz.symm;have hl1:=h.len;have hl2:=h2.len;have Jd:=h.max;have hm2:=h2.max;have fI:n≠n2→z=false:=fun e=>by rw[fM];exact Cg (by rw[hl1,hl2];exact e)
 have H1:=zH h;have H2:=zH h2;have HZ:=zH fM;have Fu:=zH hl1;have pE:=zH hl2;have HNE:=zH fI;clear h h2 hz fM hl1 hl2 fI;go_enter Tryz.func77,Tryz.ntmps77;by_cases hn:n=n2
 case neg=>
  have bm:=HNE.out hn;have dS:=zH bm;have hb:((n:Int)==(n2:Int))=false:=by rw[beq_eq_false_iff_ne];omega
  have cj:(n==n2)=false:=by rw[beq_eq_false_iff_ne];exact hn
  clear bm hn HNE;go_wp2_with fail;go_ret
  exact⟨by rw[dS.out];rfl,Below.refl _ _⟩
 subst hn;clear HNE;go_wp2_with fail;go_loopw [17] (fun iv wr=>∃k:Nat,iv=.int .i64 k∧k≤n∧z=ij bi (xs.drop k) (ys.drop k)∧Below w.heap.size w wr) (fun iv _=>n-(intOf iv).toNat)
 case atStart=>exact⟨0,rfl,Nat.zero_le _,by simpa using HZ.out,Below.refl _ _⟩
 case round=>
  clear HZ;obtain⟨k,rfl,hk,Gn,hb⟩:=hrel;have RI:=zH Gn;have HB:=zH hb;have HR:=zH (H1.out.below hb hS);have JV:=zH (H2.out.below hb iN);clear Gn hb;by_cases hlt:k<n
  ·have jX:(k:Int)<(n:Int):=by omega
   obtain⟨b,o,x,cs,rfl,Cu,hx,hr,WW⟩:=HR.out.load_at (fun b h=>Nat.lt_of_lt_of_le (hS b h) HB.out.size) hlt;obtain⟨b2,o2,y,cs2,rfl,ae5,Cp,Lg,Px⟩:=JV.out.load_at (fun b h=>Nat.lt_of_lt_of_le (iN b h) HB.out.size) hlt;have PD:(k:Int)≤(c:Int):=by have:=HR.out.cap;omega
   have PC:(k:Int)≤(c2:Int):=by have:=JV.out.cap;omega
   have fH:z=(bi x y&&ij bi (xs.drop (k+1)) (ys.drop (k+1))):=by rw[RI.out,kK hx,kK Cp];rfl
   have kr:=zH fH;obtain⟨z1,Gp⟩:∃q,bi x y=q:=⟨_,rfl⟩;rw[Gp] at fH;have HZE:=zH Gp;clear Gp;have kr:=zH fH;obtain⟨A3,n3,c3,rfl,x1⟩:=hr;obtain⟨A4,n4,c4,rfl,x2⟩:=Lg;have cI:Below wr.heap.size wr (wr.alloc (.cells #[.string x.name,.slice A3 n3 c3,.int .i64 x.method,.int .i64 x.seats,.int .i64 x.ranks,.int .i64 x.digits,.int .i64 x.ties,.int .i64 x.over,.int .i64 x.skip] 95)):=(Below.refl _ _).alloc (Nat.le_refl _) _;have ui:dE (wr.alloc (.cells #[.string x.name,.slice A3 n3 c3,.int .i64 x.method,.int .i64 x.seats,.int .i64 x.ranks,.int .i64 x.digits,.int .i64 x.ties,.int .i64 x.over,.int .i64 x.skip] 95)) wr.heap.size 95 #[.string x.name,.slice A3 n3 c3,.int .i64 x.method,.int .i64 x.seats,.int .i64 x.ranks,.int .i64 x.digits,.int .i64 x.ties,.int .i64 x.over,.int .i64 x.skip]:=dE.new _ _ _;have fH:(wr.alloc (.cells #[.string x.name,.slice A3 n3 c3,.int .i64 x.method,.int .i64 x.seats,.int .i64 x.ranks,.int .i64 x.digits,.int .i64 x.ties,.int .i64 x.over,.int .i64 x.skip] 95)).heap.size=wr.heap.size+1:=by simp
   obtain⟨w1,gj⟩:∃q,wr.alloc (.cells #[.string x.name,.slice A3 n3 c3,.int .i64 x.method,.int .i64 x.seats,.int .i64 x.ranks,.int .i64 x.digits,.int .i64 x.ties,.int .i64 x.over,.int .i64 x.skip] 95)=q:=⟨_,rfl⟩;rw[gj] at cI ui fH;have cj:Below wr.heap.size wr (w1.alloc (.cells #[.string y.name,.slice A4 n4 c4,.int .i64 y.method,.int .i64 y.seats,.int .i64 y.ranks,.int .i64 y.digits,.int .i64 y.ties,.int .i64 y.over,.int .i64 y.skip] 95)):=cI.alloc (by omega) _;have eX:dE (w1.alloc (.cells #[.string y.name,.slice A4 n4 c4,.int .i64 y.method,.int .i64 y.seats,.int .i64 y.ranks,.int .i64 y.digits,.int .i64 y.ties,.int .i64 y.over,.int .i64 y.skip] 95)) (wr.heap.size+1) 95 #[.string y.name,.slice A4 n4 c4,.int .i64 y.method,.int .i64 y.seats,.int .i64 y.ranks,.int .i64 y.digits,.int .i64 y.ties,.int .i64 y.over,.int .i64 y.skip]:=dE.new' fH _ _;have oz:=ui.alloc (.cells #[.string y.name,.slice A4 n4 c4,.int .i64 y.method,.int .i64 y.seats,.int .i64 y.ranks,.int .i64 y.digits,.int .i64 y.ties,.int .i64 y.over,.int .i64 y.skip] 95);obtain⟨w2,Uz⟩:∃q,w1.alloc (.cells #[.string y.name,.slice A4 n4 c4,.int .i64 y.method,.int .i64 y.seats,.int .i64 y.ranks,.int .i64 y.digits,.int .i64 y.ties,.int .i64 y.over,.int .i64 y.skip] 95)=q:=⟨_,rfl⟩;rw[Uz] at cj eX oz;have iQ:=WW wr (Below.refl _ _);have lq:=Px w1 cI;have p0:w2.cell? ⟨wr.heap.size,0,none⟩=some (.string x.name):=oz.cell 0;have p1:w2.cell? ⟨wr.heap.size,1,none⟩=some (.slice A3 n3 c3):=oz.cell 1;have p2:w2.cell? ⟨wr.heap.size,2,none⟩=some (.int .i64 x.method):=oz.cell 2;have p3:w2.cell? ⟨wr.heap.size,3,none⟩=some (.int .i64 x.seats):=oz.cell 3;have p4:w2.cell? ⟨wr.heap.size,4,none⟩=some (.int .i64 x.ranks):=oz.cell 4;have p5:w2.cell? ⟨wr.heap.size,5,none⟩=some (.int .i64 x.digits):=oz.cell 5;have p6:w2.cell? ⟨wr.heap.size,6,none⟩=some (.int .i64 x.ties):=oz.cell 6;have p7:w2.cell? ⟨wr.heap.size,7,none⟩=some (.int .i64 x.over):=oz.cell 7;have p8:w2.cell? ⟨wr.heap.size,8,none⟩=some (.int .i64 x.skip):=oz.cell 8;have q0:w2.cell? ⟨wr.heap.size+1,0,none⟩=some (.string y.name):=eX.cell 0;have q1:w2.cell? ⟨wr.heap.size+1,1,none⟩=some (.slice A4 n4 c4):=eX.cell 1;have q2:w2.cell? ⟨wr.heap.size+1,2,none⟩=some (.int .i64 y.method):=eX.cell 2;have q3:w2.cell? ⟨wr.heap.size+1,3,none⟩=some (.int .i64 y.seats):=eX.cell 3;have q4:w2.cell? ⟨wr.heap.size+1,4,none⟩=some (.int .i64 y.ranks):=eX.cell 4;have q5:w2.cell? ⟨wr.heap.size+1,5,none⟩=some (.int .i64 y.digits):=eX.cell 5;have q6:w2.cell? ⟨wr.heap.size+1,6,none⟩=some (.int .i64 y.ties):=eX.cell 6;have q7:w2.cell? ⟨wr.heap.size+1,7,none⟩=some (.int .i64 y.over):=eX.cell 7;have q8:w2.cell? ⟨wr.heap.size+1,8,none⟩=some (.int .i64 y.skip):=eX.cell 8;have r0:wr.cell? ⟨b,o+k*9,none⟩=some (.string x.name):=iQ.1 _ rfl;have r1:wr.cell? ⟨b,o+k*9+1,none⟩=some (.slice A3 n3 c3):=iQ.2 1 _ rfl;have r2:wr.cell? ⟨b,o+k*9+2,none⟩=some (.int .i64 x.method):=iQ.2 2 _ rfl;have r3:wr.cell? ⟨b,o+k*9+3,none⟩=some (.int .i64 x.seats):=iQ.2 3 _ rfl;have r4:wr.cell? ⟨b,o+k*9+4,none⟩=some (.int .i64 x.ranks):=iQ.2 4 _ rfl;have r5:wr.cell? ⟨b,o+k*9+5,none⟩=some (.int .i64 x.digits):=iQ.2 5 _ rfl;have r6:wr.cell? ⟨b,o+k*9+6,none⟩=some (.int .i64 x.ties):=iQ.2 6 _ rfl;have r7:wr.cell? ⟨b,o+k*9+7,none⟩=some (.int .i64 x.over):=iQ.2 7 _ rfl;have r8:wr.cell? ⟨b,o+k*9+8,none⟩=some (.int .i64 x.skip):=iQ.2 8 _ rfl;have s0:w1.cell? ⟨b2,o2+k*9,none⟩=some (.string y.name):=lq.1 _ rfl;have s1:w1.cell? ⟨b2,o2+k*9+1,none⟩=some (.slice A4 n4 c4):=lq.2 1 _ rfl;have s2:w1.cell? ⟨b2,o2+k*9+2,none⟩=some (.int .i64 y.method):=lq.2 2 _ rfl;have s3:w1.cell? ⟨b2,o2+k*9+3,none⟩=some (.int .i64 y.seats):=lq.2 3 _ rfl;have s4:w1.cell? ⟨b2,o2+k*9+4,none⟩=some (.int .i64 y.ranks):=lq.2 4 _ rfl;have s5:w1.cell? ⟨b2,o2+k*9+5,none⟩=some (.int .i64 y.digits):=lq.2 5 _ rfl;have s6:w1.cell? ⟨b2,o2+k*9+6,none⟩=some (.int .i64 y.ties):=lq.2 6 _ rfl;have s7:w1.cell? ⟨b2,o2+k*9+7,none⟩=some (.int .i64 y.over):=lq.2 7 _ rfl;have s8:w1.cell? ⟨b2,o2+k*9+8,none⟩=some (.int .i64 y.skip):=lq.2 8 _ rfl;have hcc:=(wl (w:=w2) (S:=S) (S2:=S2) (a:=x) (b:=y) ⟨_,rfl,A3,n3,c3,rfl,x1.below cj (fun b h=>Nat.lt_of_lt_of_le (hS b h) HB.out.size)⟩ ⟨_,rfl,A4,n4,c4,rfl,x2.below cj (fun b h=>Nat.lt_of_lt_of_le (iN b h) HB.out.size)⟩ (fun b h=>Nat.lt_of_lt_of_le (hS b h) (Nat.le_trans HB.out.size cj.size)) (fun b h=>Nat.lt_of_lt_of_le (iN b h) (Nat.le_trans HB.out.size cj.size)));rw[HZE.out] at hcc;have HC:=zH hcc;have fe:=zH (ak HB.out cj);have oQ:=zH gj;have HW2:=zH Uz;have HSZ:=zH fH;clear hcc iQ lq gj Uz ui eX oz cI cj WW Px hx Cp fH;go_upto_region 6 with(fail);rw[oQ.out];go_upto_region 7 with(fail);rw[HSZ.out,HW2.out];go_wp2_with fail;refine HC.out.mono ?_;rintro e w3 ⟨rfl,kP⟩;have mI:=zH (ak fe.out kP);clear kP;cases z1
   case false=>
    have bm:z=false:=by rw[kr.out];rfl
    have dS:=zH bm;clear bm;go_wp2_with fail;go_ret
    exact⟨by rw[dS.out];rfl,mI.out⟩
   case true=>
    go_wp2_with fail;go_roundw
    case rel=>exact⟨k+1,by go_num,by omega,by rw[kr.out,Bool.true_and],mI.out⟩
    case measure=>simp[intOf];omega
  ·have gV:k=n:=by omega
   have bm:z=true:=by
    rw[RI.out,List.drop_eq_nil_of_le (by rw[Fu.out];omega),List.drop_eq_nil_of_le (by rw[pE.out];omega)];rfl
   have dS:=zH bm;clear bm gV;go_wp2_with fail;go_ret
   exact⟨by rw[dS.out];rfl,HB.out⟩
theorem GG {w:World} {S S2:Nat→Prop} {A A2:Option Addr} {n c n2 c2:Nat} {xs ys:List ax} (h:RS w S A n c xs) (h2:RS w S2 A2 n2 c2 ys) (hS:∀b,S b→b<w.heap.size) (iN:∀b,S2 b→b<w.heap.size) : Calls Tryz.prog 79 #[.slice A n c,.slice A2 n2 c2,.func (.func 80) #[] #[]] w (jQ w (.bool (ij bB xs ys))):=by
 obtain⟨z,hz⟩:∃z,ij bB xs ys=z:=⟨_,rfl⟩;rw[hz];have fM:=hz.symm;have hl1:=h.len;have hl2:=h2.len;have Jd:=h.max;have hm2:=h2.max;have fI:n≠n2→z=false:=fun e=>by rw[fM];exact Cg (by rw[hl1,hl2];exact e)
 have H1:=zH h;have H2:=zH h2;have HZ:=zH fM;have Fu:=zH hl1;have pE:=zH hl2;have HNE:=zH fI;clear h h2 hz fM hl1 hl2 fI;go_enter Tryz.func79,Tryz.ntmps79;by_cases hn:n=n2
 case neg=>
  have bm:=HNE.out hn;have dS:=zH bm;have hb:((n:Int)==(n2:Int))=false:=by rw[beq_eq_false_iff_ne];omega
  have cj:(n==n2)=false:=by rw[beq_eq_false_iff_ne];exact hn
  clear bm hn HNE;go_wp2_with fail;go_ret
  exact⟨by rw[dS.out];rfl,Below.refl _ _⟩
 subst hn;clear HNE;go_wp2_with fail;go_loopw [17] (fun iv wr=>∃k:Nat,iv=.int .i64 k∧k≤n∧z=ij bB (xs.drop k) (ys.drop k)∧Below w.heap.size w wr) (fun iv _=>n-(intOf iv).toNat)
 case atStart=>exact⟨0,rfl,Nat.zero_le _,by simpa using HZ.out,Below.refl _ _⟩
 case round=>
  clear HZ;obtain⟨k,rfl,hk,Gn,hb⟩:=hrel;have RI:=zH Gn;have HB:=zH hb;have HR:=zH (H1.out.below hb hS);have JV:=zH (H2.out.below hb iN);clear Gn hb;by_cases hlt:k<n
  ·have jX:(k:Int)<(n:Int):=by omega
   obtain⟨b,o,x,cs,rfl,Cu,hx,hr,WW⟩:=HR.out.load_at (fun b h=>Nat.lt_of_lt_of_le (hS b h) HB.out.size) hlt;obtain⟨b2,o2,y,cs2,rfl,ae5,Cp,Lg,Px⟩:=JV.out.load_at (fun b h=>Nat.lt_of_lt_of_le (iN b h) HB.out.size) hlt;have PD:(k:Int)≤(c:Int):=by have:=HR.out.cap;omega
   have PC:(k:Int)≤(c2:Int):=by have:=JV.out.cap;omega
   have fH:z=(bB x y&&ij bB (xs.drop (k+1)) (ys.drop (k+1))):=by rw[RI.out,kK hx,kK Cp];rfl
   have kr:=zH fH;obtain⟨z1,Gp⟩:∃q,bB x y=q:=⟨_,rfl⟩;rw[Gp] at fH;have HZE:=zH Gp;clear Gp;have kr:=zH fH;obtain⟨A3,n3,c3,A5,n5,c5,rfl,x1,x3⟩:=hr;obtain⟨A4,n4,c4,A6,n6,c6,rfl,x2,x4⟩:=Lg;have cI:Below wr.heap.size wr (wr.alloc (.cells #[.string x.name,.slice A3 n3 c3,.slice A5 n5 c5] 97)):=(Below.refl _ _).alloc (Nat.le_refl _) _;have ui:dE (wr.alloc (.cells #[.string x.name,.slice A3 n3 c3,.slice A5 n5 c5] 97)) wr.heap.size 97 #[.string x.name,.slice A3 n3 c3,.slice A5 n5 c5]:=dE.new _ _ _;have fH:(wr.alloc (.cells #[.string x.name,.slice A3 n3 c3,.slice A5 n5 c5] 97)).heap.size=wr.heap.size+1:=by simp
   obtain⟨w1,gj⟩:∃q,wr.alloc (.cells #[.string x.name,.slice A3 n3 c3,.slice A5 n5 c5] 97)=q:=⟨_,rfl⟩;rw[gj] at cI ui fH;have cj:Below wr.heap.size wr (w1.alloc (.cells #[.string y.name,.slice A4 n4 c4,.slice A6 n6 c6] 97)):=cI.alloc (by omega) _;have eX:dE (w1.alloc (.cells #[.string y.name,.slice A4 n4 c4,.slice A6 n6 c6] 97)) (wr.heap.size+1) 97 #[.string y.name,.slice A4 n4 c4,.slice A6 n6 c6]:=dE.new' fH _ _;have oz:=ui.alloc (.cells #[.string y.name,.slice A4 n4 c4,.slice A6 n6 c6] 97);obtain⟨w2,Uz⟩:∃q,w1.alloc (.cells #[.string y.name,.slice A4 n4 c4,.slice A6 n6 c6] 97)=q:=⟨_,rfl⟩;rw[Uz] at cj eX oz;have iQ:=WW wr (Below.refl _ _);have lq:=Px w1 cI;have p0:w2.cell? ⟨wr.heap.size,0,none⟩=some (.string x.name):=oz.cell 0;have p1:w2.cell? ⟨wr.heap.size,1,none⟩=some (.slice A3 n3 c3):=oz.cell 1;have p2:w2.cell? ⟨wr.heap.size,2,none⟩=some (.slice A5 n5 c5):=oz.cell 2;have q0:w2.cell? ⟨wr.heap.size+1,0,none⟩=some (.string y.name):=eX.cell 0;have q1:w2.cell? ⟨wr.heap.size+1,1,none⟩=some (.slice A4 n4 c4):=eX.cell 1;have q2:w2.cell? ⟨wr.heap.size+1,2,none⟩=some (.slice A6 n6 c6):=eX.cell 2;have r0:wr.cell? ⟨b,o+k*3,none⟩=some (.string x.name):=iQ.1 _ rfl;have r1:wr.cell? ⟨b,o+k*3+1,none⟩=some (.slice A3 n3 c3):=iQ.2 1 _ rfl;have r2:wr.cell? ⟨b,o+k*3+2,none⟩=some (.slice A5 n5 c5):=iQ.2 2 _ rfl;have s0:w1.cell? ⟨b2,o2+k*3,none⟩=some (.string y.name):=lq.1 _ rfl;have s1:w1.cell? ⟨b2,o2+k*3+1,none⟩=some (.slice A4 n4 c4):=lq.2 1 _ rfl;have s2:w1.cell? ⟨b2,o2+k*3+2,none⟩=some (.slice A6 n6 c6):=lq.2 2 _ rfl;have hcc:=(AT (w:=w2) (S:=S) (S2:=S2) (a:=x) (b:=y) ⟨_,rfl,A3,n3,c3,A5,n5,c5,rfl,x1.below cj (fun b h=>Nat.lt_of_lt_of_le (hS b h) HB.out.size),x3.below cj (fun b h=>Nat.lt_of_lt_of_le (hS b h) HB.out.size)⟩ ⟨_,rfl,A4,n4,c4,A6,n6,c6,rfl,x2.below cj (fun b h=>Nat.lt_of_lt_of_le (iN b h) HB.out.size),x4.below cj (fun b h=>Nat.lt_of_lt_of_le (iN b h) HB.out.size)⟩ (fun b h=>Nat.lt_of_lt_of_le (hS b h) (Nat.le_trans HB.out.size cj.size)) (fun b h=>Nat.lt_of_lt_of_le (iN b h) (Nat.le_trans HB.out.size cj.size)));rw[HZE.out] at hcc;have HC:=zH hcc;have fe:=zH (ak HB.out cj);have oQ:=zH gj;have HW2:=zH Uz;have HSZ:=zH fH;clear hcc iQ lq gj Uz ui eX oz cI cj WW Px hx Cp fH;go_upto_region 6 with(fail);rw[oQ.out];go_upto_region 7 with(fail);rw[HSZ.out,HW2.out];go_wp2_with fail;refine HC.out.mono ?_;rintro e w3 ⟨rfl,kP⟩;have mI:=zH (ak fe.out kP);clear kP;cases z1
   case false=>
    have bm:z=false:=by rw[kr.out];rfl
    have dS:=zH bm;clear bm;go_wp2_with fail;go_ret
    exact⟨by rw[dS.out];rfl,mI.out⟩
   case true=>
    go_wp2_with fail;go_roundw
    case rel=>exact⟨k+1,by go_num,by omega,by rw[kr.out,Bool.true_and],mI.out⟩
    case measure=>simp[intOf];omega
  ·have gV:k=n:=by omega
   have bm:z=true:=by
    rw[RI.out,List.drop_eq_nil_of_le (by rw[Fu.out];omega),List.drop_eq_nil_of_le (by rw[pE.out];omega)];rfl
   have dS:=zH bm;clear bm gV;go_wp2_with fail;go_ret
   exact⟨by rw[dS.out];rfl,HB.out⟩
end Go.Proofs.YtjlhbfbdcfajfaaGreatDoor
