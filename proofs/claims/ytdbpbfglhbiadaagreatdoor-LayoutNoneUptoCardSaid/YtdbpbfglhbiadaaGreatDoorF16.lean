/- Same1 Same2 Same3 -/
import Derived.Test.YtdbpbfglhbiadaaGreatDoorF05
import Derived.Test.YtdbpbfglhbiadaaGreatDoorF11
import Derived.Test.YtdbpbfglhbiadaaGreatDoorProg
import Derived.Test.YtdbpbfglhbiadaaGreatDoorF01
import Derived.Test.YtdbpbfglhbiadaaGreatDoorF15
import Derived.Deep.DeepCutAuto
set_option maxHeartbeats 8000000
set_option maxRecDepth 100000
namespace Go.Proofs.YtdbpbfglhbiadaaGreatDoor
open Go.RowKit
theorem yk {w:World} {S S2:Nat->Prop} {v v2:Value} {a b:ai} (h:SV w S v a) (h2:SV w S2 v2 b) (hS:∀b,S b->b<w.heap.size) (gL:∀b,S2 b->b<w.heap.size) : Calls Tryz.prog 53 #[v,v2] w (iT w (.bool (aZ a b))):=by
 obtain⟨cs,rfl,A,n,c,A2,n2,c2,rfl,r1,r2⟩:=h;obtain⟨cs,rfl,A3,n3,c3,A4,n4,c4,rfl,r3,r4⟩:=h2;obtain⟨w1,fm⟩:∃x,(w.alloc (.cells #[.string a.name,.slice A n c,.slice A2 n2 c2] 42)).alloc (.cells #[.string b.name,.slice A3 n3 c3,.slice A4 n4 c4] 42)=x:=⟨_,rfl⟩;have bS:Below w.heap.size w w1:=by rw[<-fm];exact((Below.refl _ _).alloc (Nat.le_refl _) _).alloc (by simp) _
 have CW:cO w1 w.heap.size 42 #[.string a.name,.slice A n c,.slice A2 n2 c2]:=by rw[<-fm];exact(cO.new _ _ _).alloc _
 have CU:cO w1 (w.heap.size+1) 42 #[.string b.name,.slice A3 n3 c3,.slice A4 n4 c4]:=by
  rw[<-fm];have:=cO.new (w.alloc (.cells #[.string a.name,.slice A n c,.slice A2 n2 c2] 42)) 42 #[.string b.name,.slice A3 n3 c3,.slice A4 n4 c4];simpa using this
 have H1:=zH (r1.below bS hS);have H2:=zH (r2.below bS hS);have H3:=zH (r3.below bS gL);have H4:=zH (r4.below bS gL);obtain⟨na,pa,ca⟩:=a;obtain⟨nb,pb,cb⟩:=b;obtain⟨z,hz⟩:∃z,aZ ⟨na,pa,ca⟩ ⟨nb,pb,cb⟩=z:=⟨_,rfl⟩;have eQ:z=(decide (na=nb)&&(decide (pa=pb)&&decide (ca=cb))):=hz.symm;rw[hz];obtain⟨d0,d1,d2,_,_,_⟩:=CW.facts3;obtain⟨d3,d4,d5,_,_,_⟩:=CU.facts3;have mQ:=zH fm;have eP:=zH bS;have HZ:=zH eQ;clear fm bS hz eQ CW CU r1 r2 r3 r4;go_enter Tryz.func53,Tryz.ntmps53;by_cases hn:na=nb
 ·have aW:=HZ.out;rw[decide_eq_true hn,Bool.true_and] at aW;have db:=zH aW;have XQ:(na.toList==nb.toList)=true:=by rw[hn];simp
  clear aW HZ hn;go_wp2_with fail;rw[mQ.out];go_wp2_with fail;refine(xE H1.out H3.out).mono ?_;rintro e w' ⟨rfl,m,rfl⟩;by_cases hx:pa=pb
  ·have aW:=db.out;rw[decide_eq_true hx,Bool.true_and] at aW;rw[decide_eq_true hx];have j1:=zH aW;clear aW db hx;go_wp2_with fail;refine(xE (H2.out.drewN m) (H4.out.drewN m)).mono ?_;rintro e w' ⟨rfl,m2,rfl⟩;rw[<-j1.out];go_wp2_with fail;go_ret
   exact⟨rfl,below_drewN eP.out (m+m2)⟩
  ·have aW:=db.out;rw[decide_eq_false hx,Bool.false_and] at aW;rw[decide_eq_false hx];have j1:=zH aW;clear aW db hx;go_wp2_with fail;go_ret
   exact⟨by rw[j1.out];rfl,below_drewN eP.out m⟩
 ·have aW:=HZ.out;rw[decide_eq_false hn,Bool.false_and] at aW;have db:=zH aW;have XQ:(na.toList==nb.toList)=false:=by
   have:=Lib.bytes_beq_false_iff na nb;exact this.2 hn
  clear aW HZ hn;go_wp2_with fail;rw[mQ.out];go_wp2_with fail;go_ret
  exact⟨by rw[db.out];rfl,eP.out⟩
theorem tz {w:World} {S S2:Nat->Prop} {v v2:Value} {a b:ae} (h:SV w S v a) (h2:SV w S2 v2 b) (hS:∀b,S b->b<w.heap.size) (gL:∀b,S2 b->b<w.heap.size) : Calls Tryz.prog 51 #[v,v2] w (iT w (.bool (aK a b))):=by
 obtain⟨cs,rfl,A,n,c,rfl,r1⟩:=h;obtain⟨cs,rfl,A3,n3,c3,rfl,r3⟩:=h2;obtain⟨w1,fm⟩:∃x,(w.alloc (.cells #[.string a.name,.slice A n c,.int .i64 a.method,.int .i64 a.seats,.int .i64 a.ranks,.int .i64 a.digits,.int .i64 a.ties,.int .i64 a.over,.int .i64 a.skip] 87)).alloc (.cells #[.string b.name,.slice A3 n3 c3,.int .i64 b.method,.int .i64 b.seats,.int .i64 b.ranks,.int .i64 b.digits,.int .i64 b.ties,.int .i64 b.over,.int .i64 b.skip] 87)=x:=⟨_,rfl⟩;have bS:Below w.heap.size w w1:=by rw[<-fm];exact((Below.refl _ _).alloc (Nat.le_refl _) _).alloc (by simp) _
 have CW:cO w1 w.heap.size 87 #[.string a.name,.slice A n c,.int .i64 a.method,.int .i64 a.seats,.int .i64 a.ranks,.int .i64 a.digits,.int .i64 a.ties,.int .i64 a.over,.int .i64 a.skip]:=by rw[<-fm];exact(cO.new _ _ _).alloc _
 have CU:cO w1 (w.heap.size+1) 87 #[.string b.name,.slice A3 n3 c3,.int .i64 b.method,.int .i64 b.seats,.int .i64 b.ranks,.int .i64 b.digits,.int .i64 b.ties,.int .i64 b.over,.int .i64 b.skip]:=by
  rw[<-fm];have:=cO.new (w.alloc (.cells #[.string a.name,.slice A n c,.int .i64 a.method,.int .i64 a.seats,.int .i64 a.ranks,.int .i64 a.digits,.int .i64 a.ties,.int .i64 a.over,.int .i64 a.skip] 87)) 87 #[.string b.name,.slice A3 n3 c3,.int .i64 b.method,.int .i64 b.seats,.int .i64 b.ranks,.int .i64 b.digits,.int .i64 b.ties,.int .i64 b.over,.int .i64 b.skip];simpa using this
 have H1:=zH (r1.below bS hS);have H3:=zH (r3.below bS gL);obtain⟨na,pa,a0,a1,a2,a3,a4,a5,a6⟩:=a;obtain⟨nb,pb,b0,b1,b2,b3,b4,b5,b6⟩:=b;obtain⟨z,hz⟩:∃z,aK ⟨na,pa,a0,a1,a2,a3,a4,a5,a6⟩ ⟨nb,pb,b0,b1,b2,b3,b4,b5,b6⟩=z:=⟨_,rfl⟩;have eQ:z=(decide (na=nb)&&(decide (pa=pb)&&(decide (a0=b0)&&(decide (a1=b1)&&(decide (a2=b2)&&(decide (a3=b3)&&(decide (a4=b4)&&(decide (a5=b5)&&(decide (a6=b6)))))))))):=hz.symm;rw[hz];have d0:w1.cell? ⟨w.heap.size,0,none⟩=some (.string na):=CW.cell 0;have d1:w1.cell? ⟨w.heap.size,1,none⟩=some (.slice A n c):=CW.cell 1;have e0:w1.cell? ⟨w.heap.size+1,0,none⟩=some (.string nb):=CU.cell 0;have e1:w1.cell? ⟨w.heap.size+1,1,none⟩=some (.slice A3 n3 c3):=CU.cell 1;have d2:w1.cell? ⟨w.heap.size,2,none⟩=some (.int .i64 a0):=CW.cell 2;have e2:w1.cell? ⟨w.heap.size+1,2,none⟩=some (.int .i64 b0):=CU.cell 2;have d3:w1.cell? ⟨w.heap.size,3,none⟩=some (.int .i64 a1):=CW.cell 3;have e3:w1.cell? ⟨w.heap.size+1,3,none⟩=some (.int .i64 b1):=CU.cell 3;have d4:w1.cell? ⟨w.heap.size,4,none⟩=some (.int .i64 a2):=CW.cell 4;have e4:w1.cell? ⟨w.heap.size+1,4,none⟩=some (.int .i64 b2):=CU.cell 4;have d5:w1.cell? ⟨w.heap.size,5,none⟩=some (.int .i64 a3):=CW.cell 5;have e5:w1.cell? ⟨w.heap.size+1,5,none⟩=some (.int .i64 b3):=CU.cell 5;have d6:w1.cell? ⟨w.heap.size,6,none⟩=some (.int .i64 a4):=CW.cell 6;have e6:w1.cell? ⟨w.heap.size+1,6,none⟩=some (.int .i64 b4):=CU.cell 6;have d7:w1.cell? ⟨w.heap.size,7,none⟩=some (.int .i64 a5):=CW.cell 7;have e7:w1.cell? ⟨w.heap.size+1,7,none⟩=some (.int .i64 b5):=CU.cell 7;have d8:w1.cell? ⟨w.heap.size,8,none⟩=some (.int .i64 a6):=CW.cell 8;have e8:w1.cell? ⟨w.heap.size+1,8,none⟩=some (.int .i64 b6):=CU.cell 8;have mQ:=zH fm;have eP:=zH bS;have HZ:=zH eQ;clear fm bS hz eQ CW CU r1 r3;go_enter Tryz.func51,Tryz.ntmps51;by_cases hn:na=nb
 case neg=>
  have aW:=HZ.out;rw[decide_eq_false hn,Bool.false_and] at aW;have db:=zH aW;have XQ:(na.toList==nb.toList)=false:=(Lib.bytes_beq_false_iff na nb).2 hn;clear aW HZ hn;go_wp2_with fail;rw[mQ.out];go_wp2_with fail;go_ret
  exact⟨by rw[db.out];rfl,eP.out⟩
 have aW:=HZ.out;rw[decide_eq_true hn,Bool.true_and] at aW;have oG:=zH aW;have XQ:(na.toList==nb.toList)=true:=by rw[hn];simp
 clear aW HZ hn;go_wp2_with fail;rw[mQ.out];go_wp2_with fail;refine(xC H1.out H3.out).mono ?_;rintro e w' ⟨rfl,m,rfl⟩;by_cases hx:pa=pb
 case neg=>
  have aW:=oG.out;rw[decide_eq_false hx,Bool.false_and] at aW;rw[decide_eq_false hx];have db:=zH aW;clear aW oG hx;go_wp2_with fail;go_ret
  exact⟨by rw[db.out];rfl,below_drewN eP.out m⟩
 have aW:=oG.out;rw[decide_eq_true hx,Bool.true_and] at aW;rw[decide_eq_true hx];have jm:=zH aW;clear aW oG hx;by_cases h0:a0=b0
 case neg=>
  have aW:=jm.out;rw[decide_eq_false h0,Bool.false_and] at aW;have db:=zH aW;have g0:(a0==b0)=false:=by rw[beq_eq_false_iff_ne];exact h0
  clear aW jm h0;go_wp2_with fail;go_ret
  exact⟨by rw[db.out];rfl,below_drewN eP.out m⟩
 have aW:=jm.out;rw[decide_eq_true h0,Bool.true_and] at aW;have j1:=zH aW;have g0:(a0==b0)=true:=by rw[beq_iff_eq];exact h0
 clear aW jm h0;by_cases h1:a1=b1
 case neg=>
  have aW:=j1.out;rw[decide_eq_false h1,Bool.false_and] at aW;have db:=zH aW;have g1:(a1==b1)=false:=by rw[beq_eq_false_iff_ne];exact h1
  clear aW j1 h1;go_wp2_with fail;go_ret
  exact⟨by rw[db.out];rfl,below_drewN eP.out m⟩
 have aW:=j1.out;rw[decide_eq_true h1,Bool.true_and] at aW;have HZ3:=zH aW;have g1:(a1==b1)=true:=by rw[beq_iff_eq];exact h1
 clear aW j1 h1;by_cases h2:a2=b2
 case neg=>
  have aW:=HZ3.out;rw[decide_eq_false h2,Bool.false_and] at aW;have db:=zH aW;have g2:(a2==b2)=false:=by rw[beq_eq_false_iff_ne];exact h2
  clear aW HZ3 h2;go_wp2_with fail;go_ret
  exact⟨by rw[db.out];rfl,below_drewN eP.out m⟩
 have aW:=HZ3.out;rw[decide_eq_true h2,Bool.true_and] at aW;have HZ4:=zH aW;have g2:(a2==b2)=true:=by rw[beq_iff_eq];exact h2
 clear aW HZ3 h2;by_cases h3:a3=b3
 case neg=>
  have aW:=HZ4.out;rw[decide_eq_false h3,Bool.false_and] at aW;have db:=zH aW;have g3:(a3==b3)=false:=by rw[beq_eq_false_iff_ne];exact h3
  clear aW HZ4 h3;go_wp2_with fail;go_ret
  exact⟨by rw[db.out];rfl,below_drewN eP.out m⟩
 have aW:=HZ4.out;rw[decide_eq_true h3,Bool.true_and] at aW;have HZ5:=zH aW;have g3:(a3==b3)=true:=by rw[beq_iff_eq];exact h3
 clear aW HZ4 h3;by_cases h4:a4=b4
 case neg=>
  have aW:=HZ5.out;rw[decide_eq_false h4,Bool.false_and] at aW;have db:=zH aW;have g4:(a4==b4)=false:=by rw[beq_eq_false_iff_ne];exact h4
  clear aW HZ5 h4;go_wp2_with fail;go_ret
  exact⟨by rw[db.out];rfl,below_drewN eP.out m⟩
 have aW:=HZ5.out;rw[decide_eq_true h4,Bool.true_and] at aW;have HZ6:=zH aW;have g4:(a4==b4)=true:=by rw[beq_iff_eq];exact h4
 clear aW HZ5 h4;by_cases h5:a5=b5
 case neg=>
  have aW:=HZ6.out;rw[decide_eq_false h5,Bool.false_and] at aW;have db:=zH aW;have g5:(a5==b5)=false:=by rw[beq_eq_false_iff_ne];exact h5
  clear aW HZ6 h5;go_wp2_with fail;go_ret
  exact⟨by rw[db.out];rfl,below_drewN eP.out m⟩
 have aW:=HZ6.out;rw[decide_eq_true h5,Bool.true_and] at aW;have HZ7:=zH aW;have g5:(a5==b5)=true:=by rw[beq_iff_eq];exact h5
 clear aW HZ6 h5;by_cases h6:a6=b6
 case neg=>
  have aW:=HZ7.out;rw[decide_eq_false h6] at aW;have db:=zH aW;have g6:(a6==b6)=false:=by rw[beq_eq_false_iff_ne];exact h6
  clear aW HZ7 h6;go_wp2_with fail;go_ret
  exact⟨by rw[db.out];rfl,below_drewN eP.out m⟩
 have aW:=HZ7.out;rw[decide_eq_true h6] at aW;have HZ8:=zH aW;have g6:(a6==b6)=true:=by rw[beq_iff_eq];exact h6
 clear aW HZ7 h6;go_wp2_with fail;go_ret
 exact⟨by rw[HZ8.out];rfl,below_drewN eP.out m⟩
theorem RS.load_at {α:Type} [ay α] {w:World} {S:Nat->Prop} {A:Option Addr} {n c:Nat} {xs:List α} (h:RS w S A n c xs) (hS:∀b,S b->b<w.heap.size) {k:Nat} (hk:k<n) : ∃b o x cs,A=some ⟨b,o,none⟩/\S b/\xs[k]?=some x/\ay.rep w S cs x/\∀w',Below w.heap.size w w'->(∀u,cs[0]?=some u->w'.cell? ⟨b,o+k*ay.sz α,none⟩=some u)/\∀j u,cs[j]?=some u->w'.cell? ⟨b,o+k*ay.sz α+j,none⟩=some u:=by
 obtain⟨b,o,x,cs,rfl,hb,hx,hr,hc⟩:=h.at_ hk;have hcc:∀w',Below w.heap.size w w'->∀j u,cs[j]?=some u->w'.cell? ⟨b,o+k*ay.sz α+j,none⟩=some u:=by
  intro w' hw j u hj;rw[<-hc j u hj,<-Nat.add_assoc];exact hw.cell (p:=⟨b,o+k*ay.sz α+j,none⟩) (hS b hb)
 exact⟨b,o,x,cs,rfl,hb,hx,hr,λw' hw=>⟨λu hu=>hcc w' hw 0 u hu,hcc w' hw⟩⟩
theorem zw {α:Type} {f:α->α->Bool}:∀{xs ys:List α},xs.length≠ys.length->fY f xs ys=false
 | [],[],h=>absurd rfl h
 | [],_::_,_=>rfl
 | _::_,[],_=>rfl
 | x::l,y::m,h=>by
  have:l.length≠m.length:=λe=>h (by simp[e]);rw[fY,zw this,Bool.and_false]
theorem jB {α:Type} {xs:List α} {k:Nat} {x:α} (h:xs[k]?=some x):xs.drop k=x::xs.drop (k+1):=by
 obtain⟨hk,rfl⟩:=List.getElem?_eq_some_iff.1 h;exact List.drop_eq_getElem_cons hk
theorem zj {w:World} {S S2:Nat->Prop} {A A2:Option Addr} {n c n2 c2:Nat} {xs ys:List ae} (h:RS w S A n c xs) (h2:RS w S2 A2 n2 c2 ys) (hS:∀b,S b->b<w.heap.size) (gL:∀b,S2 b->b<w.heap.size) : Calls Tryz.prog 50 #[.slice A n c,.slice A2 n2 c2,.func (.func 51) #[] #[]] w (iT w (.bool (fY aK xs ys))):=by
 obtain⟨z,hz⟩:∃z,fY aK xs ys=z:=⟨_,rfl⟩;rw[hz];have eQ:=hz.symm;have hl1:=h.len;have hl2:=h2.len;have GC:=h.max;have hm2:=h2.max;have eM:n≠n2->z=false:=λe=>by rw[eQ];exact zw (by rw[hl1,hl2];exact e)
 have H1:=zH h;have H2:=zH h2;have HZ:=zH eQ;have Dc:=zH hl1;have nF:=zH hl2;have ZA:=zH eM;clear h h2 hz eQ hl1 hl2 eM;go_enter Tryz.func50,Tryz.ntmps50;by_cases hn:n=n2
 case neg=>
  have aW:=ZA.out hn;have db:=zH aW;have hb:((n:Int)==(n2:Int))=false:=by rw[beq_eq_false_iff_ne];omega
  have bH:(n==n2)=false:=by rw[beq_eq_false_iff_ne];exact hn
  clear aW hn ZA;go_wp2_with fail;go_ret
  exact⟨by rw[db.out];rfl,Below.refl _ _⟩
 subst hn;clear ZA;go_wp2_with fail;go_loopw [17] (λiv wr=>∃k:Nat,iv=.int .i64 k/\k<=n/\z=fY aK (xs.drop k) (ys.drop k)/\Below w.heap.size w wr) (λiv _=>n-(intOf iv).toNat)
 case atStart=>exact⟨0,rfl,Nat.zero_le _,by simpa using HZ.out,Below.refl _ _⟩
 case round=>
  clear HZ;obtain⟨k,rfl,hk,Ek,hb⟩:=hrel;have Ps:=zH Ek;have HB:=zH hb;have HR:=zH (H1.out.below hb hS);have Hq:=zH (H2.out.below hb gL);clear Ek hb;by_cases hlt:k<n
  ·have iR:(k:Int)<(n:Int):=by omega
   obtain⟨b,o,x,cs,rfl,zO,hx,hr,UL⟩:=HR.out.load_at (λb h=>Nat.lt_of_lt_of_le (hS b h) HB.out.size) hlt;obtain⟨b2,o2,y,cs2,rfl,adi,zI,Jj,Nw⟩:=Hq.out.load_at (λb h=>Nat.lt_of_lt_of_le (gL b h) HB.out.size) hlt;have NA:(k:Int)<=(c:Int):=by have:=HR.out.cap;omega
   have Nz:(k:Int)<=(c2:Int):=by have:=Hq.out.cap;omega
   have eL:z=(aK x y&&fY aK (xs.drop (k+1)) (ys.drop (k+1))):=by rw[Ps.out,jB hx,jB zI];rfl
   have jm:=zH eL;obtain⟨z1,En⟩:∃q,aK x y=q:=⟨_,rfl⟩;rw[En] at eL;have HZE:=zH En;clear En;have jm:=zH eL;obtain⟨A3,n3,c3,rfl,x1⟩:=hr;obtain⟨A4,n4,c4,rfl,x2⟩:=Jj;have bS:Below wr.heap.size wr (wr.alloc (.cells #[.string x.name,.slice A3 n3 c3,.int .i64 x.method,.int .i64 x.seats,.int .i64 x.ranks,.int .i64 x.digits,.int .i64 x.ties,.int .i64 x.over,.int .i64 x.skip] 87)):=(Below.refl _ _).alloc (Nat.le_refl _) _;have mC:cO (wr.alloc (.cells #[.string x.name,.slice A3 n3 c3,.int .i64 x.method,.int .i64 x.seats,.int .i64 x.ranks,.int .i64 x.digits,.int .i64 x.ties,.int .i64 x.over,.int .i64 x.skip] 87)) wr.heap.size 87 #[.string x.name,.slice A3 n3 c3,.int .i64 x.method,.int .i64 x.seats,.int .i64 x.ranks,.int .i64 x.digits,.int .i64 x.ties,.int .i64 x.over,.int .i64 x.skip]:=cO.new _ _ _;have eL:(wr.alloc (.cells #[.string x.name,.slice A3 n3 c3,.int .i64 x.method,.int .i64 x.seats,.int .i64 x.ranks,.int .i64 x.digits,.int .i64 x.ties,.int .i64 x.over,.int .i64 x.skip] 87)).heap.size=wr.heap.size+1:=by simp
   obtain⟨w1,fm⟩:∃q,wr.alloc (.cells #[.string x.name,.slice A3 n3 c3,.int .i64 x.method,.int .i64 x.seats,.int .i64 x.ranks,.int .i64 x.digits,.int .i64 x.ties,.int .i64 x.over,.int .i64 x.skip] 87)=q:=⟨_,rfl⟩;rw[fm] at bS mC eL;have bH:Below wr.heap.size wr (w1.alloc (.cells #[.string y.name,.slice A4 n4 c4,.int .i64 y.method,.int .i64 y.seats,.int .i64 y.ranks,.int .i64 y.digits,.int .i64 y.ties,.int .i64 y.over,.int .i64 y.skip] 87)):=bS.alloc (by omega) _;have gr:cO (w1.alloc (.cells #[.string y.name,.slice A4 n4 c4,.int .i64 y.method,.int .i64 y.seats,.int .i64 y.ranks,.int .i64 y.digits,.int .i64 y.ties,.int .i64 y.over,.int .i64 y.skip] 87)) (wr.heap.size+1) 87 #[.string y.name,.slice A4 n4 c4,.int .i64 y.method,.int .i64 y.seats,.int .i64 y.ranks,.int .i64 y.digits,.int .i64 y.ties,.int .i64 y.over,.int .i64 y.skip]:=cO.new' eL _ _;have mB:=mC.alloc (.cells #[.string y.name,.slice A4 n4 c4,.int .i64 y.method,.int .i64 y.seats,.int .i64 y.ranks,.int .i64 y.digits,.int .i64 y.ties,.int .i64 y.over,.int .i64 y.skip] 87);obtain⟨w2,R1⟩:∃q,w1.alloc (.cells #[.string y.name,.slice A4 n4 c4,.int .i64 y.method,.int .i64 y.seats,.int .i64 y.ranks,.int .i64 y.digits,.int .i64 y.ties,.int .i64 y.over,.int .i64 y.skip] 87)=q:=⟨_,rfl⟩;rw[R1] at bH gr mB;have gO:=UL wr (Below.refl _ _);have jT:=Nw w1 bS;have p0:w2.cell? ⟨wr.heap.size,0,none⟩=some (.string x.name):=mB.cell 0;have p1:w2.cell? ⟨wr.heap.size,1,none⟩=some (.slice A3 n3 c3):=mB.cell 1;have p2:w2.cell? ⟨wr.heap.size,2,none⟩=some (.int .i64 x.method):=mB.cell 2;have p3:w2.cell? ⟨wr.heap.size,3,none⟩=some (.int .i64 x.seats):=mB.cell 3;have p4:w2.cell? ⟨wr.heap.size,4,none⟩=some (.int .i64 x.ranks):=mB.cell 4;have p5:w2.cell? ⟨wr.heap.size,5,none⟩=some (.int .i64 x.digits):=mB.cell 5;have p6:w2.cell? ⟨wr.heap.size,6,none⟩=some (.int .i64 x.ties):=mB.cell 6;have p7:w2.cell? ⟨wr.heap.size,7,none⟩=some (.int .i64 x.over):=mB.cell 7;have p8:w2.cell? ⟨wr.heap.size,8,none⟩=some (.int .i64 x.skip):=mB.cell 8;have q0:w2.cell? ⟨wr.heap.size+1,0,none⟩=some (.string y.name):=gr.cell 0;have q1:w2.cell? ⟨wr.heap.size+1,1,none⟩=some (.slice A4 n4 c4):=gr.cell 1;have q2:w2.cell? ⟨wr.heap.size+1,2,none⟩=some (.int .i64 y.method):=gr.cell 2;have q3:w2.cell? ⟨wr.heap.size+1,3,none⟩=some (.int .i64 y.seats):=gr.cell 3;have q4:w2.cell? ⟨wr.heap.size+1,4,none⟩=some (.int .i64 y.ranks):=gr.cell 4;have q5:w2.cell? ⟨wr.heap.size+1,5,none⟩=some (.int .i64 y.digits):=gr.cell 5;have q6:w2.cell? ⟨wr.heap.size+1,6,none⟩=some (.int .i64 y.ties):=gr.cell 6;have q7:w2.cell? ⟨wr.heap.size+1,7,none⟩=some (.int .i64 y.over):=gr.cell 7;have q8:w2.cell? ⟨wr.heap.size+1,8,none⟩=some (.int .i64 y.skip):=gr.cell 8;have r0:wr.cell? ⟨b,o+k*9,none⟩=some (.string x.name):=gO.1 _ rfl;have r1:wr.cell? ⟨b,o+k*9+1,none⟩=some (.slice A3 n3 c3):=gO.2 1 _ rfl;have r2:wr.cell? ⟨b,o+k*9+2,none⟩=some (.int .i64 x.method):=gO.2 2 _ rfl;have r3:wr.cell? ⟨b,o+k*9+3,none⟩=some (.int .i64 x.seats):=gO.2 3 _ rfl;have r4:wr.cell? ⟨b,o+k*9+4,none⟩=some (.int .i64 x.ranks):=gO.2 4 _ rfl;have r5:wr.cell? ⟨b,o+k*9+5,none⟩=some (.int .i64 x.digits):=gO.2 5 _ rfl;have r6:wr.cell? ⟨b,o+k*9+6,none⟩=some (.int .i64 x.ties):=gO.2 6 _ rfl;have r7:wr.cell? ⟨b,o+k*9+7,none⟩=some (.int .i64 x.over):=gO.2 7 _ rfl;have r8:wr.cell? ⟨b,o+k*9+8,none⟩=some (.int .i64 x.skip):=gO.2 8 _ rfl;have s0:w1.cell? ⟨b2,o2+k*9,none⟩=some (.string y.name):=jT.1 _ rfl;have s1:w1.cell? ⟨b2,o2+k*9+1,none⟩=some (.slice A4 n4 c4):=jT.2 1 _ rfl;have s2:w1.cell? ⟨b2,o2+k*9+2,none⟩=some (.int .i64 y.method):=jT.2 2 _ rfl;have s3:w1.cell? ⟨b2,o2+k*9+3,none⟩=some (.int .i64 y.seats):=jT.2 3 _ rfl;have s4:w1.cell? ⟨b2,o2+k*9+4,none⟩=some (.int .i64 y.ranks):=jT.2 4 _ rfl;have s5:w1.cell? ⟨b2,o2+k*9+5,none⟩=some (.int .i64 y.digits):=jT.2 5 _ rfl;have s6:w1.cell? ⟨b2,o2+k*9+6,none⟩=some (.int .i64 y.ties):=jT.2 6 _ rfl;have s7:w1.cell? ⟨b2,o2+k*9+7,none⟩=some (.int .i64 y.over):=jT.2 7 _ rfl;have s8:w1.cell? ⟨b2,o2+k*9+8,none⟩=some (.int .i64 y.skip):=jT.2 8 _ rfl;have hcc:=(tz (w:=w2) (S:=S) (S2:=S2) (a:=x) (b:=y) ⟨_,rfl,A3,n3,c3,rfl,x1.below bH (λb h=>Nat.lt_of_lt_of_le (hS b h) HB.out.size)⟩ ⟨_,rfl,A4,n4,c4,rfl,x2.below bH (λb h=>Nat.lt_of_lt_of_le (gL b h) HB.out.size)⟩ (λb h=>Nat.lt_of_lt_of_le (hS b h) (Nat.le_trans HB.out.size bH.size)) (λb h=>Nat.lt_of_lt_of_le (gL b h) (Nat.le_trans HB.out.size bH.size)));rw[HZE.out] at hcc;have HC:=zH hcc;have ek:=zH (ak HB.out bH);have mQ:=zH fm;have Zs:=zH R1;have HSZ:=zH eL;clear hcc gO jT fm R1 mC gr mB bS bH UL Nw hx zI eL;go_upto_region 6 with(fail);rw[mQ.out];go_upto_region 7 with(fail);rw[HSZ.out,Zs.out];go_wp2_with fail;refine HC.out.mono ?_;rintro e w3 ⟨rfl,jF⟩;have kR:=zH (ak ek.out jF);clear jF;cases z1
   case false=>
    have aW:z=false:=by rw[jm.out];rfl
    have db:=zH aW;clear aW;go_wp2_with fail;go_ret
    exact⟨by rw[db.out];rfl,kR.out⟩
   case true=>
    go_wp2_with fail;go_roundw
    case rel=>exact⟨k+1,by go_num,by omega,by rw[jm.out,Bool.true_and],kR.out⟩
    case measure=>simp[intOf];omega
  ·have nP:k=n:=by omega
   have aW:z=true:=by
    rw[Ps.out,List.drop_eq_nil_of_le (by rw[Dc.out];omega),List.drop_eq_nil_of_le (by rw[nF.out];omega)];rfl
   have db:=zH aW;clear aW nP;go_wp2_with fail;go_ret
   exact⟨by rw[db.out];rfl,HB.out⟩
theorem EF {w:World} {S S2:Nat->Prop} {A A2:Option Addr} {n c n2 c2:Nat} {xs ys:List ai} (h:RS w S A n c xs) (h2:RS w S2 A2 n2 c2 ys) (hS:∀b,S b->b<w.heap.size) (gL:∀b,S2 b->b<w.heap.size) : Calls Tryz.prog 52 #[.slice A n c,.slice A2 n2 c2,.func (.func 53) #[] #[]] w (iT w (.bool (fY aZ xs ys))):=by
 obtain⟨z,hz⟩:∃z,fY aZ xs ys=z:=⟨_,rfl⟩;rw[hz];have eQ:=hz.symm;have hl1:=h.len;have hl2:=h2.len;have GC:=h.max;have hm2:=h2.max;have eM:n≠n2->z=false:=λe=>by rw[eQ];exact zw (by rw[hl1,hl2];exact e)
 have H1:=zH h;have H2:=zH h2;have HZ:=zH eQ;have Dc:=zH hl1;have nF:=zH hl2;have ZA:=zH eM;clear h h2 hz eQ hl1 hl2 eM;go_enter Tryz.func52,Tryz.ntmps52;by_cases hn:n=n2
 case neg=>
  have aW:=ZA.out hn;have db:=zH aW;have hb:((n:Int)==(n2:Int))=false:=by rw[beq_eq_false_iff_ne];omega
  have bH:(n==n2)=false:=by rw[beq_eq_false_iff_ne];exact hn
  clear aW hn ZA;go_wp2_with fail;go_ret
  exact⟨by rw[db.out];rfl,Below.refl _ _⟩
 subst hn;clear ZA;go_wp2_with fail;go_loopw [17] (λiv wr=>∃k:Nat,iv=.int .i64 k/\k<=n/\z=fY aZ (xs.drop k) (ys.drop k)/\Below w.heap.size w wr) (λiv _=>n-(intOf iv).toNat)
 case atStart=>exact⟨0,rfl,Nat.zero_le _,by simpa using HZ.out,Below.refl _ _⟩
 case round=>
  clear HZ;obtain⟨k,rfl,hk,Ek,hb⟩:=hrel;have Ps:=zH Ek;have HB:=zH hb;have HR:=zH (H1.out.below hb hS);have Hq:=zH (H2.out.below hb gL);clear Ek hb;by_cases hlt:k<n
  ·have iR:(k:Int)<(n:Int):=by omega
   obtain⟨b,o,x,cs,rfl,zO,hx,hr,UL⟩:=HR.out.load_at (λb h=>Nat.lt_of_lt_of_le (hS b h) HB.out.size) hlt;obtain⟨b2,o2,y,cs2,rfl,adi,zI,Jj,Nw⟩:=Hq.out.load_at (λb h=>Nat.lt_of_lt_of_le (gL b h) HB.out.size) hlt;have NA:(k:Int)<=(c:Int):=by have:=HR.out.cap;omega
   have Nz:(k:Int)<=(c2:Int):=by have:=Hq.out.cap;omega
   have eL:z=(aZ x y&&fY aZ (xs.drop (k+1)) (ys.drop (k+1))):=by rw[Ps.out,jB hx,jB zI];rfl
   have jm:=zH eL;obtain⟨z1,En⟩:∃q,aZ x y=q:=⟨_,rfl⟩;rw[En] at eL;have HZE:=zH En;clear En;have jm:=zH eL;obtain⟨A3,n3,c3,A5,n5,c5,rfl,x1,x3⟩:=hr;obtain⟨A4,n4,c4,A6,n6,c6,rfl,x2,x4⟩:=Jj;have bS:Below wr.heap.size wr (wr.alloc (.cells #[.string x.name,.slice A3 n3 c3,.slice A5 n5 c5] 42)):=(Below.refl _ _).alloc (Nat.le_refl _) _;have mC:cO (wr.alloc (.cells #[.string x.name,.slice A3 n3 c3,.slice A5 n5 c5] 42)) wr.heap.size 42 #[.string x.name,.slice A3 n3 c3,.slice A5 n5 c5]:=cO.new _ _ _;have eL:(wr.alloc (.cells #[.string x.name,.slice A3 n3 c3,.slice A5 n5 c5] 42)).heap.size=wr.heap.size+1:=by simp
   obtain⟨w1,fm⟩:∃q,wr.alloc (.cells #[.string x.name,.slice A3 n3 c3,.slice A5 n5 c5] 42)=q:=⟨_,rfl⟩;rw[fm] at bS mC eL;have bH:Below wr.heap.size wr (w1.alloc (.cells #[.string y.name,.slice A4 n4 c4,.slice A6 n6 c6] 42)):=bS.alloc (by omega) _;have gr:cO (w1.alloc (.cells #[.string y.name,.slice A4 n4 c4,.slice A6 n6 c6] 42)) (wr.heap.size+1) 42 #[.string y.name,.slice A4 n4 c4,.slice A6 n6 c6]:=cO.new' eL _ _;have mB:=mC.alloc (.cells #[.string y.name,.slice A4 n4 c4,.slice A6 n6 c6] 42);obtain⟨w2,R1⟩:∃q,w1.alloc (.cells #[.string y.name,.slice A4 n4 c4,.slice A6 n6 c6] 42)=q:=⟨_,rfl⟩;rw[R1] at bH gr mB;have gO:=UL wr (Below.refl _ _);have jT:=Nw w1 bS;have p0:w2.cell? ⟨wr.heap.size,0,none⟩=some (.string x.name):=mB.cell 0;have p1:w2.cell? ⟨wr.heap.size,1,none⟩=some (.slice A3 n3 c3):=mB.cell 1;have p2:w2.cell? ⟨wr.heap.size,2,none⟩=some (.slice A5 n5 c5):=mB.cell 2;have q0:w2.cell? ⟨wr.heap.size+1,0,none⟩=some (.string y.name):=gr.cell 0;have q1:w2.cell? ⟨wr.heap.size+1,1,none⟩=some (.slice A4 n4 c4):=gr.cell 1;have q2:w2.cell? ⟨wr.heap.size+1,2,none⟩=some (.slice A6 n6 c6):=gr.cell 2;have r0:wr.cell? ⟨b,o+k*3,none⟩=some (.string x.name):=gO.1 _ rfl;have r1:wr.cell? ⟨b,o+k*3+1,none⟩=some (.slice A3 n3 c3):=gO.2 1 _ rfl;have r2:wr.cell? ⟨b,o+k*3+2,none⟩=some (.slice A5 n5 c5):=gO.2 2 _ rfl;have s0:w1.cell? ⟨b2,o2+k*3,none⟩=some (.string y.name):=jT.1 _ rfl;have s1:w1.cell? ⟨b2,o2+k*3+1,none⟩=some (.slice A4 n4 c4):=jT.2 1 _ rfl;have s2:w1.cell? ⟨b2,o2+k*3+2,none⟩=some (.slice A6 n6 c6):=jT.2 2 _ rfl;have hcc:=(yk (w:=w2) (S:=S) (S2:=S2) (a:=x) (b:=y) ⟨_,rfl,A3,n3,c3,A5,n5,c5,rfl,x1.below bH (λb h=>Nat.lt_of_lt_of_le (hS b h) HB.out.size),x3.below bH (λb h=>Nat.lt_of_lt_of_le (hS b h) HB.out.size)⟩ ⟨_,rfl,A4,n4,c4,A6,n6,c6,rfl,x2.below bH (λb h=>Nat.lt_of_lt_of_le (gL b h) HB.out.size),x4.below bH (λb h=>Nat.lt_of_lt_of_le (gL b h) HB.out.size)⟩ (λb h=>Nat.lt_of_lt_of_le (hS b h) (Nat.le_trans HB.out.size bH.size)) (λb h=>Nat.lt_of_lt_of_le (gL b h) (Nat.le_trans HB.out.size bH.size)));rw[HZE.out] at hcc;have HC:=zH hcc;have ek:=zH (ak HB.out bH);have mQ:=zH fm;have Zs:=zH R1;have HSZ:=zH eL;clear hcc gO jT fm R1 mC gr mB bS bH UL Nw hx zI eL;go_upto_region 6 with(fail);rw[mQ.out];go_upto_region 7 with(fail);rw[HSZ.out,Zs.out];go_wp2_with fail;refine HC.out.mono ?_;rintro e w3 ⟨rfl,jF⟩;have kR:=zH (ak ek.out jF);clear jF;cases z1
   case false=>
    have aW:z=false:=by rw[jm.out];rfl
    have db:=zH aW;clear aW;go_wp2_with fail;go_ret
    exact⟨by rw[db.out];rfl,kR.out⟩
   case true=>
    go_wp2_with fail;go_roundw
    case rel=>exact⟨k+1,by go_num,by omega,by rw[jm.out,Bool.true_and],kR.out⟩
    case measure=>simp[intOf];omega
  ·have nP:k=n:=by omega
   have aW:z=true:=by
    rw[Ps.out,List.drop_eq_nil_of_le (by rw[Dc.out];omega),List.drop_eq_nil_of_le (by rw[nF.out];omega)];rfl
   have db:=zH aW;clear aW nP;go_wp2_with fail;go_ret
   exact⟨by rw[db.out];rfl,HB.out⟩
end Go.Proofs.YtdbpbfglhbiadaaGreatDoor
