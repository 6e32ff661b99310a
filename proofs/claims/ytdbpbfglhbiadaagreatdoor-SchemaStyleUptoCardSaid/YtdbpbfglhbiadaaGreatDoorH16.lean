/- Same1 Same2 Same3 -/
import Derived.Test.YtdbpbfglhbiadaaGreatDoorH09
import Derived.Test.YtdbpbfglhbiadaaGreatDoorH12
import Derived.Test.YtdbpbfglhbiadaaGreatDoorProg
import Derived.Test.YtdbpbfglhbiadaaGreatDoorH01
import Derived.Test.YtdbpbfglhbiadaaGreatDoorH15
import Derived.Test.YtdbpbfglhbiadaaGreatDoorH02
import Derived.Deep.DeepCutAuto
set_option maxHeartbeats 4000000
set_option maxRecDepth 100000
namespace Go.Proofs.YtdbpbfglhbiadaaGreatDoor
open Go.RowKit
theorem zP {w:World} {S S2:Nat->Prop} {v v2:Value} {a b:aj} (h:SV w S v a) (h2:SV w S2 v2 b) (hS:∀b,S b->b<w.heap.size) (gZ:∀b,S2 b->b<w.heap.size) : Calls Tryz.prog 53 #[v,v2] w (kB w (.bool (be a b))):=by
 obtain⟨cs,rfl,A,n,c,A2,n2,c2,rfl,r1,r2⟩:=h;obtain⟨cs,rfl,A3,n3,c3,A4,n4,c4,rfl,r3,r4⟩:=h2;obtain⟨w1,fE⟩:∃x,(w.alloc (.cells #[.string a.name,.slice A n c,.slice A2 n2 c2] 42)).alloc (.cells #[.string b.name,.slice A3 n3 c3,.slice A4 n4 c4] 42)=x:=⟨_,rfl⟩;have ci:Below w.heap.size w w1:=by rw[<-fE];exact((Below.refl _ _).alloc (Nat.le_refl _) _).alloc (by simp) _
 have EG:df w1 w.heap.size 42 #[.string a.name,.slice A n c,.slice A2 n2 c2]:=by rw[<-fE];exact(df.new _ _ _).alloc _
 have EF:df w1 (w.heap.size+1) 42 #[.string b.name,.slice A3 n3 c3,.slice A4 n4 c4]:=by
  rw[<-fE];have:=df.new (w.alloc (.cells #[.string a.name,.slice A n c,.slice A2 n2 c2] 42)) 42 #[.string b.name,.slice A3 n3 c3,.slice A4 n4 c4];simpa using this
 have H1:=zH (r1.below ci hS);have H2:=zH (r2.below ci hS);have H3:=zH (r3.below ci gZ);have H4:=zH (r4.below ci gZ);obtain⟨na,pa,ca⟩:=a;obtain⟨nb,pb,cb⟩:=b;obtain⟨z,hz⟩:∃z,be ⟨na,pa,ca⟩ ⟨nb,pb,cb⟩=z:=⟨_,rfl⟩;have gD:z=(decide (na=nb)&&(decide (pa=pb)&&decide (ca=cb))):=hz.symm;rw[hz];obtain⟨d0,d1,d2,_,_,_⟩:=EG.facts3;obtain⟨d3,d4,d5,_,_,_⟩:=EF.facts3;have nz:=zH fE;have fe:=zH ci;have HZ:=zH gD;clear fE ci hz gD EG EF r1 r2 r3 r4;go_enter Tryz.func53,Tryz.ntmps53;by_cases hn:na=nb
 ·have bw:=HZ.out;rw[decide_eq_true hn,Bool.true_and] at bw;have fa:=zH bw;have heq:(na.toList==nb.toList)=true:=by rw[hn];simp
  clear bw HZ hn;go_wp2_with fail;rw[nz.out];go_wp2_with fail;refine(yT H1.out H3.out).mono ?_;rintro e w' ⟨rfl,m,rfl⟩;by_cases hx:pa=pb
  ·have bw:=fa.out;rw[decide_eq_true hx,Bool.true_and] at bw;rw[decide_eq_true hx];have ot:=zH bw;clear bw fa hx;go_wp2_with fail;refine(yT (H2.out.drewN m) (H4.out.drewN m)).mono ?_;rintro e w' ⟨rfl,m2,rfl⟩;rw[<-ot.out];go_wp2_with fail;go_ret
   exact⟨rfl,below_drewN fe.out (m+m2)⟩
  ·have bw:=fa.out;rw[decide_eq_false hx,Bool.false_and] at bw;rw[decide_eq_false hx];have ot:=zH bw;clear bw fa hx;go_wp2_with fail;go_ret
   exact⟨by rw[ot.out];rfl,below_drewN fe.out m⟩
 ·have bw:=HZ.out;rw[decide_eq_false hn,Bool.false_and] at bw;have fa:=zH bw;have heq:(na.toList==nb.toList)=false:=by
   have:=Lib.bytes_beq_false_iff na nb;exact this.2 hn
  clear bw HZ hn;go_wp2_with fail;rw[nz.out];go_wp2_with fail;go_ret
  exact⟨by rw[fa.out];rfl,fe.out⟩
theorem uX {w:World} {S S2:Nat->Prop} {v v2:Value} {a b:ae} (h:SV w S v a) (h2:SV w S2 v2 b) (hS:∀b,S b->b<w.heap.size) (gZ:∀b,S2 b->b<w.heap.size) : Calls Tryz.prog 51 #[v,v2] w (kB w (.bool (aU a b))):=by
 obtain⟨cs,rfl,A,n,c,rfl,r1⟩:=h;obtain⟨cs,rfl,A3,n3,c3,rfl,r3⟩:=h2;obtain⟨w1,fE⟩:∃x,(w.alloc (.cells #[.string a.name,.slice A n c,.int .i64 a.method,.int .i64 a.seats,.int .i64 a.ranks,.int .i64 a.digits,.int .i64 a.ties,.int .i64 a.over,.int .i64 a.skip] 87)).alloc (.cells #[.string b.name,.slice A3 n3 c3,.int .i64 b.method,.int .i64 b.seats,.int .i64 b.ranks,.int .i64 b.digits,.int .i64 b.ties,.int .i64 b.over,.int .i64 b.skip] 87)=x:=⟨_,rfl⟩;have ci:Below w.heap.size w w1:=by rw[<-fE];exact((Below.refl _ _).alloc (Nat.le_refl _) _).alloc (by simp) _
 have EG:df w1 w.heap.size 87 #[.string a.name,.slice A n c,.int .i64 a.method,.int .i64 a.seats,.int .i64 a.ranks,.int .i64 a.digits,.int .i64 a.ties,.int .i64 a.over,.int .i64 a.skip]:=by rw[<-fE];exact(df.new _ _ _).alloc _
 have EF:df w1 (w.heap.size+1) 87 #[.string b.name,.slice A3 n3 c3,.int .i64 b.method,.int .i64 b.seats,.int .i64 b.ranks,.int .i64 b.digits,.int .i64 b.ties,.int .i64 b.over,.int .i64 b.skip]:=by
  rw[<-fE];have:=df.new (w.alloc (.cells #[.string a.name,.slice A n c,.int .i64 a.method,.int .i64 a.seats,.int .i64 a.ranks,.int .i64 a.digits,.int .i64 a.ties,.int .i64 a.over,.int .i64 a.skip] 87)) 87 #[.string b.name,.slice A3 n3 c3,.int .i64 b.method,.int .i64 b.seats,.int .i64 b.ranks,.int .i64 b.digits,.int .i64 b.ties,.int .i64 b.over,.int .i64 b.skip];simpa using this
 have H1:=zH (r1.below ci hS);have H3:=zH (r3.below ci gZ);obtain⟨na,pa,a0,a1,a2,a3,a4,a5,a6⟩:=a;obtain⟨nb,pb,b0,b1,b2,b3,b4,b5,b6⟩:=b;obtain⟨z,hz⟩:∃z,aU ⟨na,pa,a0,a1,a2,a3,a4,a5,a6⟩ ⟨nb,pb,b0,b1,b2,b3,b4,b5,b6⟩=z:=⟨_,rfl⟩;have gD:z=(decide (na=nb)&&(decide (pa=pb)&&(decide (a0=b0)&&(decide (a1=b1)&&(decide (a2=b2)&&(decide (a3=b3)&&(decide (a4=b4)&&(decide (a5=b5)&&(decide (a6=b6)))))))))):=hz.symm;rw[hz];have d0:w1.cell? ⟨w.heap.size,0,none⟩=some (.string na):=EG.cell 0;have d1:w1.cell? ⟨w.heap.size,1,none⟩=some (.slice A n c):=EG.cell 1;have e0:w1.cell? ⟨w.heap.size+1,0,none⟩=some (.string nb):=EF.cell 0;have e1:w1.cell? ⟨w.heap.size+1,1,none⟩=some (.slice A3 n3 c3):=EF.cell 1;have d2:w1.cell? ⟨w.heap.size,2,none⟩=some (.int .i64 a0):=EG.cell 2;have e2:w1.cell? ⟨w.heap.size+1,2,none⟩=some (.int .i64 b0):=EF.cell 2;have d3:w1.cell? ⟨w.heap.size,3,none⟩=some (.int .i64 a1):=EG.cell 3;have e3:w1.cell? ⟨w.heap.size+1,3,none⟩=some (.int .i64 b1):=EF.cell 3;have d4:w1.cell? ⟨w.heap.size,4,none⟩=some (.int .i64 a2):=EG.cell 4;have e4:w1.cell? ⟨w.heap.size+1,4,none⟩=some (.int .i64 b2):=EF.cell 4;have d5:w1.cell? ⟨w.heap.size,5,none⟩=some (.int .i64 a3):=EG.cell 5;have e5:w1.cell? ⟨w.heap.size+1,5,none⟩=some (.int .i64 b3):=EF.cell 5;have d6:w1.cell? ⟨w.heap.size,6,none⟩=some (.int .i64 a4):=EG.cell 6;have e6:w1.cell? ⟨w.heap.size+1,6,none⟩=some (.int .i64 b4):=EF.cell 6;have d7:w1.cell? ⟨w.heap.size,7,none⟩=some (.int .i64 a5):=EG.cell 7;have e7:w1.cell? ⟨w.heap.size+1,7,none⟩=some (.int .i64 b5):=EF.cell 7;have d8:w1.cell? ⟨w.heap.size,8,none⟩=some (.int .i64 a6):=EG.cell 8;have e8:w1.cell? ⟨w.heap.size+1,8,none⟩=some (.int .i64 b6):=EF.cell 8;have nz:=zH fE;have fe:=zH ci;have HZ:=zH gD;clear fE ci hz gD EG EF r1 r3;go_enter Tryz.func51,Tryz.ntmps51;by_cases hn:na=nb
 case neg=>
  have bw:=HZ.out;rw[decide_eq_false hn,Bool.false_and] at bw;have fa:=zH bw;have heq:(na.toList==nb.toList)=false:=(Lib.bytes_beq_false_iff na nb).2 hn;clear bw HZ hn;go_wp2_with fail;rw[nz.out];go_wp2_with fail;go_ret
  exact⟨by rw[fa.out];rfl,fe.out⟩
 have bw:=HZ.out;rw[decide_eq_true hn,Bool.true_and] at bw;have tZ:=zH bw;have heq:(na.toList==nb.toList)=true:=by rw[hn];simp
 clear bw HZ hn;go_wp2_with fail;rw[nz.out];go_wp2_with fail;refine(yR H1.out H3.out).mono ?_;rintro e w' ⟨rfl,m,rfl⟩;by_cases hx:pa=pb
 case neg=>
  have bw:=tZ.out;rw[decide_eq_false hx,Bool.false_and] at bw;rw[decide_eq_false hx];have fa:=zH bw;clear bw tZ hx;go_wp2_with fail;go_ret
  exact⟨by rw[fa.out];rfl,below_drewN fe.out m⟩
 have bw:=tZ.out;rw[decide_eq_true hx,Bool.true_and] at bw;rw[decide_eq_true hx];have mD:=zH bw;clear bw tZ hx;by_cases h0:a0=b0
 case neg=>
  have bw:=mD.out;rw[decide_eq_false h0,Bool.false_and] at bw;have fa:=zH bw;have g0:(a0==b0)=false:=by rw[beq_eq_false_iff_ne];exact h0
  clear bw mD h0;go_wp2_with fail;go_ret
  exact⟨by rw[fa.out];rfl,below_drewN fe.out m⟩
 have bw:=mD.out;rw[decide_eq_true h0,Bool.true_and] at bw;have ot:=zH bw;have g0:(a0==b0)=true:=by rw[beq_iff_eq];exact h0
 clear bw mD h0;by_cases h1:a1=b1
 case neg=>
  have bw:=ot.out;rw[decide_eq_false h1,Bool.false_and] at bw;have fa:=zH bw;have g1:(a1==b1)=false:=by rw[beq_eq_false_iff_ne];exact h1
  clear bw ot h1;go_wp2_with fail;go_ret
  exact⟨by rw[fa.out];rfl,below_drewN fe.out m⟩
 have bw:=ot.out;rw[decide_eq_true h1,Bool.true_and] at bw;have HZ3:=zH bw;have g1:(a1==b1)=true:=by rw[beq_iff_eq];exact h1
 clear bw ot h1;by_cases h2:a2=b2
 case neg=>
  have bw:=HZ3.out;rw[decide_eq_false h2,Bool.false_and] at bw;have fa:=zH bw;have g2:(a2==b2)=false:=by rw[beq_eq_false_iff_ne];exact h2
  clear bw HZ3 h2;go_wp2_with fail;go_ret
  exact⟨by rw[fa.out];rfl,below_drewN fe.out m⟩
 have bw:=HZ3.out;rw[decide_eq_true h2,Bool.true_and] at bw;have HZ4:=zH bw;have g2:(a2==b2)=true:=by rw[beq_iff_eq];exact h2
 clear bw HZ3 h2;by_cases h3:a3=b3
 case neg=>
  have bw:=HZ4.out;rw[decide_eq_false h3,Bool.false_and] at bw;have fa:=zH bw;have g3:(a3==b3)=false:=by rw[beq_eq_false_iff_ne];exact h3
  clear bw HZ4 h3;go_wp2_with fail;go_ret
  exact⟨by rw[fa.out];rfl,below_drewN fe.out m⟩
 have bw:=HZ4.out;rw[decide_eq_true h3,Bool.true_and] at bw;have HZ5:=zH bw;have g3:(a3==b3)=true:=by rw[beq_iff_eq];exact h3
 clear bw HZ4 h3;by_cases h4:a4=b4
 case neg=>
  have bw:=HZ5.out;rw[decide_eq_false h4,Bool.false_and] at bw;have fa:=zH bw;have g4:(a4==b4)=false:=by rw[beq_eq_false_iff_ne];exact h4
  clear bw HZ5 h4;go_wp2_with fail;go_ret
  exact⟨by rw[fa.out];rfl,below_drewN fe.out m⟩
 have bw:=HZ5.out;rw[decide_eq_true h4,Bool.true_and] at bw;have HZ6:=zH bw;have g4:(a4==b4)=true:=by rw[beq_iff_eq];exact h4
 clear bw HZ5 h4;by_cases h5:a5=b5
 case neg=>
  have bw:=HZ6.out;rw[decide_eq_false h5,Bool.false_and] at bw;have fa:=zH bw;have g5:(a5==b5)=false:=by rw[beq_eq_false_iff_ne];exact h5
  clear bw HZ6 h5;go_wp2_with fail;go_ret
  exact⟨by rw[fa.out];rfl,below_drewN fe.out m⟩
 have bw:=HZ6.out;rw[decide_eq_true h5,Bool.true_and] at bw;have HZ7:=zH bw;have g5:(a5==b5)=true:=by rw[beq_iff_eq];exact h5
 clear bw HZ6 h5;by_cases h6:a6=b6
 case neg=>
  have bw:=HZ7.out;rw[decide_eq_false h6] at bw;have fa:=zH bw;have g6:(a6==b6)=false:=by rw[beq_eq_false_iff_ne];exact h6
  clear bw HZ7 h6;go_wp2_with fail;go_ret
  exact⟨by rw[fa.out];rfl,below_drewN fe.out m⟩
 have bw:=HZ7.out;rw[decide_eq_true h6] at bw;have HZ8:=zH bw;have g6:(a6==b6)=true:=by rw[beq_iff_eq];exact h6
 clear bw HZ7 h6;go_wp2_with fail;go_ret
 exact⟨by rw[HZ8.out];rfl,below_drewN fe.out m⟩
theorem RS.load_at {α:Type} [aA α] {w:World} {S:Nat->Prop} {A:Option Addr} {n c:Nat} {xs:List α} (h:RS w S A n c xs) (hS:∀b,S b->b<w.heap.size) {k:Nat} (hk:k<n) : ∃b o x cs,A=some ⟨b,o,none⟩/\S b/\xs[k]?=some x/\aA.rep w S cs x/\∀w',Below w.heap.size w w'->(∀u,cs[0]?=some u->w'.cell? ⟨b,o+k*aA.sz α,none⟩=some u)/\∀j u,cs[j]?=some u->w'.cell? ⟨b,o+k*aA.sz α+j,none⟩=some u:=by
 obtain⟨b,o,x,cs,rfl,hb,hx,hr,hc⟩:=h.at_ hk;have hcc:∀w',Below w.heap.size w w'->∀j u,cs[j]?=some u->w'.cell? ⟨b,o+k*aA.sz α+j,none⟩=some u:=by
  intro w' hw j u hj;rw[<-hc j u hj,<-Nat.add_assoc];exact hw.cell (p:=⟨b,o+k*aA.sz α+j,none⟩) (hS b hb)
 exact⟨b,o,x,cs,rfl,hb,hx,hr,λw' hw=>⟨λu hu=>hcc w' hw 0 u hu,hcc w' hw⟩⟩
theorem Bj {α:Type} {f:α->α->Bool}:∀{xs ys:List α},xs.length≠ys.length->gw f xs ys=false
 | [],[],h=>absurd rfl h
 | [],_::_,_=>rfl
 | _::_,[],_=>rfl
 | x::l,y::m,h=>by
  have:l.length≠m.length:=λe=>h (by simp[e]);rw[gw,Bj this,Bool.and_false]
theorem jO {α:Type} {xs:List α} {k:Nat} {x:α} (h:xs[k]?=some x):xs.drop k=x::xs.drop (k+1):=by
 obtain⟨hk,rfl⟩:=List.getElem?_eq_some_iff.1 h;exact List.drop_eq_getElem_cons hk
theorem AZ {w:World} {S S2:Nat->Prop} {A A2:Option Addr} {n c n2 c2:Nat} {xs ys:List ae} (h:RS w S A n c xs) (h2:RS w S2 A2 n2 c2 ys) (hS:∀b,S b->b<w.heap.size) (gZ:∀b,S2 b->b<w.heap.size) : Calls Tryz.prog 50 #[.slice A n c,.slice A2 n2 c2,.func (.func 51) #[] #[]] w (kB w (.bool (gw aU xs ys))):=by
 obtain⟨z,hz⟩:∃z,gw aU xs ys=z:=⟨_,rfl⟩;rw[hz];have gD:=hz.symm;have hl1:=h.len;have hl2:=h2.len;have I1:=h.max;have hm2:=h2.max;have fR:n≠n2->z=false:=λe=>by rw[gD];exact Bj (by rw[hl1,hl2];exact e)
 have H1:=zH h;have H2:=zH h2;have HZ:=zH gD;have EP:=zH hl1;have ow:=zH hl2;have HNE:=zH fR;clear h h2 hz gD hl1 hl2 fR;go_enter Tryz.func50,Tryz.ntmps50;by_cases hn:n=n2
 case neg=>
  have bw:=HNE.out hn;have fa:=zH bw;have hb:((n:Int)==(n2:Int))=false:=by rw[beq_eq_false_iff_ne];omega
  have bX:(n==n2)=false:=by rw[beq_eq_false_iff_ne];exact hn
  clear bw hn HNE;go_wp2_with fail;go_ret
  exact⟨by rw[fa.out];rfl,Below.refl _ _⟩
 subst hn;clear HNE;go_wp2_with fail;go_loopw [17] (λiv wr=>∃k:Nat,iv=.int .i64 k/\k<=n/\z=gw aU (xs.drop k) (ys.drop k)/\Below w.heap.size w wr) (λiv _=>n-(intOf iv).toNat)
 case atStart=>exact⟨0,rfl,Nat.zero_le _,by simpa using HZ.out,Below.refl _ _⟩
 case round=>
  clear HZ;obtain⟨k,rfl,hk,Xh,hb⟩:=hrel;have X7:=zH Xh;have HB:=zH hb;have HR:=zH (H1.out.below hb hS);have JJ:=zH (H2.out.below hb gZ);clear Xh hb;by_cases hlt:k<n
  ·have lI:(k:Int)<(n:Int):=by omega
   obtain⟨b,o,x,cs,rfl,Bz,hx,hr,Xr⟩:=HR.out.load_at (λb h=>Nat.lt_of_lt_of_le (hS b h) HB.out.size) hlt;obtain⟨b2,o2,y,cs2,rfl,age,Bt,PD,PO⟩:=JJ.out.load_at (λb h=>Nat.lt_of_lt_of_le (gZ b h) HB.out.size) hlt;have Sr:(k:Int)<=(c:Int):=by have:=HR.out.cap;omega
   have Ve:(k:Int)<=(c2:Int):=by have:=JJ.out.cap;omega
   have gC:z=(aU x y&&gw aU (xs.drop (k+1)) (ys.drop (k+1))):=by rw[X7.out,jO hx,jO Bt];rfl
   have mD:=zH gC;obtain⟨z1,FW⟩:∃q,aU x y=q:=⟨_,rfl⟩;rw[FW] at gC;have HZE:=zH FW;clear FW;have mD:=zH gC;obtain⟨A3,n3,c3,rfl,x1⟩:=hr;obtain⟨A4,n4,c4,rfl,x2⟩:=PD;have ci:Below wr.heap.size wr (wr.alloc (.cells #[.string x.name,.slice A3 n3 c3,.int .i64 x.method,.int .i64 x.seats,.int .i64 x.ranks,.int .i64 x.digits,.int .i64 x.ties,.int .i64 x.over,.int .i64 x.skip] 87)):=(Below.refl _ _).alloc (Nat.le_refl _) _;have nR:df (wr.alloc (.cells #[.string x.name,.slice A3 n3 c3,.int .i64 x.method,.int .i64 x.seats,.int .i64 x.ranks,.int .i64 x.digits,.int .i64 x.ties,.int .i64 x.over,.int .i64 x.skip] 87)) wr.heap.size 87 #[.string x.name,.slice A3 n3 c3,.int .i64 x.method,.int .i64 x.seats,.int .i64 x.ranks,.int .i64 x.digits,.int .i64 x.ties,.int .i64 x.over,.int .i64 x.skip]:=df.new _ _ _;have gC:(wr.alloc (.cells #[.string x.name,.slice A3 n3 c3,.int .i64 x.method,.int .i64 x.seats,.int .i64 x.ranks,.int .i64 x.digits,.int .i64 x.ties,.int .i64 x.over,.int .i64 x.skip] 87)).heap.size=wr.heap.size+1:=by simp
   obtain⟨w1,fE⟩:∃q,wr.alloc (.cells #[.string x.name,.slice A3 n3 c3,.int .i64 x.method,.int .i64 x.seats,.int .i64 x.ranks,.int .i64 x.digits,.int .i64 x.ties,.int .i64 x.over,.int .i64 x.skip] 87)=q:=⟨_,rfl⟩;rw[fE] at ci nR gC;have bX:Below wr.heap.size wr (w1.alloc (.cells #[.string y.name,.slice A4 n4 c4,.int .i64 y.method,.int .i64 y.seats,.int .i64 y.ranks,.int .i64 y.digits,.int .i64 y.ties,.int .i64 y.over,.int .i64 y.skip] 87)):=ci.alloc (by omega) _;have gM:df (w1.alloc (.cells #[.string y.name,.slice A4 n4 c4,.int .i64 y.method,.int .i64 y.seats,.int .i64 y.ranks,.int .i64 y.digits,.int .i64 y.ties,.int .i64 y.over,.int .i64 y.skip] 87)) (wr.heap.size+1) 87 #[.string y.name,.slice A4 n4 c4,.int .i64 y.method,.int .i64 y.seats,.int .i64 y.ranks,.int .i64 y.digits,.int .i64 y.ties,.int .i64 y.over,.int .i64 y.skip]:=df.new' gC _ _;have m0:=nR.alloc (.cells #[.string y.name,.slice A4 n4 c4,.int .i64 y.method,.int .i64 y.seats,.int .i64 y.ranks,.int .i64 y.digits,.int .i64 y.ties,.int .i64 y.over,.int .i64 y.skip] 87);obtain⟨w2,UY⟩:∃q,w1.alloc (.cells #[.string y.name,.slice A4 n4 c4,.int .i64 y.method,.int .i64 y.seats,.int .i64 y.ranks,.int .i64 y.digits,.int .i64 y.ties,.int .i64 y.over,.int .i64 y.skip] 87)=q:=⟨_,rfl⟩;rw[UY] at bX gM m0;have iI:=Xr wr (Below.refl _ _);have kQ:=PO w1 ci;have p0:w2.cell? ⟨wr.heap.size,0,none⟩=some (.string x.name):=m0.cell 0;have p1:w2.cell? ⟨wr.heap.size,1,none⟩=some (.slice A3 n3 c3):=m0.cell 1;have p2:w2.cell? ⟨wr.heap.size,2,none⟩=some (.int .i64 x.method):=m0.cell 2;have p3:w2.cell? ⟨wr.heap.size,3,none⟩=some (.int .i64 x.seats):=m0.cell 3;have p4:w2.cell? ⟨wr.heap.size,4,none⟩=some (.int .i64 x.ranks):=m0.cell 4;have p5:w2.cell? ⟨wr.heap.size,5,none⟩=some (.int .i64 x.digits):=m0.cell 5;have p6:w2.cell? ⟨wr.heap.size,6,none⟩=some (.int .i64 x.ties):=m0.cell 6;have p7:w2.cell? ⟨wr.heap.size,7,none⟩=some (.int .i64 x.over):=m0.cell 7;have p8:w2.cell? ⟨wr.heap.size,8,none⟩=some (.int .i64 x.skip):=m0.cell 8;have q0:w2.cell? ⟨wr.heap.size+1,0,none⟩=some (.string y.name):=gM.cell 0;have q1:w2.cell? ⟨wr.heap.size+1,1,none⟩=some (.slice A4 n4 c4):=gM.cell 1;have q2:w2.cell? ⟨wr.heap.size+1,2,none⟩=some (.int .i64 y.method):=gM.cell 2;have q3:w2.cell? ⟨wr.heap.size+1,3,none⟩=some (.int .i64 y.seats):=gM.cell 3;have q4:w2.cell? ⟨wr.heap.size+1,4,none⟩=some (.int .i64 y.ranks):=gM.cell 4;have q5:w2.cell? ⟨wr.heap.size+1,5,none⟩=some (.int .i64 y.digits):=gM.cell 5;have q6:w2.cell? ⟨wr.heap.size+1,6,none⟩=some (.int .i64 y.ties):=gM.cell 6;have q7:w2.cell? ⟨wr.heap.size+1,7,none⟩=some (.int .i64 y.over):=gM.cell 7;have q8:w2.cell? ⟨wr.heap.size+1,8,none⟩=some (.int .i64 y.skip):=gM.cell 8;have r0:wr.cell? ⟨b,o+k*9,none⟩=some (.string x.name):=iI.1 _ rfl;have r1:wr.cell? ⟨b,o+k*9+1,none⟩=some (.slice A3 n3 c3):=iI.2 1 _ rfl;have r2:wr.cell? ⟨b,o+k*9+2,none⟩=some (.int .i64 x.method):=iI.2 2 _ rfl;have r3:wr.cell? ⟨b,o+k*9+3,none⟩=some (.int .i64 x.seats):=iI.2 3 _ rfl;have r4:wr.cell? ⟨b,o+k*9+4,none⟩=some (.int .i64 x.ranks):=iI.2 4 _ rfl;have r5:wr.cell? ⟨b,o+k*9+5,none⟩=some (.int .i64 x.digits):=iI.2 5 _ rfl;have r6:wr.cell? ⟨b,o+k*9+6,none⟩=some (.int .i64 x.ties):=iI.2 6 _ rfl;have r7:wr.cell? ⟨b,o+k*9+7,none⟩=some (.int .i64 x.over):=iI.2 7 _ rfl;have r8:wr.cell? ⟨b,o+k*9+8,none⟩=some (.int .i64 x.skip):=iI.2 8 _ rfl;have s0:w1.cell? ⟨b2,o2+k*9,none⟩=some (.string y.name):=kQ.1 _ rfl;have s1:w1.cell? ⟨b2,o2+k*9+1,none⟩=some (.slice A4 n4 c4):=kQ.2 1 _ rfl;have s2:w1.cell? ⟨b2,o2+k*9+2,none⟩=some (.int .i64 y.method):=kQ.2 2 _ rfl;have s3:w1.cell? ⟨b2,o2+k*9+3,none⟩=some (.int .i64 y.seats):=kQ.2 3 _ rfl;have s4:w1.cell? ⟨b2,o2+k*9+4,none⟩=some (.int .i64 y.ranks):=kQ.2 4 _ rfl;have s5:w1.cell? ⟨b2,o2+k*9+5,none⟩=some (.int .i64 y.digits):=kQ.2 5 _ rfl;have s6:w1.cell? ⟨b2,o2+k*9+6,none⟩=some (.int .i64 y.ties):=kQ.2 6 _ rfl;have s7:w1.cell? ⟨b2,o2+k*9+7,none⟩=some (.int .i64 y.over):=kQ.2 7 _ rfl;have s8:w1.cell? ⟨b2,o2+k*9+8,none⟩=some (.int .i64 y.skip):=kQ.2 8 _ rfl;have hcc:=(uX (w:=w2) (S:=S) (S2:=S2) (a:=x) (b:=y) ⟨_,rfl,A3,n3,c3,rfl,x1.below bX (λb h=>Nat.lt_of_lt_of_le (hS b h) HB.out.size)⟩ ⟨_,rfl,A4,n4,c4,rfl,x2.below bX (λb h=>Nat.lt_of_lt_of_le (gZ b h) HB.out.size)⟩ (λb h=>Nat.lt_of_lt_of_le (hS b h) (Nat.le_trans HB.out.size bX.size)) (λb h=>Nat.lt_of_lt_of_le (gZ b h) (Nat.le_trans HB.out.size bX.size)));rw[HZE.out] at hcc;have HC:=zH hcc;have fu:=zH (au HB.out bX);have nz:=zH fE;have HW2:=zH UY;have HSZ:=zH gC;clear hcc iI kQ fE UY nR gM m0 ci bX Xr PO hx Bt gC;go_upto_region 6 with(fail);rw[nz.out];go_upto_region 7 with(fail);rw[HSZ.out,HW2.out];go_wp2_with fail;refine HC.out.mono ?_;rintro e w3 ⟨rfl,kx⟩;have lX:=zH (au fu.out kx);clear kx;cases z1
   case false=>
    have bw:z=false:=by rw[mD.out];rfl
    have fa:=zH bw;clear bw;go_wp2_with fail;go_ret
    exact⟨by rw[fa.out];rfl,lX.out⟩
   case true=>
    go_wp2_with fail;go_roundw
    case rel=>exact⟨k+1,by go_num,by omega,by rw[mD.out,Bool.true_and],lX.out⟩
    case measure=>simp[intOf];omega
  ·have pz:k=n:=by omega
   have bw:z=true:=by
    rw[X7.out,List.drop_eq_nil_of_le (by rw[EP.out];omega),List.drop_eq_nil_of_le (by rw[ow.out];omega)];rfl
   have fa:=zH bw;clear bw pz;go_wp2_with fail;go_ret
   exact⟨by rw[fa.out];rfl,HB.out⟩
theorem Gi {w:World} {S S2:Nat->Prop} {A A2:Option Addr} {n c n2 c2:Nat} {xs ys:List aj} (h:RS w S A n c xs) (h2:RS w S2 A2 n2 c2 ys) (hS:∀b,S b->b<w.heap.size) (gZ:∀b,S2 b->b<w.heap.size) : Calls Tryz.prog 52 #[.slice A n c,.slice A2 n2 c2,.func (.func 53) #[] #[]] w (kB w (.bool (gw be xs ys))):=by
 obtain⟨z,hz⟩:∃z,gw be xs ys=z:=⟨_,rfl⟩;rw[hz];have gD:=hz.symm;have hl1:=h.len;have hl2:=h2.len;have I1:=h.max;have hm2:=h2.max;have fR:n≠n2->z=false:=λe=>by rw[gD];exact Bj (by rw[hl1,hl2];exact e)
 have H1:=zH h;have H2:=zH h2;have HZ:=zH gD;have EP:=zH hl1;have ow:=zH hl2;have HNE:=zH fR;clear h h2 hz gD hl1 hl2 fR;go_enter Tryz.func52,Tryz.ntmps52;by_cases hn:n=n2
 case neg=>
  have bw:=HNE.out hn;have fa:=zH bw;have hb:((n:Int)==(n2:Int))=false:=by rw[beq_eq_false_iff_ne];omega
  have bX:(n==n2)=false:=by rw[beq_eq_false_iff_ne];exact hn
  clear bw hn HNE;go_wp2_with fail;go_ret
  exact⟨by rw[fa.out];rfl,Below.refl _ _⟩
 subst hn;clear HNE;go_wp2_with fail;go_loopw [17] (λiv wr=>∃k:Nat,iv=.int .i64 k/\k<=n/\z=gw be (xs.drop k) (ys.drop k)/\Below w.heap.size w wr) (λiv _=>n-(intOf iv).toNat)
 case atStart=>exact⟨0,rfl,Nat.zero_le _,by simpa using HZ.out,Below.refl _ _⟩
 case round=>
  clear HZ;obtain⟨k,rfl,hk,Xh,hb⟩:=hrel;have X7:=zH Xh;have HB:=zH hb;have HR:=zH (H1.out.below hb hS);have JJ:=zH (H2.out.below hb gZ);clear Xh hb;by_cases hlt:k<n
  ·have lI:(k:Int)<(n:Int):=by omega
   obtain⟨b,o,x,cs,rfl,Bz,hx,hr,Xr⟩:=HR.out.load_at (λb h=>Nat.lt_of_lt_of_le (hS b h) HB.out.size) hlt;obtain⟨b2,o2,y,cs2,rfl,age,Bt,PD,PO⟩:=JJ.out.load_at (λb h=>Nat.lt_of_lt_of_le (gZ b h) HB.out.size) hlt;have Sr:(k:Int)<=(c:Int):=by have:=HR.out.cap;omega
   have Ve:(k:Int)<=(c2:Int):=by have:=JJ.out.cap;omega
   have gC:z=(be x y&&gw be (xs.drop (k+1)) (ys.drop (k+1))):=by rw[X7.out,jO hx,jO Bt];rfl
   have mD:=zH gC;obtain⟨z1,FW⟩:∃q,be x y=q:=⟨_,rfl⟩;rw[FW] at gC;have HZE:=zH FW;clear FW;have mD:=zH gC;obtain⟨A3,n3,c3,A5,n5,c5,rfl,x1,x3⟩:=hr;obtain⟨A4,n4,c4,A6,n6,c6,rfl,x2,x4⟩:=PD;have ci:Below wr.heap.size wr (wr.alloc (.cells #[.string x.name,.slice A3 n3 c3,.slice A5 n5 c5] 42)):=(Below.refl _ _).alloc (Nat.le_refl _) _;have nR:df (wr.alloc (.cells #[.string x.name,.slice A3 n3 c3,.slice A5 n5 c5] 42)) wr.heap.size 42 #[.string x.name,.slice A3 n3 c3,.slice A5 n5 c5]:=df.new _ _ _;have gC:(wr.alloc (.cells #[.string x.name,.slice A3 n3 c3,.slice A5 n5 c5] 42)).heap.size=wr.heap.size+1:=by simp
   obtain⟨w1,fE⟩:∃q,wr.alloc (.cells #[.string x.name,.slice A3 n3 c3,.slice A5 n5 c5] 42)=q:=⟨_,rfl⟩;rw[fE] at ci nR gC;have bX:Below wr.heap.size wr (w1.alloc (.cells #[.string y.name,.slice A4 n4 c4,.slice A6 n6 c6] 42)):=ci.alloc (by omega) _;have gM:df (w1.alloc (.cells #[.string y.name,.slice A4 n4 c4,.slice A6 n6 c6] 42)) (wr.heap.size+1) 42 #[.string y.name,.slice A4 n4 c4,.slice A6 n6 c6]:=df.new' gC _ _;have m0:=nR.alloc (.cells #[.string y.name,.slice A4 n4 c4,.slice A6 n6 c6] 42);obtain⟨w2,UY⟩:∃q,w1.alloc (.cells #[.string y.name,.slice A4 n4 c4,.slice A6 n6 c6] 42)=q:=⟨_,rfl⟩;rw[UY] at bX gM m0;have iI:=Xr wr (Below.refl _ _);have kQ:=PO w1 ci;have p0:w2.cell? ⟨wr.heap.size,0,none⟩=some (.string x.name):=m0.cell 0;have p1:w2.cell? ⟨wr.heap.size,1,none⟩=some (.slice A3 n3 c3):=m0.cell 1;have p2:w2.cell? ⟨wr.heap.size,2,none⟩=some (.slice A5 n5 c5):=m0.cell 2;have q0:w2.cell? ⟨wr.heap.size+1,0,none⟩=some (.string y.name):=gM.cell 0;have q1:w2.cell? ⟨wr.heap.size+1,1,none⟩=some (.slice A4 n4 c4):=gM.cell 1;have q2:w2.cell? ⟨wr.heap.size+1,2,none⟩=some (.slice A6 n6 c6):=gM.cell 2;have r0:wr.cell? ⟨b,o+k*3,none⟩=some (.string x.name):=iI.1 _ rfl;have r1:wr.cell? ⟨b,o+k*3+1,none⟩=some (.slice A3 n3 c3):=iI.2 1 _ rfl;have r2:wr.cell? ⟨b,o+k*3+2,none⟩=some (.slice A5 n5 c5):=iI.2 2 _ rfl;have s0:w1.cell? ⟨b2,o2+k*3,none⟩=some (.string y.name):=kQ.1 _ rfl;have s1:w1.cell? ⟨b2,o2+k*3+1,none⟩=some (.slice A4 n4 c4):=kQ.2 1 _ rfl;have s2:w1.cell? ⟨b2,o2+k*3+2,none⟩=some (.slice A6 n6 c6):=kQ.2 2 _ rfl;have hcc:=(zP (w:=w2) (S:=S) (S2:=S2) (a:=x) (b:=y) ⟨_,rfl,A3,n3,c3,A5,n5,c5,rfl,x1.below bX (λb h=>Nat.lt_of_lt_of_le (hS b h) HB.out.size),x3.below bX (λb h=>Nat.lt_of_lt_of_le (hS b h) HB.out.size)⟩ ⟨_,rfl,A4,n4,c4,A6,n6,c6,rfl,x2.below bX (λb h=>Nat.lt_of_lt_of_le (gZ b h) HB.out.size),x4.below bX (λb h=>Nat.lt_of_lt_of_le (gZ b h) HB.out.size)⟩ (λb h=>Nat.lt_of_lt_of_le (hS b h) (Nat.le_trans HB.out.size bX.size)) (λb h=>Nat.lt_of_lt_of_le (gZ b h) (Nat.le_trans HB.out.size bX.size)));rw[HZE.out] at hcc;have HC:=zH hcc;have fu:=zH (au HB.out bX);have nz:=zH fE;have HW2:=zH UY;have HSZ:=zH gC;clear hcc iI kQ fE UY nR gM m0 ci bX Xr PO hx Bt gC;go_upto_region 6 with(fail);rw[nz.out];go_upto_region 7 with(fail);rw[HSZ.out,HW2.out];go_wp2_with fail;refine HC.out.mono ?_;rintro e w3 ⟨rfl,kx⟩;have lX:=zH (au fu.out kx);clear kx;cases z1
   case false=>
    have bw:z=false:=by rw[mD.out];rfl
    have fa:=zH bw;clear bw;go_wp2_with fail;go_ret
    exact⟨by rw[fa.out];rfl,lX.out⟩
   case true=>
    go_wp2_with fail;go_roundw
    case rel=>exact⟨k+1,by go_num,by omega,by rw[mD.out,Bool.true_and],lX.out⟩
    case measure=>simp[intOf];omega
  ·have pz:k=n:=by omega
   have bw:z=true:=by
    rw[X7.out,List.drop_eq_nil_of_le (by rw[EP.out];omega),List.drop_eq_nil_of_le (by rw[ow.out];omega)];rfl
   have fa:=zH bw;clear bw pz;go_wp2_with fail;go_ret
   exact⟨by rw[fa.out];rfl,HB.out⟩
end Go.Proofs.YtdbpbfglhbiadaaGreatDoor
