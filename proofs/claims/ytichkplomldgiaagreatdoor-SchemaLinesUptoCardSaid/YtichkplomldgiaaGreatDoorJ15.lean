/- Tbl Src2 Src3 Same1 Same2 Same3 -/
import Derived.Test.YtichkplomldgiaaGreatDoorChecked
import Derived.Test.YtichkplomldgiaaGreatDoorJ01
import Derived.Lib.ItoaNum
import Derived.Lib.LaidTab
import Derived.Test.YtichkplomldgiaaGreatDoorJ06
import Derived.Test.YtichkplomldgiaaGreatDoorJ09
import Derived.Test.YtichkplomldgiaaGreatDoorJ12
import Derived.Test.YtichkplomldgiaaGreatDoorProg
import Derived.Test.YtichkplomldgiaaGreatDoorJ02
import Derived.Deep.DeepCutAuto
set_option maxHeartbeats 4000000
set_option maxRecDepth 100000
namespace Go.Proofs.YtichkplomldgiaaGreatDoor
open Go.RowKit
def Fx (B:Nat) (w:World):Prop:=∀w',Below B w w'->Lib.TabIs Tryz.prog w' "internal/strconv.uint64pow10" .u64 Lib.pow10Tab
theorem Fx.keep {B:Nat} {w w':World} (h:Fx B w) (hb:Below B w w'):Fx B w':=λw2 h2=>h w2 (hb.trans h2)
theorem Fx.up {B:Nat} {w w':World} (h:Fx B w) (hB:B<=w.heap.size) (hb:Below w.heap.size w w'):Fx B w':=h.keep (hb.mono hB)
theorem If {B:Nat} {w:World} (h:Fx B w) (n:Int) (h0:-9223372036854775808<=n) (h1:n<=9223372036854775807):Calls Tryz.prog 171 #[.int .i64 n] w (jz w (.string (pK n))):=
 (Tryz.strconv_Itoa n h0 h1 w (h w (Below.refl _ _))).mono λe w' hh=>by
  obtain⟨he,k,os,rfl⟩:=hh;exact⟨he,rfl,rfl,rfl,by show w.heap.size<=(w.heap++os).size;rw[Array.size_append];omega,λj hj=>by show(w.heap++os)[j]?=_;exact Array.getElem?_append_left hj⟩
theorem Own.own_ne {α:Type} [ak α] {w:World} {S:Nat->Prop} {base:Nat} {e:TypeId} {v:Value} {xs:List α} (h:Own w S base e v xs) {g:Nat} (hg:g<base):v.ownBlock≠some g:=λe=>by
 have:=(h.lt g e).1;omega
theorem qU {w:World} {S S2:Nat->Prop} {v v2:Value} {a b:ax} (h:SV w S v a) (h2:SV w S2 v2 b) (hS:∀b,S b->b<w.heap.size) (fG:∀b,S2 b->b<w.heap.size) : Calls Tryz.prog 86 #[v,v2] w (jz w (.bool (bY a b))):=by
 obtain⟨cs,rfl,A,n,c,A2,n2,c2,rfl,r1,r2⟩:=h;obtain⟨cs,rfl,A3,n3,c3,A4,n4,c4,rfl,r3,r4⟩:=h2;obtain⟨w1,dL⟩:∃x,(w.alloc (.cells #[.string a.name,.slice A n c,.slice A2 n2 c2] 91)).alloc (.cells #[.string b.name,.slice A3 n3 c3,.slice A4 n4 c4] 91)=x:=⟨_,rfl⟩;have bp:Below w.heap.size w w1:=by rw[<-dL];exact((Below.refl _ _).alloc (Nat.le_refl _) _).alloc (by simp) _
 have AI:bS w1 w.heap.size 91 #[.string a.name,.slice A n c,.slice A2 n2 c2]:=by rw[<-dL];exact(bS.new _ _ _).alloc _
 have AH:bS w1 (w.heap.size+1) 91 #[.string b.name,.slice A3 n3 c3,.slice A4 n4 c4]:=by
  rw[<-dL];have:=bS.new (w.alloc (.cells #[.string a.name,.slice A n c,.slice A2 n2 c2] 91)) 91 #[.string b.name,.slice A3 n3 c3,.slice A4 n4 c4];simpa using this
 have H1:=zH (r1.below bp hS);have H2:=zH (r2.below bp hS);have H3:=zH (r3.below bp fG);have H4:=zH (r4.below bp fG);obtain⟨na,pa,ca⟩:=a;obtain⟨nb,pb,cb⟩:=b;obtain⟨z,hz⟩:∃z,bY ⟨na,pa,ca⟩ ⟨nb,pb,cb⟩=z:=⟨_,rfl⟩;have ew:z=(decide (na=nb)&&(decide (pa=pb)&&decide (ca=cb))):=hz.symm;rw[hz];obtain⟨d0,d1,d2,_,_,_⟩:=AI.facts3;obtain⟨d3,d4,d5,_,_,_⟩:=AH.facts3;have jN:=zH dL;have dc:=zH bp;have HZ:=zH ew;clear dL bp hz ew AI AH r1 r2 r3 r4;go_enter Tryz.func86,Tryz.ntmps86;by_cases hn:na=nb
 ·have bE:=HZ.out;rw[decide_eq_true hn,Bool.true_and] at bE;have fJ:=zH bE;have heq:(na.toList==nb.toList)=true:=by rw[hn];simp
  clear bE HZ hn;go_wp2_with fail;rw[jN.out];go_wp2_with fail;refine(qg H1.out H3.out).mono ?_;rintro e w' ⟨rfl,m,rfl⟩;by_cases hx:pa=pb
  ·have bE:=fJ.out;rw[decide_eq_true hx,Bool.true_and] at bE;rw[decide_eq_true hx];have oF:=zH bE;clear bE fJ hx;go_wp2_with fail;refine(qg (H2.out.drewN m) (H4.out.drewN m)).mono ?_;rintro e w' ⟨rfl,m2,rfl⟩;rw[<-oF.out];go_wp2_with fail;go_ret
   exact⟨rfl,below_drewN dc.out (m+m2)⟩
  ·have bE:=fJ.out;rw[decide_eq_false hx,Bool.false_and] at bE;rw[decide_eq_false hx];have oF:=zH bE;clear bE fJ hx;go_wp2_with fail;go_ret
   exact⟨by rw[oF.out];rfl,below_drewN dc.out m⟩
 ·have bE:=HZ.out;rw[decide_eq_false hn,Bool.false_and] at bE;have fJ:=zH bE;have heq:(na.toList==nb.toList)=false:=by
   have:=Lib.bytes_beq_false_iff na nb;exact this.2 hn
  clear bE HZ hn;go_wp2_with fail;rw[jN.out];go_wp2_with fail;go_ret
  exact⟨by rw[fJ.out];rfl,dc.out⟩
theorem mZ {w:World} {S S2:Nat->Prop} {v v2:Value} {a b:ai} (h:SV w S v a) (h2:SV w S2 v2 b) (hS:∀b,S b->b<w.heap.size) (fG:∀b,S2 b->b<w.heap.size) : Calls Tryz.prog 84 #[v,v2] w (jz w (.bool (bm a b))):=by
 obtain⟨cs,rfl,A,n,c,rfl,r1⟩:=h;obtain⟨cs,rfl,A3,n3,c3,rfl,r3⟩:=h2;obtain⟨w1,dL⟩:∃x,(w.alloc (.cells #[.string a.name,.slice A n c,.int .i64 a.method,.int .i64 a.seats,.int .i64 a.ranks,.int .i64 a.digits,.int .i64 a.ties,.int .i64 a.over,.int .i64 a.skip] 81)).alloc (.cells #[.string b.name,.slice A3 n3 c3,.int .i64 b.method,.int .i64 b.seats,.int .i64 b.ranks,.int .i64 b.digits,.int .i64 b.ties,.int .i64 b.over,.int .i64 b.skip] 81)=x:=⟨_,rfl⟩;have bp:Below w.heap.size w w1:=by rw[<-dL];exact((Below.refl _ _).alloc (Nat.le_refl _) _).alloc (by simp) _
 have AI:bS w1 w.heap.size 81 #[.string a.name,.slice A n c,.int .i64 a.method,.int .i64 a.seats,.int .i64 a.ranks,.int .i64 a.digits,.int .i64 a.ties,.int .i64 a.over,.int .i64 a.skip]:=by rw[<-dL];exact(bS.new _ _ _).alloc _
 have AH:bS w1 (w.heap.size+1) 81 #[.string b.name,.slice A3 n3 c3,.int .i64 b.method,.int .i64 b.seats,.int .i64 b.ranks,.int .i64 b.digits,.int .i64 b.ties,.int .i64 b.over,.int .i64 b.skip]:=by
  rw[<-dL];have:=bS.new (w.alloc (.cells #[.string a.name,.slice A n c,.int .i64 a.method,.int .i64 a.seats,.int .i64 a.ranks,.int .i64 a.digits,.int .i64 a.ties,.int .i64 a.over,.int .i64 a.skip] 81)) 81 #[.string b.name,.slice A3 n3 c3,.int .i64 b.method,.int .i64 b.seats,.int .i64 b.ranks,.int .i64 b.digits,.int .i64 b.ties,.int .i64 b.over,.int .i64 b.skip];simpa using this
 have H1:=zH (r1.below bp hS);have H3:=zH (r3.below bp fG);obtain⟨na,pa,a0,a1,a2,a3,a4,a5,a6⟩:=a;obtain⟨nb,pb,b0,b1,b2,b3,b4,b5,b6⟩:=b;obtain⟨z,hz⟩:∃z,bm ⟨na,pa,a0,a1,a2,a3,a4,a5,a6⟩ ⟨nb,pb,b0,b1,b2,b3,b4,b5,b6⟩=z:=⟨_,rfl⟩;have ew:z=(decide (na=nb)&&(decide (pa=pb)&&(decide (a0=b0)&&(decide (a1=b1)&&(decide (a2=b2)&&(decide (a3=b3)&&(decide (a4=b4)&&(decide (a5=b5)&&(decide (a6=b6)))))))))):=hz.symm;rw[hz];have d0:w1.cell? ⟨w.heap.size,0,none⟩=some (.string na):=AI.cell 0;have d1:w1.cell? ⟨w.heap.size,1,none⟩=some (.slice A n c):=AI.cell 1;have e0:w1.cell? ⟨w.heap.size+1,0,none⟩=some (.string nb):=AH.cell 0;have e1:w1.cell? ⟨w.heap.size+1,1,none⟩=some (.slice A3 n3 c3):=AH.cell 1;have d2:w1.cell? ⟨w.heap.size,2,none⟩=some (.int .i64 a0):=AI.cell 2;have e2:w1.cell? ⟨w.heap.size+1,2,none⟩=some (.int .i64 b0):=AH.cell 2;have d3:w1.cell? ⟨w.heap.size,3,none⟩=some (.int .i64 a1):=AI.cell 3;have e3:w1.cell? ⟨w.heap.size+1,3,none⟩=some (.int .i64 b1):=AH.cell 3;have d4:w1.cell? ⟨w.heap.size,4,none⟩=some (.int .i64 a2):=AI.cell 4;have e4:w1.cell? ⟨w.heap.size+1,4,none⟩=some (.int .i64 b2):=AH.cell 4;have d5:w1.cell? ⟨w.heap.size,5,none⟩=some (.int .i64 a3):=AI.cell 5;have e5:w1.cell? ⟨w.heap.size+1,5,none⟩=some (.int .i64 b3):=AH.cell 5;have d6:w1.cell? ⟨w.heap.size,6,none⟩=some (.int .i64 a4):=AI.cell 6;have e6:w1.cell? ⟨w.heap.size+1,6,none⟩=some (.int .i64 b4):=AH.cell 6;have d7:w1.cell? ⟨w.heap.size,7,none⟩=some (.int .i64 a5):=AI.cell 7;have e7:w1.cell? ⟨w.heap.size+1,7,none⟩=some (.int .i64 b5):=AH.cell 7;have d8:w1.cell? ⟨w.heap.size,8,none⟩=some (.int .i64 a6):=AI.cell 8;have e8:w1.cell? ⟨w.heap.size+1,8,none⟩=some (.int .i64 b6):=AH.cell 8;have jN:=zH dL;have dc:=zH bp;have HZ:=zH ew;clear dL bp hz ew AI AH r1 r3;go_enter Tryz.func84,Tryz.ntmps84;by_cases hn:na=nb
 case neg=>
  have bE:=HZ.out;rw[decide_eq_false hn,Bool.false_and] at bE;have fJ:=zH bE;have heq:(na.toList==nb.toList)=false:=(Lib.bytes_beq_false_iff na nb).2 hn;clear bE HZ hn;go_wp2_with fail;rw[jN.out];go_wp2_with fail;go_ret
  exact⟨by rw[fJ.out];rfl,dc.out⟩
 have bE:=HZ.out;rw[decide_eq_true hn,Bool.true_and] at bE;have sX:=zH bE;have heq:(na.toList==nb.toList)=true:=by rw[hn];simp
 clear bE HZ hn;go_wp2_with fail;rw[jN.out];go_wp2_with fail;refine(qe H1.out H3.out).mono ?_;rintro e w' ⟨rfl,m,rfl⟩;by_cases hx:pa=pb
 case neg=>
  have bE:=sX.out;rw[decide_eq_false hx,Bool.false_and] at bE;rw[decide_eq_false hx];have fJ:=zH bE;clear bE sX hx;go_wp2_with fail;go_ret
  exact⟨by rw[fJ.out];rfl,below_drewN dc.out m⟩
 have bE:=sX.out;rw[decide_eq_true hx,Bool.true_and] at bE;rw[decide_eq_true hx];have kP:=zH bE;clear bE sX hx;by_cases h0:a0=b0
 case neg=>
  have bE:=kP.out;rw[decide_eq_false h0,Bool.false_and] at bE;have fJ:=zH bE;have g0:(a0==b0)=false:=by rw[beq_eq_false_iff_ne];exact h0
  clear bE kP h0;go_wp2_with fail;go_ret
  exact⟨by rw[fJ.out];rfl,below_drewN dc.out m⟩
 have bE:=kP.out;rw[decide_eq_true h0,Bool.true_and] at bE;have oF:=zH bE;have g0:(a0==b0)=true:=by rw[beq_iff_eq];exact h0
 clear bE kP h0;by_cases h1:a1=b1
 case neg=>
  have bE:=oF.out;rw[decide_eq_false h1,Bool.false_and] at bE;have fJ:=zH bE;have g1:(a1==b1)=false:=by rw[beq_eq_false_iff_ne];exact h1
  clear bE oF h1;go_wp2_with fail;go_ret
  exact⟨by rw[fJ.out];rfl,below_drewN dc.out m⟩
 have bE:=oF.out;rw[decide_eq_true h1,Bool.true_and] at bE;have Tk:=zH bE;have g1:(a1==b1)=true:=by rw[beq_iff_eq];exact h1
 clear bE oF h1;by_cases h2:a2=b2
 case neg=>
  have bE:=Tk.out;rw[decide_eq_false h2,Bool.false_and] at bE;have fJ:=zH bE;have g2:(a2==b2)=false:=by rw[beq_eq_false_iff_ne];exact h2
  clear bE Tk h2;go_wp2_with fail;go_ret
  exact⟨by rw[fJ.out];rfl,below_drewN dc.out m⟩
 have bE:=Tk.out;rw[decide_eq_true h2,Bool.true_and] at bE;have Tj:=zH bE;have g2:(a2==b2)=true:=by rw[beq_iff_eq];exact h2
 clear bE Tk h2;by_cases h3:a3=b3
 case neg=>
  have bE:=Tj.out;rw[decide_eq_false h3,Bool.false_and] at bE;have fJ:=zH bE;have g3:(a3==b3)=false:=by rw[beq_eq_false_iff_ne];exact h3
  clear bE Tj h3;go_wp2_with fail;go_ret
  exact⟨by rw[fJ.out];rfl,below_drewN dc.out m⟩
 have bE:=Tj.out;rw[decide_eq_true h3,Bool.true_and] at bE;have On:=zH bE;have g3:(a3==b3)=true:=by rw[beq_iff_eq];exact h3
 clear bE Tj h3;by_cases h4:a4=b4
 case neg=>
  have bE:=On.out;rw[decide_eq_false h4,Bool.false_and] at bE;have fJ:=zH bE;have g4:(a4==b4)=false:=by rw[beq_eq_false_iff_ne];exact h4
  clear bE On h4;go_wp2_with fail;go_ret
  exact⟨by rw[fJ.out];rfl,below_drewN dc.out m⟩
 have bE:=On.out;rw[decide_eq_true h4,Bool.true_and] at bE;have Ti:=zH bE;have g4:(a4==b4)=true:=by rw[beq_iff_eq];exact h4
 clear bE On h4;by_cases h5:a5=b5
 case neg=>
  have bE:=Ti.out;rw[decide_eq_false h5,Bool.false_and] at bE;have fJ:=zH bE;have g5:(a5==b5)=false:=by rw[beq_eq_false_iff_ne];exact h5
  clear bE Ti h5;go_wp2_with fail;go_ret
  exact⟨by rw[fJ.out];rfl,below_drewN dc.out m⟩
 have bE:=Ti.out;rw[decide_eq_true h5,Bool.true_and] at bE;have Tg:=zH bE;have g5:(a5==b5)=true:=by rw[beq_iff_eq];exact h5
 clear bE Ti h5;by_cases h6:a6=b6
 case neg=>
  have bE:=Tg.out;rw[decide_eq_false h6] at bE;have fJ:=zH bE;have g6:(a6==b6)=false:=by rw[beq_eq_false_iff_ne];exact h6
  clear bE Tg h6;go_wp2_with fail;go_ret
  exact⟨by rw[fJ.out];rfl,below_drewN dc.out m⟩
 have bE:=Tg.out;rw[decide_eq_true h6] at bE;have HZ8:=zH bE;have g6:(a6==b6)=true:=by rw[beq_iff_eq];exact h6
 clear bE Tg h6;go_wp2_with fail;go_ret
 exact⟨by rw[HZ8.out];rfl,below_drewN dc.out m⟩
theorem RS.load_at {α:Type} [ak α] {w:World} {S:Nat->Prop} {A:Option Addr} {n c:Nat} {xs:List α} (h:RS w S A n c xs) (hS:∀b,S b->b<w.heap.size) {k:Nat} (hk:k<n) : ∃b o x cs,A=some ⟨b,o,none⟩/\S b/\xs[k]?=some x/\ak.rep w S cs x/\∀w',Below w.heap.size w w'->(∀u,cs[0]?=some u->w'.cell? ⟨b,o+k*ak.sz α,none⟩=some u)/\∀j u,cs[j]?=some u->w'.cell? ⟨b,o+k*ak.sz α+j,none⟩=some u:=by
 obtain⟨b,o,x,cs,rfl,hb,hx,hr,hc⟩:=h.at_ hk;have hcc:∀w',Below w.heap.size w w'->∀j u,cs[j]?=some u->w'.cell? ⟨b,o+k*ak.sz α+j,none⟩=some u:=by
  intro w' hw j u hj;rw[<-hc j u hj,<-Nat.add_assoc];exact hw.cell (p:=⟨b,o+k*ak.sz α+j,none⟩) (hS b hb)
 exact⟨b,o,x,cs,rfl,hb,hx,hr,λw' hw=>⟨λu hu=>hcc w' hw 0 u hu,hcc w' hw⟩⟩
theorem sF {α:Type} {f:α->α->Bool}:∀{xs ys:List α},xs.length≠ys.length->ib f xs ys=false
 | [],[],h=>absurd rfl h
 | [],_::_,_=>rfl
 | _::_,[],_=>rfl
 | x::l,y::m,h=>by
  have:l.length≠m.length:=λe=>h (by simp[e]);rw[ib,sF this,Bool.and_false]
theorem fH {α:Type} {xs:List α} {k:Nat} {x:α} (h:xs[k]?=some x):xs.drop k=x::xs.drop (k+1):=by
 obtain⟨hk,rfl⟩:=List.getElem?_eq_some_iff.1 h;exact List.drop_eq_getElem_cons hk
theorem sk {w:World} {S S2:Nat->Prop} {A A2:Option Addr} {n c n2 c2:Nat} {xs ys:List ai} (h:RS w S A n c xs) (h2:RS w S2 A2 n2 c2 ys) (hS:∀b,S b->b<w.heap.size) (fG:∀b,S2 b->b<w.heap.size) : Calls Tryz.prog 83 #[.slice A n c,.slice A2 n2 c2,.func (.func 84) #[] #[]] w (jz w (.bool (ib bm xs ys))):=by
 obtain⟨z,hz⟩:∃z,ib bm xs ys=z:=⟨_,rfl⟩;rw[hz];have ew:=hz.symm;have hl1:=h.len;have hl2:=h2.len;have AF:=h.max;have Zr:=h2.max;have hne:n≠n2->z=false:=λe=>by rw[ew];exact sF (by rw[hl1,hl2];exact e)
 have H1:=zH h;have H2:=zH h2;have HZ:=zH ew;have NE:=zH hl1;have Bm:=zH hl2;have NC:=zH hne;clear h h2 hz ew hl1 hl2 hne;go_enter Tryz.func83,Tryz.ntmps83;by_cases hn:n=n2
 case neg=>
  have bE:=NC.out hn;have fJ:=zH bE;have hb:((n:Int)==(n2:Int))=false:=by rw[beq_eq_false_iff_ne];omega
  have bQ:(n==n2)=false:=by rw[beq_eq_false_iff_ne];exact hn
  clear bE hn NC;go_wp2_with fail;go_ret
  exact⟨by rw[fJ.out];rfl,Below.refl _ _⟩
 subst hn;clear NC;go_wp2_with fail;go_loopw [17] (λiv wr=>∃k:Nat,iv=.int .i64 k/\k<=n/\z=ib bm (xs.drop k) (ys.drop k)/\Below w.heap.size w wr) (λiv _=>n-(intOf iv).toNat)
 case atStart=>exact⟨0,rfl,Nat.zero_le _,by simpa using HZ.out,Below.refl _ _⟩
 case round=>
  clear HZ;obtain⟨k,rfl,hk,J0,hb⟩:=hrel;have Kx:=zH J0;have HB:=zH hb;have HR:=zH (H1.out.below hb hS);have zg:=zH (H2.out.below hb fG);clear J0 hb;by_cases hlt:k<n
  ·have wv:(k:Int)<(n:Int):=by omega
   obtain⟨b,o,x,cs,rfl,wB,hx,hr,J7⟩:=HR.out.load_at (λb h=>Nat.lt_of_lt_of_le (hS b h) HB.out.size) hlt;obtain⟨b2,o2,y,cs2,rfl,QP,wj,DZ,D8⟩:=zg.out.load_at (λb h=>Nat.lt_of_lt_of_le (fG b h) HB.out.size) hlt;have Vw:(k:Int)<=(c:Int):=by have:=HR.out.cap;omega
   have Vv:(k:Int)<=(c2:Int):=by have:=zg.out.cap;omega
   have hz1:z=(bm x y&&ib bm (xs.drop (k+1)) (ys.drop (k+1))):=by rw[Kx.out,fH hx,fH wj];rfl
   have kP:=zH hz1;obtain⟨z1,wi⟩:∃q,bm x y=q:=⟨_,rfl⟩;rw[wi] at hz1;have Xq:=zH wi;clear wi;have kP:=zH hz1;obtain⟨A3,n3,c3,rfl,x1⟩:=hr;obtain⟨A4,n4,c4,rfl,x2⟩:=DZ;have bp:Below wr.heap.size wr (wr.alloc (.cells #[.string x.name,.slice A3 n3 c3,.int .i64 x.method,.int .i64 x.seats,.int .i64 x.ranks,.int .i64 x.digits,.int .i64 x.ties,.int .i64 x.over,.int .i64 x.skip] 81)):=(Below.refl _ _).alloc (Nat.le_refl _) _;have nJ:bS (wr.alloc (.cells #[.string x.name,.slice A3 n3 c3,.int .i64 x.method,.int .i64 x.seats,.int .i64 x.ranks,.int .i64 x.digits,.int .i64 x.ties,.int .i64 x.over,.int .i64 x.skip] 81)) wr.heap.size 81 #[.string x.name,.slice A3 n3 c3,.int .i64 x.method,.int .i64 x.seats,.int .i64 x.ranks,.int .i64 x.digits,.int .i64 x.ties,.int .i64 x.over,.int .i64 x.skip]:=bS.new _ _ _;have hz1:(wr.alloc (.cells #[.string x.name,.slice A3 n3 c3,.int .i64 x.method,.int .i64 x.seats,.int .i64 x.ranks,.int .i64 x.digits,.int .i64 x.ties,.int .i64 x.over,.int .i64 x.skip] 81)).heap.size=wr.heap.size+1:=by simp
   obtain⟨w1,dL⟩:∃q,wr.alloc (.cells #[.string x.name,.slice A3 n3 c3,.int .i64 x.method,.int .i64 x.seats,.int .i64 x.ranks,.int .i64 x.digits,.int .i64 x.ties,.int .i64 x.over,.int .i64 x.skip] 81)=q:=⟨_,rfl⟩;rw[dL] at bp nJ hz1;have bQ:Below wr.heap.size wr (w1.alloc (.cells #[.string y.name,.slice A4 n4 c4,.int .i64 y.method,.int .i64 y.seats,.int .i64 y.ranks,.int .i64 y.digits,.int .i64 y.ties,.int .i64 y.over,.int .i64 y.skip] 81)):=bp.alloc (by omega) _;have fb:bS (w1.alloc (.cells #[.string y.name,.slice A4 n4 c4,.int .i64 y.method,.int .i64 y.seats,.int .i64 y.ranks,.int .i64 y.digits,.int .i64 y.ties,.int .i64 y.over,.int .i64 y.skip] 81)) (wr.heap.size+1) 81 #[.string y.name,.slice A4 n4 c4,.int .i64 y.method,.int .i64 y.seats,.int .i64 y.ranks,.int .i64 y.digits,.int .i64 y.ties,.int .i64 y.over,.int .i64 y.skip]:=bS.new' hz1 _ _;have iQ:=nJ.alloc (.cells #[.string y.name,.slice A4 n4 c4,.int .i64 y.method,.int .i64 y.seats,.int .i64 y.ranks,.int .i64 y.digits,.int .i64 y.ties,.int .i64 y.over,.int .i64 y.skip] 81);obtain⟨w2,L2⟩:∃q,w1.alloc (.cells #[.string y.name,.slice A4 n4 c4,.int .i64 y.method,.int .i64 y.seats,.int .i64 y.ranks,.int .i64 y.digits,.int .i64 y.ties,.int .i64 y.over,.int .i64 y.skip] 81)=q:=⟨_,rfl⟩;rw[L2] at bQ fb iQ;have et:=J7 wr (Below.refl _ _);have gz:=D8 w1 bp;have p0:w2.cell? ⟨wr.heap.size,0,none⟩=some (.string x.name):=iQ.cell 0;have p1:w2.cell? ⟨wr.heap.size,1,none⟩=some (.slice A3 n3 c3):=iQ.cell 1;have p2:w2.cell? ⟨wr.heap.size,2,none⟩=some (.int .i64 x.method):=iQ.cell 2;have p3:w2.cell? ⟨wr.heap.size,3,none⟩=some (.int .i64 x.seats):=iQ.cell 3;have p4:w2.cell? ⟨wr.heap.size,4,none⟩=some (.int .i64 x.ranks):=iQ.cell 4;have p5:w2.cell? ⟨wr.heap.size,5,none⟩=some (.int .i64 x.digits):=iQ.cell 5;have p6:w2.cell? ⟨wr.heap.size,6,none⟩=some (.int .i64 x.ties):=iQ.cell 6;have p7:w2.cell? ⟨wr.heap.size,7,none⟩=some (.int .i64 x.over):=iQ.cell 7;have p8:w2.cell? ⟨wr.heap.size,8,none⟩=some (.int .i64 x.skip):=iQ.cell 8;have q0:w2.cell? ⟨wr.heap.size+1,0,none⟩=some (.string y.name):=fb.cell 0;have q1:w2.cell? ⟨wr.heap.size+1,1,none⟩=some (.slice A4 n4 c4):=fb.cell 1;have q2:w2.cell? ⟨wr.heap.size+1,2,none⟩=some (.int .i64 y.method):=fb.cell 2;have q3:w2.cell? ⟨wr.heap.size+1,3,none⟩=some (.int .i64 y.seats):=fb.cell 3;have q4:w2.cell? ⟨wr.heap.size+1,4,none⟩=some (.int .i64 y.ranks):=fb.cell 4;have q5:w2.cell? ⟨wr.heap.size+1,5,none⟩=some (.int .i64 y.digits):=fb.cell 5;have q6:w2.cell? ⟨wr.heap.size+1,6,none⟩=some (.int .i64 y.ties):=fb.cell 6;have q7:w2.cell? ⟨wr.heap.size+1,7,none⟩=some (.int .i64 y.over):=fb.cell 7;have q8:w2.cell? ⟨wr.heap.size+1,8,none⟩=some (.int .i64 y.skip):=fb.cell 8;have r0:wr.cell? ⟨b,o+k*9,none⟩=some (.string x.name):=et.1 _ rfl;have r1:wr.cell? ⟨b,o+k*9+1,none⟩=some (.slice A3 n3 c3):=et.2 1 _ rfl;have r2:wr.cell? ⟨b,o+k*9+2,none⟩=some (.int .i64 x.method):=et.2 2 _ rfl;have r3:wr.cell? ⟨b,o+k*9+3,none⟩=some (.int .i64 x.seats):=et.2 3 _ rfl;have r4:wr.cell? ⟨b,o+k*9+4,none⟩=some (.int .i64 x.ranks):=et.2 4 _ rfl;have r5:wr.cell? ⟨b,o+k*9+5,none⟩=some (.int .i64 x.digits):=et.2 5 _ rfl;have r6:wr.cell? ⟨b,o+k*9+6,none⟩=some (.int .i64 x.ties):=et.2 6 _ rfl;have r7:wr.cell? ⟨b,o+k*9+7,none⟩=some (.int .i64 x.over):=et.2 7 _ rfl;have r8:wr.cell? ⟨b,o+k*9+8,none⟩=some (.int .i64 x.skip):=et.2 8 _ rfl;have s0:w1.cell? ⟨b2,o2+k*9,none⟩=some (.string y.name):=gz.1 _ rfl;have s1:w1.cell? ⟨b2,o2+k*9+1,none⟩=some (.slice A4 n4 c4):=gz.2 1 _ rfl;have s2:w1.cell? ⟨b2,o2+k*9+2,none⟩=some (.int .i64 y.method):=gz.2 2 _ rfl;have s3:w1.cell? ⟨b2,o2+k*9+3,none⟩=some (.int .i64 y.seats):=gz.2 3 _ rfl;have s4:w1.cell? ⟨b2,o2+k*9+4,none⟩=some (.int .i64 y.ranks):=gz.2 4 _ rfl;have s5:w1.cell? ⟨b2,o2+k*9+5,none⟩=some (.int .i64 y.digits):=gz.2 5 _ rfl;have s6:w1.cell? ⟨b2,o2+k*9+6,none⟩=some (.int .i64 y.ties):=gz.2 6 _ rfl;have s7:w1.cell? ⟨b2,o2+k*9+7,none⟩=some (.int .i64 y.over):=gz.2 7 _ rfl;have s8:w1.cell? ⟨b2,o2+k*9+8,none⟩=some (.int .i64 y.skip):=gz.2 8 _ rfl;have hcc:=(mZ (w:=w2) (S:=S) (S2:=S2) (a:=x) (b:=y) ⟨_,rfl,A3,n3,c3,rfl,x1.below bQ (λb h=>Nat.lt_of_lt_of_le (hS b h) HB.out.size)⟩ ⟨_,rfl,A4,n4,c4,rfl,x2.below bQ (λb h=>Nat.lt_of_lt_of_le (fG b h) HB.out.size)⟩ (λb h=>Nat.lt_of_lt_of_le (hS b h) (Nat.le_trans HB.out.size bQ.size)) (λb h=>Nat.lt_of_lt_of_le (fG b h) (Nat.le_trans HB.out.size bQ.size)));rw[Xq.out] at hcc;have HC:=zH hcc;have fM:=zH (ah HB.out bQ);have jN:=zH dL;have Nw:=zH L2;have XA:=zH hz1;clear hcc et gz dL L2 nJ fb iQ bp bQ J7 D8 hx wj hz1;go_upto_region 6 with(fail);rw[jN.out];go_upto_region 7 with(fail);rw[XA.out,Nw.out];go_wp2_with fail;refine HC.out.mono ?_;rintro e w3 ⟨rfl,kE⟩;have qx:=zH (ah fM.out kE);clear kE;cases z1
   case false=>
    have bE:z=false:=by rw[kP.out];rfl
    have fJ:=zH bE;clear bE;go_wp2_with fail;go_ret
    exact⟨by rw[fJ.out];rfl,qx.out⟩
   case true=>
    go_wp2_with fail;go_roundw
    case rel=>exact⟨k+1,by go_num,by omega,by rw[kP.out,Bool.true_and],qx.out⟩
    case measure=>simp[intOf];omega
  ·have oV:k=n:=by omega
   have bE:z=true:=by
    rw[Kx.out,List.drop_eq_nil_of_le (by rw[NE.out];omega),List.drop_eq_nil_of_le (by rw[Bm.out];omega)];rfl
   have fJ:=zH bE;clear bE oV;go_wp2_with fail;go_ret
   exact⟨by rw[fJ.out];rfl,HB.out⟩
theorem wE {w:World} {S S2:Nat->Prop} {A A2:Option Addr} {n c n2 c2:Nat} {xs ys:List ax} (h:RS w S A n c xs) (h2:RS w S2 A2 n2 c2 ys) (hS:∀b,S b->b<w.heap.size) (fG:∀b,S2 b->b<w.heap.size) : Calls Tryz.prog 85 #[.slice A n c,.slice A2 n2 c2,.func (.func 86) #[] #[]] w (jz w (.bool (ib bY xs ys))):=by
 obtain⟨z,hz⟩:∃z,ib bY xs ys=z:=⟨_,rfl⟩;rw[hz];have ew:=hz.symm;have hl1:=h.len;have hl2:=h2.len;have AF:=h.max;have Zr:=h2.max;have hne:n≠n2->z=false:=λe=>by rw[ew];exact sF (by rw[hl1,hl2];exact e)
 have H1:=zH h;have H2:=zH h2;have HZ:=zH ew;have NE:=zH hl1;have Bm:=zH hl2;have NC:=zH hne;clear h h2 hz ew hl1 hl2 hne;go_enter Tryz.func85,Tryz.ntmps85;by_cases hn:n=n2
 case neg=>
  have bE:=NC.out hn;have fJ:=zH bE;have hb:((n:Int)==(n2:Int))=false:=by rw[beq_eq_false_iff_ne];omega
  have bQ:(n==n2)=false:=by rw[beq_eq_false_iff_ne];exact hn
  clear bE hn NC;go_wp2_with fail;go_ret
  exact⟨by rw[fJ.out];rfl,Below.refl _ _⟩
 subst hn;clear NC;go_wp2_with fail;go_loopw [17] (λiv wr=>∃k:Nat,iv=.int .i64 k/\k<=n/\z=ib bY (xs.drop k) (ys.drop k)/\Below w.heap.size w wr) (λiv _=>n-(intOf iv).toNat)
 case atStart=>exact⟨0,rfl,Nat.zero_le _,by simpa using HZ.out,Below.refl _ _⟩
 case round=>
  clear HZ;obtain⟨k,rfl,hk,J0,hb⟩:=hrel;have Kx:=zH J0;have HB:=zH hb;have HR:=zH (H1.out.below hb hS);have zg:=zH (H2.out.below hb fG);clear J0 hb;by_cases hlt:k<n
  ·have wv:(k:Int)<(n:Int):=by omega
   obtain⟨b,o,x,cs,rfl,wB,hx,hr,J7⟩:=HR.out.load_at (λb h=>Nat.lt_of_lt_of_le (hS b h) HB.out.size) hlt;obtain⟨b2,o2,y,cs2,rfl,QP,wj,DZ,D8⟩:=zg.out.load_at (λb h=>Nat.lt_of_lt_of_le (fG b h) HB.out.size) hlt;have Vw:(k:Int)<=(c:Int):=by have:=HR.out.cap;omega
   have Vv:(k:Int)<=(c2:Int):=by have:=zg.out.cap;omega
   have hz1:z=(bY x y&&ib bY (xs.drop (k+1)) (ys.drop (k+1))):=by rw[Kx.out,fH hx,fH wj];rfl
   have kP:=zH hz1;obtain⟨z1,wi⟩:∃q,bY x y=q:=⟨_,rfl⟩;rw[wi] at hz1;have Xq:=zH wi;clear wi;have kP:=zH hz1;obtain⟨A3,n3,c3,A5,n5,c5,rfl,x1,x3⟩:=hr;obtain⟨A4,n4,c4,A6,n6,c6,rfl,x2,x4⟩:=DZ;have bp:Below wr.heap.size wr (wr.alloc (.cells #[.string x.name,.slice A3 n3 c3,.slice A5 n5 c5] 91)):=(Below.refl _ _).alloc (Nat.le_refl _) _;have nJ:bS (wr.alloc (.cells #[.string x.name,.slice A3 n3 c3,.slice A5 n5 c5] 91)) wr.heap.size 91 #[.string x.name,.slice A3 n3 c3,.slice A5 n5 c5]:=bS.new _ _ _;have hz1:(wr.alloc (.cells #[.string x.name,.slice A3 n3 c3,.slice A5 n5 c5] 91)).heap.size=wr.heap.size+1:=by simp
   obtain⟨w1,dL⟩:∃q,wr.alloc (.cells #[.string x.name,.slice A3 n3 c3,.slice A5 n5 c5] 91)=q:=⟨_,rfl⟩;rw[dL] at bp nJ hz1;have bQ:Below wr.heap.size wr (w1.alloc (.cells #[.string y.name,.slice A4 n4 c4,.slice A6 n6 c6] 91)):=bp.alloc (by omega) _;have fb:bS (w1.alloc (.cells #[.string y.name,.slice A4 n4 c4,.slice A6 n6 c6] 91)) (wr.heap.size+1) 91 #[.string y.name,.slice A4 n4 c4,.slice A6 n6 c6]:=bS.new' hz1 _ _;have iQ:=nJ.alloc (.cells #[.string y.name,.slice A4 n4 c4,.slice A6 n6 c6] 91);obtain⟨w2,L2⟩:∃q,w1.alloc (.cells #[.string y.name,.slice A4 n4 c4,.slice A6 n6 c6] 91)=q:=⟨_,rfl⟩;rw[L2] at bQ fb iQ;have et:=J7 wr (Below.refl _ _);have gz:=D8 w1 bp;have p0:w2.cell? ⟨wr.heap.size,0,none⟩=some (.string x.name):=iQ.cell 0;have p1:w2.cell? ⟨wr.heap.size,1,none⟩=some (.slice A3 n3 c3):=iQ.cell 1;have p2:w2.cell? ⟨wr.heap.size,2,none⟩=some (.slice A5 n5 c5):=iQ.cell 2;have q0:w2.cell? ⟨wr.heap.size+1,0,none⟩=some (.string y.name):=fb.cell 0;have q1:w2.cell? ⟨wr.heap.size+1,1,none⟩=some (.slice A4 n4 c4):=fb.cell 1;have q2:w2.cell? ⟨wr.heap.size+1,2,none⟩=some (.slice A6 n6 c6):=fb.cell 2;have r0:wr.cell? ⟨b,o+k*3,none⟩=some (.string x.name):=et.1 _ rfl;have r1:wr.cell? ⟨b,o+k*3+1,none⟩=some (.slice A3 n3 c3):=et.2 1 _ rfl;have r2:wr.cell? ⟨b,o+k*3+2,none⟩=some (.slice A5 n5 c5):=et.2 2 _ rfl;have s0:w1.cell? ⟨b2,o2+k*3,none⟩=some (.string y.name):=gz.1 _ rfl;have s1:w1.cell? ⟨b2,o2+k*3+1,none⟩=some (.slice A4 n4 c4):=gz.2 1 _ rfl;have s2:w1.cell? ⟨b2,o2+k*3+2,none⟩=some (.slice A6 n6 c6):=gz.2 2 _ rfl;have hcc:=(qU (w:=w2) (S:=S) (S2:=S2) (a:=x) (b:=y) ⟨_,rfl,A3,n3,c3,A5,n5,c5,rfl,x1.below bQ (λb h=>Nat.lt_of_lt_of_le (hS b h) HB.out.size),x3.below bQ (λb h=>Nat.lt_of_lt_of_le (hS b h) HB.out.size)⟩ ⟨_,rfl,A4,n4,c4,A6,n6,c6,rfl,x2.below bQ (λb h=>Nat.lt_of_lt_of_le (fG b h) HB.out.size),x4.below bQ (λb h=>Nat.lt_of_lt_of_le (fG b h) HB.out.size)⟩ (λb h=>Nat.lt_of_lt_of_le (hS b h) (Nat.le_trans HB.out.size bQ.size)) (λb h=>Nat.lt_of_lt_of_le (fG b h) (Nat.le_trans HB.out.size bQ.size)));rw[Xq.out] at hcc;have HC:=zH hcc;have fM:=zH (ah HB.out bQ);have jN:=zH dL;have Nw:=zH L2;have XA:=zH hz1;clear hcc et gz dL L2 nJ fb iQ bp bQ J7 D8 hx wj hz1;go_upto_region 6 with(fail);rw[jN.out];go_upto_region 7 with(fail);rw[XA.out,Nw.out];go_wp2_with fail;refine HC.out.mono ?_;rintro e w3 ⟨rfl,kE⟩;have qx:=zH (ah fM.out kE);clear kE;cases z1
   case false=>
    have bE:z=false:=by rw[kP.out];rfl
    have fJ:=zH bE;clear bE;go_wp2_with fail;go_ret
    exact⟨by rw[fJ.out];rfl,qx.out⟩
   case true=>
    go_wp2_with fail;go_roundw
    case rel=>exact⟨k+1,by go_num,by omega,by rw[kP.out,Bool.true_and],qx.out⟩
    case measure=>simp[intOf];omega
  ·have oV:k=n:=by omega
   have bE:z=true:=by
    rw[Kx.out,List.drop_eq_nil_of_le (by rw[NE.out];omega),List.drop_eq_nil_of_le (by rw[Bm.out];omega)];rfl
   have fJ:=zH bE;clear bE oV;go_wp2_with fail;go_ret
   exact⟨by rw[fJ.out];rfl,HB.out⟩
end Go.Proofs.YtichkplomldgiaaGreatDoor
