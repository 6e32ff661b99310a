/- Rat3 Rat4 Rat5 -/
import Derived.Test.YtichkplomldgiaaGreatDoorJ01
import Derived.Test.YtichkplomldgiaaGreatDoorJ13
import Derived.Deep.RegionWith
import Derived.Deep.RegionHeld3
import Derived.Deep.DeepCutAuto
set_option maxHeartbeats 4000000
set_option maxRecDepth 100000
namespace Go.Proofs.YtichkplomldgiaaGreatDoor
open Go.RowKit
def Fy (w:World) (r:Bool×Nat) (e:Ending) (w':World):Prop:=∃A n c,e=.returned (.tuple #[.bool r.1,.slice A n c])/\n=(bC r.2).length/\RS w' (cm w w') A n c (bC r.2)/\Below w.heap.size w w'
theorem KE {S S2:Nat->Prop} {A A2:Option Addr} {n c n2 c2:Nat} {xs ys:List (BitVec 32)} {w:World} (a b:Bool) (h:RS w S A n c xs) (h2:RS w S2 A2 n2 c2 ys) (hS:∀b,S b->b<w.heap.size) (fG:∀b,S2 b->b<w.heap.size) (hn:n<=536870912) (hn2:n2<=536870912) : Calls Tryz.prog 211 #[.bool a,.slice A n c,.bool b,.slice A2 n2 c2] w (Fy w (lY a (val xs) b (val ys))):=by
 have H:=zH h;have H2:=zH h2;obtain⟨X,hX⟩:∃X,val xs=X:=⟨_,rfl⟩;obtain⟨Y,hY⟩:∃Y,val ys=Y:=⟨_,rfl⟩;have HX:=zH hX;have HY:=zH hY;rw[hX,hY];clear h h2 hX hY;by_cases ID:a=b
 ·have hq:lY a X b Y=(a,X+Y):=by unfold lY;rw[if_pos ID]
  rw[hq];have VT:(a==b)=true:=by simpa using ID
  have ack:(!a==!b)=true:=by simpa using ID
  clear hq ID;go_enter Tryz.func211,Tryz.ntmps211;go_wp2_with fail;refine(Js H.out H2.out hS fG (by omega) (by omega)).mono ?_;rintro e w2 h;rw[HX.out,HY.out] at h;obtain⟨A3,n3,c3,rfl,hn3,hr,hb⟩:=h.slice;have HN:=zH hn3;have HR:=zH hr;have HB:=zH hb;clear h hr hb hn3;go_wp2_with fail;go_ret2
  exact⟨A3,n3,c3,rfl,HN.out,HR.out,HB.out⟩
 ·have VT:(a==b)=false:=by simpa using ID
  by_cases AG:Y<=X
  ·have hq:lY a X b Y=(a,X-Y):=by unfold lY;rw[if_neg ID,if_pos AG]
   rw[hq];have X1:=zH AG;clear hq ID AG;go_enter Tryz.func211,Tryz.ntmps211;go_wp2_with fail;refine(xw H.out H2.out hS fG (by omega) (by rw[HX.out,HY.out];exact X1.out)).mono ?_;rintro e w2 ⟨v,rfl,ho,hb⟩;rw[HX.out,HY.out] at ho;obtain⟨A3,n3,c3,rfl,hn3⟩:=ho.slice;have HN:=zH hn3;have HR:=zH (ho.fresh (Nat.le_refl _));have HB:=zH hb;clear ho hb hn3;go_wp2_with fail;go_ret2
   exact⟨A3,n3,c3,rfl,HN.out,HR.out,HB.out⟩
  ·have hq:lY a X b Y=(b,Y-X):=by unfold lY;rw[if_neg ID,if_neg AG]
   rw[hq];have hlt:X<Y:=by omega
   have HLT:=zH hlt;clear hq ID AG hlt;go_enter Tryz.func211,Tryz.ntmps211;go_wp2_with fail;refine(Gh H.out H2.out (by rw[HX.out,HY.out];exact HLT.out)).mono ?_;rintro e w2 ⟨v,rfl,ho,hb⟩;have RL:=zH (H.out.below hb hS);have zg:=zH (H2.out.below hb fG);have HB:=zH hb;clear ho hb;go_wp2_with fail;refine(xw zg.out RL.out (λb h=>Nat.lt_of_lt_of_le (fG b h) HB.out.size) (λb h=>Nat.lt_of_lt_of_le (hS b h) HB.out.size) (by omega) (by rw[HX.out,HY.out];exact Nat.le_of_lt HLT.out)).mono ?_;rintro e w3 ⟨v,rfl,ho,hb⟩;rw[HX.out,HY.out] at ho;obtain⟨A3,n3,c3,rfl,hn3⟩:=ho.slice;have HN:=zH hn3;have HR:=zH (ho.fresh HB.out.size);have qx:=zH (ah HB.out hb);clear ho hb hn3;go_wp2_with fail;go_ret2
   exact⟨A3,n3,c3,rfl,HN.out,HR.out,qx.out⟩
theorem iL {a b j k:Nat} (ha:(bC a).length<=j) (hb:(bC b).length<=k):(bC (a*b)).length<=j+k:=by
 have h1:=cE (bC a);have h2:=cE (bC b);rw[aM] at h1 h2;have h3:=Nat.lt_of_lt_of_le h1 (Nat.pow_le_pow_right (by omega) ha);have h4:=Nat.lt_of_lt_of_le h2 (Nat.pow_le_pow_right (by omega) hb);refine dK ?_;rw[Nat.pow_add];exact Nat.mul_lt_mul'' h3 h4
theorem tR {a b k:Nat} (ha:(bC a).length<=k) (hb:(bC b).length<=k):(bC (a+b)).length<=k+1:=by
 have h1:=cE (bC a);have h2:=cE (bC b);rw[aM] at h1 h2;have h3:=Nat.lt_of_lt_of_le h1 (Nat.pow_le_pow_right (by omega) ha);have h4:=Nat.lt_of_lt_of_le h2 (Nat.pow_le_pow_right (by omega) hb);refine dK ?_;rw[Nat.pow_succ];omega
theorem Ck {a b:Bool} {X Y k:Nat} (hx:(bC X).length<=k) (hy:(bC Y).length<=k):(bC (lY a X b Y).2).length<=k+1:=by
 unfold lY;split
 ·exact tR hx hy
 ·split
  ·exact Nat.le_succ_of_le (fm hx (Nat.sub_le _ _))
  ·exact Nat.le_succ_of_le (fm hy (Nat.sub_le _ _))
theorem Jq {S S2:Nat->Prop} {va vb:Value} {ra rb:Raw} {w:World} (ha:SV w S va ra) (hb:SV w S2 vb rb) (hS:∀b,S b->b<w.heap.size) (fG:∀b,S2 b->b<w.heap.size) (et:ra.short 67108864) (gz:rb.short 67108864) : Calls Tryz.prog 176 #[va,vb] w (em w (sG ra.q rb.q)):=by
 obtain⟨A,n,c,A2,n2,c2,rfl,h1,h2⟩:=ha.raw_cases;obtain⟨A3,n3,c3,A4,n4,c4,rfl,h3,h4⟩:=hb.raw_cases;have dF:Below w.heap.size w (((w.alloc (.cells #[.bool ra.neg,.slice A n c,.slice A2 n2 c2] 28)).alloc (.cells #[.bool rb.neg,.slice A3 n3 c3,.slice A4 n4 c4] 28)).alloc (.cells #[.bool false,.slice none 0 0,.slice none 0 0] 28)):=
  (((Below.refl _ _).alloc (Nat.le_refl _) _).alloc (by simp) _).alloc (by simp;omega) _
 obtain⟨w1,dL⟩:∃x,((w.alloc (.cells #[.bool ra.neg,.slice A n c,.slice A2 n2 c2] 28)).alloc (.cells #[.bool rb.neg,.slice A3 n3 c3,.slice A4 n4 c4] 28)).alloc (.cells #[.bool false,.slice none 0 0,.slice none 0 0] 28)=x:=⟨_,rfl⟩;have jk:w1.heap.size=w.heap.size+3:=by rw[<-dL];simp
 have Qv:bS w1 w.heap.size 28 #[.bool ra.neg,.slice A n c,.slice A2 n2 c2]:=by rw[<-dL];exact((bS.new _ _ _).alloc _).alloc _
 have nJ:bS w1 (w.heap.size+1) 28 #[.bool rb.neg,.slice A3 n3 c3,.slice A4 n4 c4]:=by rw[<-dL];exact(bS.new' (by simp) _ _).alloc _
 have fb:bS w1 (w.heap.size+2) 28 #[.bool false,.slice none 0 0,.slice none 0 0]:=by rw[<-dL];exact bS.new' (by simp) _ _
 rw[dL] at dF;have Oq:=zH (ha.below dF hS);have RE:=zH (hb.below dF fG);have jN:=zH dL;have jo:=zH dF;have X3:=zH Qv;have Jw:=zH nJ;have Ky:=zH fb;have Bj:=zH jk;obtain⟨qa,Vb⟩:∃q,ra.q=q:=⟨_,rfl⟩;obtain⟨qb,Mc⟩:∃q,rb.q=q:=⟨_,rfl⟩;rw[Vb,Mc];have Tp:=zH Vb;have Ot:=zH Mc;clear ha hb h1 h2 h3 h4 dL dF Qv nJ fb jk Vb Mc;go_enter Tryz.func176,Tryz.ntmps176;go_upto_region 1 with(fail);rw[jN.out];obtain⟨d0,d1,d2,e0,e1,e2⟩:=X3.out.facts3;obtain⟨d3,d4,d5,e3,e4,e5⟩:=Jw.out.facts3;go_cut [8] (λ_ wx=>∃A5 n5 c5 A6 n6 c6 A7 n7 c7 A8 n8 c8,bS wx w.heap.size 28 #[.bool qa.neg,.slice A5 n5 c5,.slice A6 n6 c6]/\bS wx (w.heap.size+1) 28 #[.bool qb.neg,.slice A7 n7 c7,.slice A8 n8 c8]/\ bS wx (w.heap.size+1+1) 28 #[.bool false,.slice none 0 0,.slice none 0 0]/\RS wx (cm w1 wx) A5 n5 c5 (bC qa.n)/\RS wx (cm w1 wx) A6 n6 c6 (bC qa.d)/\RS wx (cm w1 wx) A7 n7 c7 (bC qb.n)/\RS wx (cm w1 wx) A8 n8 c8 (bC qb.d)/\Below w.heap.size w wx)
 case first=>
  have NA0:Calls Tryz.prog 130 #[.agg #[.bool ra.neg,.slice A n c,.slice A2 n2 c2]] w1.drew (em w1 qa):=by
   rw[<-Tp.out];exact ol (iK (w:=w1.drew) (r:=ra) Oq.out.drew (λb hb=>Nat.lt_of_lt_of_le (hS b hb) jo.out.size) ⟨Nat.le_trans et.1 (by omega),Nat.le_trans et.2 (by omega)⟩)
  have NA1:Calls Tryz.prog 130 #[.agg #[.bool ra.neg,.slice A n c,.slice A2 n2 c2]] w1.drew.drew (em w1 qa):=by
   rw[<-Tp.out];exact lU (iK (w:=w1.drew.drew) (r:=ra) Oq.out.drew.drew (λb hb=>Nat.lt_of_lt_of_le (hS b hb) jo.out.size) ⟨Nat.le_trans et.1 (by omega),Nat.le_trans et.2 (by omega)⟩)
  have NB:∀w2:World,Below w1.heap.size w1 w2->Calls Tryz.prog 130 #[.agg #[.bool rb.neg,.slice A3 n3 c3,.slice A4 n4 c4]] w2 (em w2 qb):=λw2 bQ=>by
   rw[<-Ot.out];exact iK (r:=rb) (RE.out.below bQ (λb hb=>Nat.lt_of_lt_of_le (fG b hb) jo.out.size)) (λb hb=>Nat.lt_of_lt_of_le (fG b hb) (Nat.le_trans jo.out.size bQ.size)) ⟨Nat.le_trans gz.1 (by omega),Nat.le_trans gz.2 (by omega)⟩
  have XY:=zH NA0;have XX:=zH NA1;have Ou:=zH NB;clear NA0 NA1 NB;go_region_with (first
   | (go_at_call 130; (with_reducible first|refine XY.out.mono ?_|refine XX.out.mono ?_); rintro e w2 ⟨v,rfl,⟨cs,rfl,A5,n5,c5,A6,n6,c6,rfl,g5,g6⟩,bQ⟩; obtain⟨d3,d4,d5,e3,e4,e5⟩:=(Jw.out.keep bQ).facts3; have XW:=zH (Ou.out w2 bQ); have XU:Hid (Calls Tryz.prog 130 #[.agg #[.bool rb.neg,.slice A3 n3 c3,.slice A4 n4 c4]] w2.drew (em w2 qb)):=zH (ol (Ou.out w2.drew (below_drewN bQ 1))); have XT:Hid (Calls Tryz.prog 130 #[.agg #[.bool rb.neg,.slice A3 n3 c3,.slice A4 n4 c4]] w2.drew.drew (em w2 qb)):=zH (lU (Ou.out w2.drew.drew (below_drewN bQ 2))); have G5:=zH g5; have G6:=zH g6; have NF:=zH bQ; clear g5 g6 bQ)
   | (go_at_call 130; (with_reducible first|refine XW.out.mono ?_|refine XU.out.mono ?_|refine XT.out.mono ?_); rintro e w3 ⟨v,rfl,⟨cs,rfl,A7,n7,c7,A8,n8,c8,rfl,g7,g8⟩,kE⟩; obtain⟨d0,d1,d2,e0,e1,e2⟩:=((X3.out.keep NF.out).keep kE).facts3; obtain⟨d3,d4,d5,e3,e4,e5⟩:=((Jw.out.keep NF.out).keep kE).facts3; have G7:=zH g7; have G8:=zH g8; have xc:=zH kE; clear g7 g8 kE))
  all_goals go_wp2_with fail
  all_goals
   go_meet
   have b0:=(X3.out.keep NF.out).keep xc.out;have b1:=(Jw.out.keep NF.out).keep xc.out;have b2:=(Ky.out.keep NF.out).keep xc.out;have s1:=Bj.out;have s2:=NF.out.size;have s3:=xc.out.size;have r5:RS w3 (cm w1 w3) A5 n5 c5 (bC qa.n):=(G5.out.below xc.out (λ_ h=>h.2)).sub (nX s3);have r6:RS w3 (cm w1 w3) A6 n6 c6 (bC qa.d):=(G6.out.below xc.out (λ_ h=>h.2)).sub (nX s3);have r7:RS w3 (cm w1 w3) A7 n7 c7 (bC qb.n):=G7.out.sub (lR s2);have r8:RS w3 (cm w1 w3) A8 n8 c8 (bC qb.d):=G8.out.sub (lR s2);have kk:af (cm w1 w3) w3 (setAll (setAll w3 w.heap.size 0 [.bool qa.neg,.slice A5 n5 c5,.slice A6 n6 c6]) (w.heap.size+1) 0 [.bool qb.neg,.slice A7 n7 c7,.slice A8 n8 c8]):=
    ((af.refl _ _).setAll (λh=>by have:=h.1;omega) _ 0).setAll (λh=>by have:=h.1;omega) _ 0
   have ff:∀b,cm w1 w3 b->cm w1 (setAll (setAll w3 w.heap.size 0 [.bool qa.neg,.slice A5 n5 c5,.slice A6 n6 c6]) (w.heap.size+1) 0 [.bool qb.neg,.slice A7 n7 c7,.slice A8 n8 c8]) b:=λb hb=>⟨hb.1,by rw[fO,fO];exact hb.2⟩;have k0:bS (setAll (setAll w3 w.heap.size 0 [.bool qa.neg,.slice A5 n5 c5,.slice A6 n6 c6]) (w.heap.size+1) 0 [.bool qb.neg,.slice A7 n7 c7,.slice A8 n8 c8]) w.heap.size 28 #[.bool qa.neg,.slice A5 n5 c5,.slice A6 n6 c6]:=
    bS.farAll (bS.setAll [.bool qa.neg,.slice A5 n5 c5,.slice A6 n6 c6] b0 rfl) (by omega) _ 0
   have k1:bS (setAll (setAll w3 w.heap.size 0 [.bool qa.neg,.slice A5 n5 c5,.slice A6 n6 c6]) (w.heap.size+1) 0 [.bool qb.neg,.slice A7 n7 c7,.slice A8 n8 c8]) (w.heap.size+1) 28 #[.bool qb.neg,.slice A7 n7 c7,.slice A8 n8 c8]:=
    bS.setAll [.bool qb.neg,.slice A7 n7 c7,.slice A8 n8 c8] (bS.farAll b1 (by omega) _ 0) rfl
   have k2:bS (setAll (setAll w3 w.heap.size 0 [.bool qa.neg,.slice A5 n5 c5,.slice A6 n6 c6]) (w.heap.size+1) 0 [.bool qb.neg,.slice A7 n7 c7,.slice A8 n8 c8]) (w.heap.size+1+1) 28 #[.bool false,.slice none 0 0,.slice none 0 0]:=
    bS.farAll (bS.farAll b2 (by omega) _ 0) (by omega) _ 0
   have k3:Below w.heap.size w (setAll (setAll w3 w.heap.size 0 [.bool qa.neg,.slice A5 n5 c5,.slice A6 n6 c6]) (w.heap.size+1) 0 [.bool qb.neg,.slice A7 n7 c7,.slice A8 n8 c8]):=
    fk (fk (ah (ah jo.out NF.out) xc.out) (Nat.le_refl _) _ 0) (Nat.le_succ _) _ 0
   exact⟨A5,n5,c5,A6,n6,c6,A7,n7,c7,A8,n8,c8,k0,k1,k2,r5.keep ff kk,r6.keep ff kk,r7.keep ff kk,r8.keep ff kk,k3⟩
 case rest=>
  obtain⟨A5,n5,c5,A6,n6,c6,A7,n7,c7,A8,n8,c8,b0,b1,b2,r5,r6,r7,r8,Kc⟩:=hcut;have R5:=zH r5;have R6:=zH r6;have R7:=zH r7;have R8:=zH r8;have l5:=(gS et (by omega)).1;have l6:=(gS et (by omega)).2;have l7:=(gS gz (by omega)).1;have l8:=(gS gz (by omega)).2;rw[Tp.out,r5.len] at l5;rw[Tp.out,r6.len] at l6;rw[Ot.out,r7.len] at l7;rw[Ot.out,r8.len] at l8;have HX:=zH (iL (Nat.le_of_eq r5.len) (Nat.le_of_eq r8.len));have HY:=zH (iL (Nat.le_of_eq r7.len) (Nat.le_of_eq r6.len));have hH:∀w',Up wc w'->Up wc w'/\w'.cell? ⟨w.heap.size,0,none⟩=some (.bool qa.neg)/\w'.cell? ⟨w.heap.size,1,none⟩=some (.slice A5 n5 c5)/\w'.cell? ⟨w.heap.size,2,none⟩=some (.slice A6 n6 c6)/\ w'.cell? ⟨w.heap.size+1,0,none⟩=some (.bool qb.neg)/\w'.cell? ⟨w.heap.size+1,1,none⟩=some (.slice A7 n7 c7)/\w'.cell? ⟨w.heap.size+1,2,none⟩=some (.slice A8 n8 c8):=
   λw' hu=>⟨hu,(b0.keep hu).cell 0,(b0.keep hu).cell 1,(b0.keep hu).cell 2,(b1.keep hu).cell 0,(b1.keep hu).cell 1,(b1.keep hu).cell 2⟩
  have HH:=zH hH;have B0:=zH b0;have B1:=zH b1;have B2:=zH b2;have HBX:=zH Kc;have m1:∀w',Up wc w'->Calls Tryz.prog 212 #[.slice A5 n5 c5,.slice A8 n8 c8] w' (lE w' 138 (bC (qa.n*qb.d))):=λw' hu=>by
   have:=rn (R5.out.below hu.out (λ_ h=>h.2)) (R8.out.below hu.out (λ_ h=>h.2)) (λb h=>Nat.lt_of_lt_of_le h.2 hu.out.size) (λb h=>Nat.lt_of_lt_of_le h.2 hu.out.size) (by omega) (by omega)
   rwa [aM,aM] at this
  have m2:∀w',Up wc w'->Calls Tryz.prog 212 #[.slice A7 n7 c7,.slice A6 n6 c6] w' (lE w' 138 (bC (qb.n*qa.d))):=λw' hu=>by
   have:=rn (R7.out.below hu.out (λ_ h=>h.2)) (R6.out.below hu.out (λ_ h=>h.2)) (λb h=>Nat.lt_of_lt_of_le h.2 hu.out.size) (λb h=>Nat.lt_of_lt_of_le h.2 hu.out.size) (by omega) (by omega)
   rwa [aM,aM] at this
  have m3:∀w',Up wc w'->Calls Tryz.prog 212 #[.slice A6 n6 c6,.slice A8 n8 c8] w' (lE w' 138 (bC (qa.d*qb.d))):=λw' hu=>by
   have:=rn (R6.out.below hu.out (λ_ h=>h.2)) (R8.out.below hu.out (λ_ h=>h.2)) (λb h=>Nat.lt_of_lt_of_le h.2 hu.out.size) (λb h=>Nat.lt_of_lt_of_le h.2 hu.out.size) (by omega) (by omega)
   rwa [aM,aM] at this
  have HD:=zH (iL (Nat.le_of_eq R6.out.len) (Nat.le_of_eq R8.out.len));obtain⟨s1,jk⟩:∃s,lY qa.neg (qa.n*qb.d) qb.neg (qb.n*qa.d)=s:=⟨_,rfl⟩;have dh:(bC s1.2).length<=268435457:=by
   rw[<-jk];exact Ck (Nat.le_trans HX.out (by omega)) (Nat.le_trans HY.out (by omega))
  have iz:sG qa qb=rq s1.1 s1.2 (qa.d*qb.d):=by unfold sG;rw[jk]
  have m4:∀(w':World) (S9 S0:Nat->Prop) (A9 A0:Option Addr) (n9 c9 n0 c0:Nat),n9=(bC (qa.n*qb.d)).length->n0=(bC (qb.n*qa.d)).length->RS w' S9 A9 n9 c9 (bC (qa.n*qb.d))->RS w' S0 A0 n0 c0 (bC (qb.n*qa.d))->(∀b,S9 b->b<w'.heap.size)->(∀b,S0 b->b<w'.heap.size)-> Calls Tryz.prog 211 #[.bool qa.neg,.slice A9 n9 c9,.bool qb.neg,.slice A0 n0 c0] w' (Fy w' s1):=λw' S9 S0 A9 A0 n9 c9 n0 c0 e9 e0 h9 h0 SR SU=>by
   have:=KE qa.neg qb.neg h9 h0 SR SU (by have:=HX.out;omega) (by have:=HY.out;omega)
   rwa [aM,aM,jk] at this
  have M1:=zH m1;have M2:=zH m2;have M3:=zH m3;have M4:=zH m4;have XC:=zH dh;have X5:=zH iz;clear r5 r6 r7 r8 hH b0 b1 b2 Kc d0 d1 d2 e0 e1 e2 d3 d4 d5 e3 e4 e5 m1 m2 m3 m4 jk dh iz;go_upto_region 2 with(fail);go_region_held3 (λw'=>Up wc w'/\w'.cell? ⟨w.heap.size,0,none⟩=some (.bool qa.neg)/\w'.cell? ⟨w.heap.size,1,none⟩=some (.slice A5 n5 c5)/\w'.cell? ⟨w.heap.size,2,none⟩=some (.slice A6 n6 c6)/\ w'.cell? ⟨w.heap.size+1,0,none⟩=some (.bool qb.neg)/\w'.cell? ⟨w.heap.size+1,1,none⟩=some (.slice A7 n7 c7)/\w'.cell? ⟨w.heap.size+1,2,none⟩=some (.slice A8 n8 c8))
   (first|assumption|exact HH.out _ (Up.start wc)|exact HH.out _ (Up.more (‹Up wc _/\_›).1 ‹Below _ _ _›))
   (first
    | (go_at_call 212; (with_reducible refine(M1.out _ (‹Up wc _/\_›).1).mono ?_); rintro e w5 h9; obtain⟨A9,n9,c9,rfl,hn9,Ze,hb9⟩:=h9.slice; obtain⟨S9,Qb,SR⟩:∃S9:Nat->Prop,RS w5 S9 A9 n9 c9 (bC (qa.n*qb.d))/\∀b,S9 b->b<w5.heap.size:=⟨_,Ze,λb h=>h.2⟩; have HR9:=zH Qb; have HS9:=zH SR; have HN9:=zH hn9; clear h9 Ze hn9 Qb SR)
    | (go_at_call 212; (with_reducible refine(M2.out _ (‹Up wc _/\_›).1).mono ?_); rintro e w6 h9; obtain⟨A0,n0,c0,rfl,hn0,Is,hb0⟩:=h9.slice; obtain⟨S0,Qg,SU⟩:∃S0:Nat->Prop,RS w6 S0 A0 n0 c0 (bC (qb.n*qa.d))/\∀b,S0 b->b<w6.heap.size:=⟨_,Is,λb h=>h.2⟩; have XL:=zH Qg; have XF:=zH SU; have HN0:=zH hn0; have XH:=zH (HR9.out.below hb0 HS9.out); have HF9:Hid (∀b,S9 b->b<w6.heap.size):=zH (λb h=>Nat.lt_of_lt_of_le (HS9.out b h) hb0.size); clear h9 Is hn0 Qg SU)
    | (go_at_call 211; (with_reducible refine(M4.out _ _ _ _ _ _ _ _ _ HN9.out HN0.out XH.out XL.out HF9.out XF.out).mono ?_); rintro e w7 ⟨A1,n1,c1,rfl,hn1,Zf,bp⟩; have RL:=zH Zf; have HN1:=zH hn1; clear Zf hn1))
  all_goals
   have hu:Up wc w7:=(‹Up wc w7/\_›).1;have HU:=zH hu;obtain⟨S1,Qe,N9⟩:∃S1:Nat->Prop,RS w7 S1 A1 n1 c1 (bC s1.2)/\∀b,S1 b->b<w7.heap.size:=⟨_,RL.out,λb h=>h.2⟩;have XK:=zH Qe;have RI:=zH N9;have BB2:=zH (B2.out.keep hu);have BX7:=zH (ah HBX.out hu.out);have abZ:n1<=268435457:=by have:=HN1.out;have:=XC.out;omega
   clear Qe N9 hu;go_wp2_with fail;refine(M3.out _ HU.out).mono ?_;rintro e w8 h;obtain⟨A2',n2',c2',rfl,Vr,Qd,QN⟩:=h.slice;have abY:n2'<=268435457:=by have:=HD.out;omega
   have RJ:=zH (XK.out.below QN RI.out);have RH:Hid (∀b,S1 b->b<w8.heap.size):=zH (λb h=>Nat.lt_of_lt_of_le (RI.out b h) QN.size);have XJ:=zH Qd;have Yo:=zH (BB2.out.keep QN);have BX8:=zH (ah BX7.out QN);clear h Vr Qd QN;go_wp2_with fail;refine(rA s1.1 RJ.out XJ.out RH.out (λb h=>h.2) (by omega) (by omega)).mono ?_;rintro e w9 ⟨v,rfl,⟨cs,rfl,hr⟩,hb⟩;have fa:=hr;obtain⟨A5',n5',c5',A6',n6',c6',rfl,_,_⟩:=fa;rw[aM,aM,<-X5.out] at hr ⊢;obtain⟨c0,c1,c2,f0,f1,f2⟩:=(Yo.out.keep hb).facts3;have RY:=zH (Yo.out.keep hb);have Jx:=zH (ah BX8.out hb);have jn:=zH hr;obtain⟨q,hq⟩:∃q,sG qa qb=q:=⟨_,rfl⟩;rw[hq] at jn ⊢;have HQ:=zH hq;have hsz:=Yo.out.lt;clear hr hb hq;go_wp2_with fail;refine dq (x:=q) (S:=cm w8 w9) (cs:=[.bool q.neg,.slice A5' n5' c5',.slice A6' n6' c6']) rfl rfl (by omega) RY.out rfl Tryz.underlying28 rfl (by kernel_rfl) jn.out (λb hb=>?_) Jx.out rfl (by rw[<-HQ.out];exact id);have h1:=hb.1;exact⟨⟨by omega,hb.2⟩,by omega⟩
theorem Gg {S S2:Nat->Prop} {va vb:Value} {ra rb:Raw} {w:World} (ha:SV w S va ra) (hb:SV w S2 vb rb) (hS:∀b,S b->b<w.heap.size) (fG:∀b,S2 b->b<w.heap.size) (et:ra.short 67108864) (gz:rb.short 67108864) : Calls Tryz.prog 135 #[va,vb] w (em w (sG ra.q rb.flip.q)):=by
 obtain⟨A,n,c,A2,n2,c2,rfl,h1,h2⟩:=ha.raw_cases;obtain⟨A3,n3,c3,A4,n4,c4,rfl,h3,h4⟩:=hb.raw_cases;have dF:Below w.heap.size w (((w.alloc (.cells #[.bool ra.neg,.slice A n c,.slice A2 n2 c2] 28)).alloc (.cells #[.bool (!rb.neg),.slice A3 n3 c3,.slice A4 n4 c4] 28)).alloc (.cells #[.bool false,.slice none 0 0,.slice none 0 0] 28)):=
  (((Below.refl _ _).alloc (Nat.le_refl _) _).alloc (by simp) _).alloc (by simp;omega) _
 obtain⟨w1,dL⟩:∃x,((w.alloc (.cells #[.bool ra.neg,.slice A n c,.slice A2 n2 c2] 28)).alloc (.cells #[.bool (!rb.neg),.slice A3 n3 c3,.slice A4 n4 c4] 28)).alloc (.cells #[.bool false,.slice none 0 0,.slice none 0 0] 28)=x:=⟨_,rfl⟩;have jk:w1.heap.size=w.heap.size+3:=by rw[<-dL];simp
 have fb:bS w1 (w.heap.size+1+1) 28 #[.bool false,.slice none 0 0,.slice none 0 0]:=by rw[<-dL];exact bS.new' (by simp) _ _
 rw[dL] at dF;have pT:SV w1 S2 (.agg #[.bool (!rb.neg),.slice A3 n3 c3,.slice A4 n4 c4]) rb.flip:=⟨_,rfl,A3,n3,c3,A4,n4,c4,rfl,h3.below dF fG,h4.below dF fG⟩;have Oq:=zH (ha.below dF hS);have RE:=zH pT;have jN:=zH dL;have jo:=zH dF;have Ky:=zH fb;have Bj:=zH jk;obtain⟨q,hq⟩:∃q,sG ra.q rb.flip.q=q:=⟨_,rfl⟩;rw[hq];have HQ:=zH hq;clear ha hb h1 h2 h3 h4 dL dF fb jk hq pT;go_enter Tryz.func135,Tryz.ntmps135;go_wp2_with fail;rw[jN.out];refine(Jq Oq.out RE.out (λb hb=>Nat.lt_of_lt_of_le (hS b hb) jo.out.size) (λb hb=>Nat.lt_of_lt_of_le (fG b hb) jo.out.size) et gz).mono ?_;rintro e w2 ⟨v,rfl,⟨cs,rfl,hr⟩,hb⟩;have fa:=hr;obtain⟨A5,n5,c5,A6,n6,c6,rfl,_,_⟩:=fa;obtain⟨c0,c1,c2',f0,f1,f2⟩:=(Ky.out.keep hb).facts3;have HK:=zH (Ky.out.keep hb);have fM:=zH (ah jo.out hb);rw[HQ.out] at hr ⊢;have HR:=zH hr;clear hr hb;go_wp2_with fail;refine dq (x:=q) (S:=cm w1 w2) (cs:=[.bool q.neg,.slice A5 n5 c5,.slice A6 n6 c6]) rfl rfl (by omega) HK.out rfl Tryz.underlying28 rfl (by kernel_rfl) HR.out (λb hb=>?_) fM.out rfl id;have h1:=hb.1;rw[Bj.out] at h1;exact⟨⟨by omega,hb.2⟩,by omega⟩
theorem rF {n:Nat}:(bC n).length=0↔n=0:=by rw[List.length_eq_zero_iff,du]
theorem I8 {S S2:Nat->Prop} {va vb:Value} {ra rb:Raw} {w:World} (ha:SV w S va ra) (hb:SV w S2 vb rb) (hS:∀b,S b->b<w.heap.size) (fG:∀b,S2 b->b<w.heap.size) (et:ra.short 67108864) (gz:rb.short 67108864) : Calls Tryz.prog 87 #[va,vb] w (jz w (.int .i64 (sw ra.q rb.flip.q))):=by
 obtain⟨A,n,c,A2,n2,c2,rfl,h1,h2⟩:=ha.raw_cases;obtain⟨A3,n3,c3,A4,n4,c4,rfl,h3,h4⟩:=hb.raw_cases;have dF:Below w.heap.size w ((w.alloc (.cells #[.bool ra.neg,.slice A n c,.slice A2 n2 c2] 28)).alloc (.cells #[.bool rb.neg,.slice A3 n3 c3,.slice A4 n4 c4] 28)):=
  ((Below.refl _ _).alloc (Nat.le_refl _) _).alloc (by simp) _
 obtain⟨w1,dL⟩:∃x,(w.alloc (.cells #[.bool ra.neg,.slice A n c,.slice A2 n2 c2] 28)).alloc (.cells #[.bool rb.neg,.slice A3 n3 c3,.slice A4 n4 c4] 28)=x:=⟨_,rfl⟩;rw[dL] at dF;have Oq:=zH (ha.below dF hS);have RE:=zH (hb.below dF fG);have jN:=zH dL;have jo:=zH dF;obtain⟨q,hq⟩:∃q,sG ra.q rb.flip.q=q:=⟨_,rfl⟩;have hc:sw ra.q rb.flip.q=if q.neg then -1 else if q.n=0 then 0 else 1:=by unfold sw;rw[hq]
 obtain⟨z,hz⟩:∃z,sw ra.q rb.flip.q=z:=⟨_,rfl⟩;rw[hz] at hc ⊢;have HC:=zH hc;have HQ:=zH hq;clear ha hb h1 h2 h3 h4 dL dF hq hc hz;go_enter Tryz.func87,Tryz.ntmps87;go_wp2_with fail;rw[jN.out];refine(Gg Oq.out RE.out (λb hb=>Nat.lt_of_lt_of_le (hS b hb) jo.out.size) (λb hb=>Nat.lt_of_lt_of_le (fG b hb) jo.out.size) et gz).mono ?_;rintro e w2 ⟨v,rfl,⟨cs,rfl,A5,n5,c5,A6,n6,c6,rfl,h5,h6⟩,hb⟩;rw[HQ.out] at h5 h6 ⊢;have fM:=zH (ah jo.out hb);have hn5:=h5.len;have h0:=rF (n:=q.n);rw[hn5] at h0;have H0:=zH h0;have hm:=h5.max;clear h5 h6 hb hn5 h0 HQ;obtain⟨K9,qn,qd⟩:=q;cases K9 with
 | true=>
  go_wp2_with fail;go_ret
  exact⟨by rw[HC.out];rfl,fM.out.alloc fM.out.size _⟩
 | false=>
  by_cases hz:n5=0
  ·have D2:qn=0:=H0.out.1 hz;subst hz;subst D2;go_wp2_with fail;go_ret
   exact⟨by rw[HC.out];rfl,fM.out.alloc fM.out.size _⟩
  ·have hb0:((n5:Int)==0)=false:=by rw[beq_eq_false_iff_ne];omega
   have D2:qn≠0:=λe=>hz (H0.out.2 e);have HQ0:=zH D2;clear D2 hz;go_wp2_with fail;go_ret
   exact⟨by rw[HC.out];simp[HQ0.out],fM.out.alloc fM.out.size _⟩
theorem zr {S:Nat->Prop} {v:Value} {r:Raw} {w:World} (h:SV w S v r) (hS:∀b,S b->b<w.heap.size) (hl:r.short 536870912) : Calls Tryz.prog 79 #[v] w (jz w (.bool r.valid)):=by
 obtain⟨A,n,c,A2,n2,c2,rfl,h1,h2⟩:=h.raw_cases;have dF:Below w.heap.size w (w.alloc (.cells #[.bool r.neg,.slice A n c,.slice A2 n2 c2] 28)):=(Below.refl _ _).alloc (Nat.le_refl _) _;have nI:bS (w.alloc (.cells #[.bool r.neg,.slice A n c,.slice A2 n2 c2] 28)) w.heap.size 28 #[.bool r.neg,.slice A n c,.slice A2 n2 c2]:=bS.new _ _ _;obtain⟨w1,dL⟩:∃x,w.alloc (.cells #[.bool r.neg,.slice A n c,.slice A2 n2 c2] 28)=x:=⟨_,rfl⟩;rw[dL] at dF nI;have HV:=zH (h.below dF hS);have jN:=zH dL;have jo:=zH dF;have Jv:=zH nI;have H1:=zH (h1.below dF hS);have H2:=zH (h2.below dF hS);obtain⟨q,hq⟩:∃q,r.q=q:=⟨_,rfl⟩;obtain⟨z,hz⟩:∃z,r.valid=z:=⟨_,rfl⟩;have ew:z=(r.neg==q.neg&&(decide (r.num=bC q.n)&&decide (r.den=bC q.d))):=by rw[<-hz,<-hq];rfl
 rw[hz];obtain⟨neg,num,den⟩:=r;have HQ:=zH hq;have HZ:=zH ew;clear h h1 h2 dL dF nI hq hz ew;go_enter Tryz.func79,Tryz.ntmps79;go_wp2_with fail;rw[jN.out];refine(iK HV.out (λb hb=>Nat.lt_of_lt_of_le (hS b hb) jo.out.size) hl).mono ?_;rintro e w2 ⟨v,rfl,⟨cs,rfl,A5,n5,c5,A6,n6,c6,rfl,h5,h6⟩,hb⟩;rw[HQ.out] at h5 h6 ⊢;obtain⟨d0,d1,d2,_,_,_⟩:=((Jv.out.keep hb).alloc (.cells #[.bool q.neg,.slice A5 n5 c5,.slice A6 n6 c6] 28)).facts3;have bQ:Below w.heap.size w (w2.alloc (.cells #[.bool q.neg,.slice A5 n5 c5,.slice A6 n6 c6] 28)):=(ah jo.out hb).alloc (ah jo.out hb).size _;have hn1:RS (w2.alloc (.cells #[.bool q.neg,.slice A5 n5 c5,.slice A6 n6 c6] 28)) S A n c num:=(H1.out.below hb (λb hb=>Nat.lt_of_lt_of_le (hS b hb) jo.out.size)).below ((Below.refl _ _).alloc (Nat.le_refl _) _) (λb h=>Nat.lt_of_lt_of_le (hS b h) (ah jo.out hb).size);have hn2:RS (w2.alloc (.cells #[.bool q.neg,.slice A5 n5 c5,.slice A6 n6 c6] 28)) S A2 n2 c2 den:=(H2.out.below hb (λb hb=>Nat.lt_of_lt_of_le (hS b hb) jo.out.size)).below ((Below.refl _ _).alloc (Nat.le_refl _) _) (λb h=>Nat.lt_of_lt_of_le (hS b h) (ah jo.out hb).size);have hn5:RS (w2.alloc (.cells #[.bool q.neg,.slice A5 n5 c5,.slice A6 n6 c6] 28)) (cm w1 w2) A5 n5 c5 (bC q.n):=h5.below ((Below.refl _ _).alloc (Nat.le_refl _) _) (λb h=>h.2);have hn6:RS (w2.alloc (.cells #[.bool q.neg,.slice A5 n5 c5,.slice A6 n6 c6] 28)) (cm w1 w2) A6 n6 c6 (bC q.d):=h6.below ((Below.refl _ _).alloc (Nat.le_refl _) _) (λb h=>h.2);have N1:=zH hn1;have N2:=zH hn2;have N5:=zH hn5;have N6:=zH hn6;have B2:=zH bQ;clear h5 h6 hb bQ hn1 hn2 hn5 hn6;by_cases he:neg=q.neg
 ·have pU:(neg==q.neg)=true:=by simpa using he
  have he2:(!neg==!q.neg)=true:=by simpa using he
  go_wp2_with fail;refine(qf N1.out N5.out).mono ?_;rintro e w' ⟨rfl,m,rfl⟩;by_cases hx:num=bC q.n
  ·rw[decide_eq_true hx];go_wp2_with fail;refine(qf (N2.out.drewN m) (N6.out.drewN m)).mono ?_;rintro e w' ⟨rfl,m2,rfl⟩;obtain⟨y,hy⟩:∃y,decide (den=bC q.d)=y:=⟨_,rfl⟩;have YW:z=y:=by rw[HZ.out,decide_eq_true hx,hy];simp[he]
   rw[hy,<-YW];clear hy YW hx;go_wp2_with fail;go_ret
   exact⟨rfl,below_drewN B2.out _⟩
  ·have bE:z=false:=by rw[HZ.out,decide_eq_false hx];simp
   rw[decide_eq_false hx];have fJ:=zH bE;clear hx bE;go_wp2_with fail;go_ret
   exact⟨by rw[fJ.out];rfl,below_drewN B2.out _⟩
 ·have pU:(neg==q.neg)=false:=by simpa using he
  have bE:z=false:=by rw[HZ.out];simp[he]
  have fJ:=zH bE;clear bE he;go_wp2_with fail;go_ret
  exact⟨by rw[fJ.out];rfl,B2.out⟩
theorem Co {y:ByteArray} {l:List UInt8} (h:y≠⟨l.toArray⟩):(y.toList==l)=false:=by
 rw[ByteArray.toList_eq];rw[beq_eq_false_iff_ne];intro e;apply h;apply ByteArray.ext;rw[<-e]
theorem fq (a b:List UInt8):((⟨a.toArray⟩:ByteArray)++⟨b.toArray⟩)=⟨(a++b).toArray⟩:=by
 apply ByteArray.ext;rw[ByteArray.data_append];simp
theorem Cg {S:Nat->Prop} {v:Value} {r:Raw} {w:World} (h:SV w S v r) (hS:∀b,S b->b<w.heap.size) (hl:r.short 67108864) : Calls Tryz.prog 129 #[v] w (jz w (.string ⟨(gj r.q).toArray⟩)):=by
 obtain⟨A,n,c,A2,n2,c2,rfl,h1,h2⟩:=h.raw_cases;have dF:Below w.heap.size w (w.alloc (.cells #[.bool r.neg,.slice A n c,.slice A2 n2 c2] 28)):=(Below.refl _ _).alloc (Nat.le_refl _) _;have nI:bS (w.alloc (.cells #[.bool r.neg,.slice A n c,.slice A2 n2 c2] 28)) w.heap.size 28 #[.bool r.neg,.slice A n c,.slice A2 n2 c2]:=bS.new _ _ _;obtain⟨w1,dL⟩:∃x,w.alloc (.cells #[.bool r.neg,.slice A n c,.slice A2 n2 c2] 28)=x:=⟨_,rfl⟩;rw[dL] at dF nI;have jk:w1.heap.size=w.heap.size+1:=by rw[<-dL];simp
 have HV:=zH (h.below dF hS);have jN:=zH dL;have jo:=zH dF;have Jv:=zH nI;have Bj:=zH jk;have D1:=(gS hl (by omega)).1;have AB:=(gS hl (by omega)).2;obtain⟨q,hq⟩:∃q,r.q=q:=⟨_,rfl⟩;rw[hq] at D1 AB;rw[hq];obtain⟨neg,num,den⟩:=r;have HQ:=zH hq;have Tq:=zH D1;have HQ2:=zH AB;obtain⟨T,hT⟩:∃T:ByteArray,⟨(gj q).toArray⟩=T:=⟨_,rfl⟩;rw[hT];have HT:=zH hT;clear h h1 h2 dL dF nI hq D1 AB jk hT;go_enter Tryz.func129,Tryz.ntmps129;go_wp2_with fail;rw[jN.out];refine(iK HV.out (λb hb=>Nat.lt_of_lt_of_le (hS b hb) jo.out.size) ⟨Nat.le_trans hl.1 (by omega),Nat.le_trans hl.2 (by omega)⟩).mono ?_;rintro e w2 ⟨v,rfl,⟨cs,rfl,A5,n5,c5,A6,n6,c6,rfl,h5,h6⟩,hb⟩;rw[HQ.out] at h5 h6 ⊢;obtain⟨c0,c1,c2',f0,f1,f2⟩:=(Jv.out.keep hb).facts3;have b3:Below w.heap.size w (setAll w2 w.heap.size 0 [.bool q.neg,.slice A5 n5 c5,.slice A6 n6 c6]):=fk (ah jo.out hb) (Nat.le_refl _) _ 0;have k3:bS (setAll w2 w.heap.size 0 [.bool q.neg,.slice A5 n5 c5,.slice A6 n6 c6]) w.heap.size 28 #[.bool q.neg,.slice A5 n5 c5,.slice A6 n6 c6]:=(Jv.out.keep hb).setAll [.bool q.neg,.slice A5 n5 c5,.slice A6 n6 c6] rfl;have kp:af (cm w1 w2) w2 (setAll w2 w.heap.size 0 [.bool q.neg,.slice A5 n5 c5,.slice A6 n6 c6]):=(af.refl _ _).setAll (λh=>by have:=h.1;have:=Bj.out;omega) _ 0;have r5:=h5.keep (λ_ h=>h) kp;have r6:=h6.keep (λ_ h=>h) kp;have z3:(setAll w2 w.heap.size 0 [.bool q.neg,.slice A5 n5 c5,.slice A6 n6 c6]).heap.size=w2.heap.size:=fO _ _ _;obtain⟨w3,UQ⟩:∃x,setAll w2 w.heap.size 0 [.bool q.neg,.slice A5 n5 c5,.slice A6 n6 c6]=x:=⟨_,rfl⟩;rw[UQ] at b3 k3 r5 r6 z3;have hl5:n5<=67108864:=by have:=Tq.out;have:=r5.len;omega
 have hl6:n6<=67108864:=by have:=HQ2.out;have:=r6.len;omega
 have HW3:Hid (((w2.setCell ⟨w.heap.size,0,none⟩ (.bool q.neg)).setCell ⟨w.heap.size,1,none⟩ (.slice A5 n5 c5)).setCell ⟨w.heap.size,2,none⟩ (.slice A6 n6 c6)=w3):=zH UQ;have B3:=zH b3;have K3:=zH k3;have R5:=zH r5;have R6:=zH r6;have Z3:=zH z3;clear h5 h6 hb b3 k3 kp r5 r6 UQ z3;go_wp2_with fail;rw[HW3.out];have t5:=xq R5.out (λb h=>by rw[Z3.out];exact h.2) (by omega);rw[aM] at t5;obtain⟨x,hx⟩:∃x:ByteArray,⟨(cz q.n).toArray⟩=x:=⟨_,rfl⟩;rw[hx] at t5;have FN:x.size<=1000000000:=by
  have:=gb Tq.out;rw[<-hx];show(cz q.n).toArray.size<=_;rw[List.size_toArray];omega
 have HX:=zH hx;have T5:=zH t5;clear hx t5;refine T5.out.mono ?_;rintro e w4 ⟨rfl,ud⟩;obtain⟨d0,d1,d2,_,_,_⟩:=(K3.out.keep ud).facts3;have R64:=zH (R6.out.below ud (λb h=>by rw[Z3.out];exact h.2));have YY:=ud.size;have t6:=xq R64.out (λb h=>Nat.lt_of_lt_of_le h.2 (by rw[<-Z3.out];exact YY)) (by omega);rw[aM] at t6;obtain⟨y,hy⟩:∃y:ByteArray,⟨(cz q.d).toArray⟩=y:=⟨_,rfl⟩;rw[hy] at t6;have Y2:y.size<=1000000000:=by
  have:=gb HQ2.out;rw[<-hy];show(cz q.d).toArray.size<=_;rw[List.size_toArray];omega
 have HY:=zH hy;have T6:=zH t6;have B4:=zH (ah B3.out ud);clear hy t6 ud YY;have L0:(y=⟨#[49]⟩)↔cz q.d=[49]:=by
  rw[<-HY.out];constructor
  ·intro e;have:=congrArg (λb=>b.data.toList) e;simpa using this
  ·intro e;rw[e]
 have Tm:=zH L0;clear L0;obtain⟨K9,qn,qd⟩:=q;cases K9 with
 | true=>
  go_wp2_with fail;refine T6.out.mono ?_;rintro e w5 ⟨rfl,Bu⟩;have B5:=zH (ah B4.out Bu);clear Bu;by_cases h1:y=⟨#[49]⟩
  ·have hT:(⟨#[45]⟩:ByteArray)++x=T:=by
    rw[<-HT.out,<-HX.out];unfold gj;rw[if_pos rfl,if_pos (Tm.out.1 h1),List.append_nil];exact fq [45] _
   have F4:=zH hT;clear hT;go_wp2_with fail;go_ret
   exact⟨congrArg (λt=>Ending.returned (.string t)) F4.out,B5.out⟩
  ·have hne:(y.toList==[49])=false:=Co h1;have hT:(⟨#[45]⟩:ByteArray)++x++(⟨#[47]⟩++y)=T:=by
    rw[<-HT.out,<-HX.out,<-HY.out];unfold gj;rw[if_pos rfl,if_neg (λe=>h1 (Tm.out.2 e))];exact(congr (congrArg HAppend.hAppend (fq [45] _)) (fq [47] _)).trans (fq _ _)
   have F4:=zH hT;clear hT h1;have abo:((⟨#[45]⟩:ByteArray)++x).size<=1000000001:=by rw[ByteArray.size_append];show 1+_<=_;omega
   have abl:((⟨#[47]⟩:ByteArray)++y).size<=1000000001:=by rw[ByteArray.size_append];show 1+_<=_;omega
   go_wp2_with fail;go_ret
   exact⟨congrArg (λt=>Ending.returned (.string t)) F4.out,B5.out⟩
 | false=>
  go_wp2_with fail;refine T6.out.mono ?_;rintro e w5 ⟨rfl,Bu⟩;have B5:=zH (ah B4.out Bu);clear Bu;by_cases h1:y=⟨#[49]⟩
  ·have hT:x=T:=by
    rw[<-HT.out,<-HX.out];unfold gj;rw[if_neg (by simp),if_pos (Tm.out.1 h1),List.append_nil,List.nil_append]
   have F4:=zH hT;clear hT;go_wp2_with fail;go_ret
   exact⟨congrArg (λt=>Ending.returned (.string t)) F4.out,B5.out⟩
  ·have hne:(y.toList==[49])=false:=Co h1;have hT:x++((⟨#[47]⟩:ByteArray)++y)=T:=by
    rw[<-HT.out,<-HX.out,<-HY.out];unfold gj;rw[if_neg (by simp),if_neg (λe=>h1 (Tm.out.2 e)),List.nil_append];exact(congrArg _ (fq [47] _)).trans (fq _ _)
   have F4:=zH hT;clear hT h1;go_wp2_with fail;go_ret
   exact⟨congrArg (λt=>Ending.returned (.string t)) F4.out,B5.out⟩
end Go.Proofs.YtichkplomldgiaaGreatDoor
