/- Rat3 -/
import Derived.Test.YtjlhbfbdcfajfaaGreatDoorB10
import Derived.Deep.RegionWith
import Derived.Deep.RegionHeld3
import Derived.Deep.DeepCutAuto
namespace Go.Proofs.YtjlhbfbdcfajfaaGreatDoor
open Go.RowKit
def wW (a:Bool) (X:Nat) (b:Bool) (Y:Nat):Bool×Nat:=if a=b then(a,X+Y) else if Y≤X then(a,X-Y) else(b,Y-X)
def Wa (w:World) (r:Bool×Nat) (e:Ending) (w':World):Prop:=∃A n c,e=.returned (.tuple #[.bool r.1,.slice A n c])∧n=(fC r.2).length∧RS w' (bz w w') A n c (fC r.2)∧Below w.heap.size w w'
set_option maxHeartbeats 1000000 in
theorem abW {S S2:Nat→Prop} {A A2:Option Addr} {n c n2 c2:Nat} {xs ys:List (BitVec 32)} {w:World} (a b:Bool) (h:RS w S A n c xs) (h2:RS w S2 A2 n2 c2 ys) (hS:∀b,S b→b<w.heap.size) (eF:∀b,S2 b→b<w.heap.size) (hn:n≤536870912) (hn2:n2≤536870912) : Calls Tryz.prog 166 #[.bool a,.slice A n c,.bool b,.slice A2 n2 c2] w (Wa w (wW a (val xs) b (val ys))):=by
 have H:=zH h;have H2:=zH h2;obtain⟨X,hX⟩:∃X,val xs=X:=⟨_,rfl⟩;obtain⟨Y,hY⟩:∃Y,val ys=Y:=⟨_,rfl⟩;have HX:=zH hX;have HY:=zH hY;rw[hX,hY];clear h h2 hX hY;by_cases F0:a=b
 ·have hq:wW a X b Y=(a,X+Y):=by unfold wW;rw[if_pos F0]
  rw[hq];have asr:(a==b)=true:=by simpa using F0
  have aCt:(!a==!b)=true:=by simpa using F0
  clear hq F0;go_enter Tryz.func166,Tryz.ntmps166;go_wp2_with fail;refine(Zo H.out H2.out hS eF (by omega) (by omega)).mono ?_;rintro e w2 h;rw[HX.out,HY.out] at h;obtain⟨A3,n3,c3,rfl,hn3,hr,hb⟩:=h.slice;have HN:=zH hn3;have HR:=zH hr;have HB:=zH hb;clear h hr hb hn3;go_wp2_with fail;go_ret2
  exact⟨A3,n3,c3,rfl,HN.out,HR.out,HB.out⟩
 ·have asr:(a==b)=false:=by simpa using F0
  by_cases G0:Y≤X
  ·have hq:wW a X b Y=(a,X-Y):=by unfold wW;rw[if_neg F0,if_pos G0]
   rw[hq];have HLE:=zH G0;clear hq F0 G0;go_enter Tryz.func166,Tryz.ntmps166;go_wp2_with fail;refine(O1 H.out H2.out hS eF (by omega) (by rw[HX.out,HY.out];exact HLE.out)).mono ?_;rintro e w2 ⟨v,rfl,ho,hb⟩;rw[HX.out,HY.out] at ho;obtain⟨A3,n3,c3,rfl,hn3⟩:=ho.slice;have HN:=zH hn3;have HR:=zH (ho.fresh (Nat.le_refl _));have HB:=zH hb;clear ho hb hn3;go_wp2_with fail;go_ret2
   exact⟨A3,n3,c3,rfl,HN.out,HR.out,HB.out⟩
  ·have hq:wW a X b Y=(b,Y-X):=by unfold wW;rw[if_neg F0,if_neg G0]
   rw[hq];have bn:X<Y:=by omega
   have HLT:=zH bn;clear hq F0 G0 bn;go_enter Tryz.func166,Tryz.ntmps166;go_wp2_with fail;refine(XI H.out H2.out (by rw[HX.out,HY.out];exact HLT.out)).mono ?_;rintro e w2 ⟨v,rfl,ho,hb⟩;have vX:=zH (H.out.below hb hS);have sW:=zH (H2.out.below hb eF);have HB:=zH hb;clear ho hb;go_wp2_with fail;refine(O1 sW.out vX.out (fun b h=>Nat.lt_of_lt_of_le (eF b h) HB.out.size) (fun b h=>Nat.lt_of_lt_of_le (hS b h) HB.out.size) (by omega) (by rw[HX.out,HY.out];exact Nat.le_of_lt HLT.out)).mono ?_;rintro e w3 ⟨v,rfl,ho,hb⟩;rw[HX.out,HY.out] at ho;obtain⟨A3,n3,c3,rfl,hn3⟩:=ho.slice;have HN:=zH hn3;have HR:=zH (ho.fresh HB.out.size);have iT:=zH (ae HB.out hb);clear ho hb hn3;go_wp2_with fail;go_ret2
   exact⟨A3,n3,c3,rfl,HN.out,HR.out,iT.out⟩
theorem uN {a b j k:Nat} (ha:(fC a).length≤j) (hb:(fC b).length≤k):(fC (a*b)).length≤j+k:=by
 have h1:=iU (fC a);have h2:=iU (fC b);rw[dj] at h1 h2;have h3:=Nat.lt_of_lt_of_le h1 (Nat.pow_le_pow_right (by omega) ha);have h4:=Nat.lt_of_lt_of_le h2 (Nat.pow_le_pow_right (by omega) hb);refine jD ?_;rw[Nat.pow_add];exact Nat.mul_lt_mul'' h3 h4
theorem KF {a b k:Nat} (ha:(fC a).length≤k) (hb:(fC b).length≤k):(fC (a+b)).length≤k+1:=by
 have h1:=iU (fC a);have h2:=iU (fC b);rw[dj] at h1 h2;have h3:=Nat.lt_of_lt_of_le h1 (Nat.pow_le_pow_right (by omega) ha);have h4:=Nat.lt_of_lt_of_le h2 (Nat.pow_le_pow_right (by omega) hb);refine jD ?_;rw[Nat.pow_succ];omega
theorem Tt {a b:Bool} {X Y k:Nat} (hx:(fC X).length≤k) (hy:(fC Y).length≤k):(fC (wW a X b Y).2).length≤k+1:=by
 unfold wW;split
 ·exact KF hx hy
 ·split
  ·exact Nat.le_succ_of_le (qj hx (Nat.sub_le _ _))
  ·exact Nat.le_succ_of_le (qj hy (Nat.sub_le _ _))
theorem te {r:Raw} {k:Nat} (h:r.short k) (hk:1≤k):(fC r.q.n).length≤k∧(fC r.q.d).length≤k:=by
 have hx:(fC (val r.num)).length≤k:=by rw[fH];exact Nat.le_trans (ej _) h.1
 have hy:(fC (val r.den)).length≤k:=by rw[fH];exact Nat.le_trans (ej _) h.2
 unfold Raw.q ij;split
 ·simp only[fD,O5,List.length_nil,List.length_singleton];omega
 ·exact⟨qj hx (Nat.div_le_self _ _),qj hy (Nat.div_le_self _ _)⟩
def EJ (a b:Q):Q:=ij (wW a.neg (a.n*b.d) b.neg (b.n*a.d)).1 (wW a.neg (a.n*b.d) b.neg (b.n*a.d)).2 (a.d*b.d)
set_option maxRecDepth 20000 in
set_option maxHeartbeats 2000000 in
theorem Zn {S S2:Nat→Prop} {va vb:Value} {ra rb:Raw} {w:World} (ha:SV w S va ra) (hb:SV w S2 vb rb) (hS:∀b,S b→b<w.heap.size) (eF:∀b,S2 b→b<w.heap.size) (dT:ra.short 67108864) (qB:rb.short 67108864) : Calls Tryz.prog 137 #[va,vb] w (gh w (EJ ra.q rb.q)):=by
 obtain⟨A,n,c,A2,n2,c2,rfl,h1,h2⟩:=ha.raw_cases;obtain⟨A3,n3,c3,A4,n4,c4,rfl,h3,h4⟩:=hb.raw_cases;have bq:Below w.heap.size w (((w.alloc (.cells #[.bool ra.neg,.slice A n c,.slice A2 n2 c2] 28)).alloc (.cells #[.bool rb.neg,.slice A3 n3 c3,.slice A4 n4 c4] 28)).alloc (.cells #[.bool false,.slice none 0 0,.slice none 0 0] 28)):=
  (((Below.refl _ _).alloc (Nat.le_refl _) _).alloc (by simp) _).alloc (by simp;omega) _
 obtain⟨w1,bj⟩:∃x,((w.alloc (.cells #[.bool ra.neg,.slice A n c,.slice A2 n2 c2] 28)).alloc (.cells #[.bool rb.neg,.slice A3 n3 c3,.slice A4 n4 c4] 28)).alloc (.cells #[.bool false,.slice none 0 0,.slice none 0 0] 28)=x:=⟨_,rfl⟩;have jF:w1.heap.size=w.heap.size+3:=by rw[←bj];simp
 have By:aK w1 w.heap.size 28 #[.bool ra.neg,.slice A n c,.slice A2 n2 c2]:=by rw[←bj];exact((aK.new _ _ _).alloc _).alloc _
 have dy:aK w1 (w.heap.size+1) 28 #[.bool rb.neg,.slice A3 n3 c3,.slice A4 n4 c4]:=by rw[←bj];exact(aK.new' (by simp) _ _).alloc _
 have fM:aK w1 (w.heap.size+2) 28 #[.bool false,.slice none 0 0,.slice none 0 0]:=by rw[←bj];exact aK.new' (by simp) _ _
 rw[bj] at bq;have Zw:=zH (ha.below bq hS);have Mr:=zH (hb.below bq eF);have dO:=zH bj;have jc:=zH bq;have HK0:=zH By;have oW:=zH dy;have jg:=zH fM;have oh:=zH jF;obtain⟨qa,hqa⟩:∃q,ra.q=q:=⟨_,rfl⟩;obtain⟨qb,Sl⟩:∃q,rb.q=q:=⟨_,rfl⟩;rw[hqa,Sl];have HQA:=zH hqa;have HQB:=zH Sl;clear ha hb h1 h2 h3 h4 bj bq By dy fM jF hqa Sl;go_enter Tryz.func137,Tryz.ntmps137;go_upto_region 1 with(fail);rw[dO.out];obtain⟨d0,d1,d2,e0,e1,e2⟩:=HK0.out.facts3;obtain⟨d3,d4,d5,e3,e4,e5⟩:=oW.out.facts3;go_cut [8] (fun _ wx=>∃A5 n5 c5 A6 n6 c6 A7 n7 c7 A8 n8 c8,aK wx w.heap.size 28 #[.bool qa.neg,.slice A5 n5 c5,.slice A6 n6 c6]∧aK wx (w.heap.size+1) 28 #[.bool qb.neg,.slice A7 n7 c7,.slice A8 n8 c8]∧ aK wx (w.heap.size+1+1) 28 #[.bool false,.slice none 0 0,.slice none 0 0]∧RS wx (bz w1 wx) A5 n5 c5 (fC qa.n)∧RS wx (bz w1 wx) A6 n6 c6 (fC qa.d)∧RS wx (bz w1 wx) A7 n7 c7 (fC qb.n)∧RS wx (bz w1 wx) A8 n8 c8 (fC qb.d)∧Below w.heap.size w wx)
 case first=>
  have NA0:Calls Tryz.prog 74 #[.agg #[.bool ra.neg,.slice A n c,.slice A2 n2 c2]] w1.drew (gh w1 qa):=by
   rw[←HQA.out];exact EC (uJ (w:=w1.drew) (r:=ra) Zw.out.drew (fun b hb=>Nat.lt_of_lt_of_le (hS b hb) jc.out.size) ⟨Nat.le_trans dT.1 (by omega),Nat.le_trans dT.2 (by omega)⟩)
  have NA1:Calls Tryz.prog 74 #[.agg #[.bool ra.neg,.slice A n c,.slice A2 n2 c2]] w1.drew.drew (gh w1 qa):=by
   rw[←HQA.out];exact BI (uJ (w:=w1.drew.drew) (r:=ra) Zw.out.drew.drew (fun b hb=>Nat.lt_of_lt_of_le (hS b hb) jc.out.size) ⟨Nat.le_trans dT.1 (by omega),Nat.le_trans dT.2 (by omega)⟩)
  have NB:∀w2:World,Below w1.heap.size w1 w2→Calls Tryz.prog 74 #[.agg #[.bool rb.neg,.slice A3 n3 c3,.slice A4 n4 c4]] w2 (gh w2 qb):=fun w2 bY=>by
   rw[←HQB.out];exact uJ (r:=rb) (Mr.out.below bY (fun b hb=>Nat.lt_of_lt_of_le (eF b hb) jc.out.size)) (fun b hb=>Nat.lt_of_lt_of_le (eF b hb) (Nat.le_trans jc.out.size bY.size)) ⟨Nat.le_trans qB.1 (by omega),Nat.le_trans qB.2 (by omega)⟩
  have avM:=zH NA0;have avL:=zH NA1;have LR:=zH NB;clear NA0 NA1 NB;go_region_with (first
   | (go_at_call 74; (with_reducible first|refine avM.out.mono ?_|refine avL.out.mono ?_); rintro e w2 ⟨v,rfl,⟨cs,rfl,A5,n5,c5,A6,n6,c6,rfl,g5,g6⟩,bY⟩; obtain⟨d3,d4,d5,e3,e4,e5⟩:=(oW.out.keep bY).facts3; have avK:=zH (LR.out w2 bY); have avJ:Hid (Calls Tryz.prog 74 #[.agg #[.bool rb.neg,.slice A3 n3 c3,.slice A4 n4 c4]] w2.drew (gh w2 qb)):=zH (EC (LR.out w2.drew (below_drewN bY 1))); have afq:Hid (Calls Tryz.prog 74 #[.agg #[.bool rb.neg,.slice A3 n3 c3,.slice A4 n4 c4]] w2.drew.drew (gh w2 qb)):=zH (BI (LR.out w2.drew.drew (below_drewN bY 2))); have G5:=zH g5; have G6:=zH g6; have OS:=zH bY; clear g5 g6 bY)
   | (go_at_call 74; (with_reducible first|refine avK.out.mono ?_|refine avJ.out.mono ?_|refine afq.out.mono ?_); rintro e w3 ⟨v,rfl,⟨cs,rfl,A7,n7,c7,A8,n8,c8,rfl,g7,g8⟩,ey⟩; obtain⟨d0,d1,d2,e0,e1,e2⟩:=((HK0.out.keep OS.out).keep ey).facts3; obtain⟨d3,d4,d5,e3,e4,e5⟩:=((oW.out.keep OS.out).keep ey).facts3; have G7:=zH g7; have G8:=zH g8; have OR:=zH ey; clear g7 g8 ey))
  all_goals go_wp2_with fail
  all_goals
   go_meet
   have b0:=(HK0.out.keep OS.out).keep OR.out;have b1:=(oW.out.keep OS.out).keep OR.out;have b2:=(jg.out.keep OS.out).keep OR.out;have s1:=oh.out;have s2:=OS.out.size;have s3:=OR.out.size;have r5:RS w3 (bz w1 w3) A5 n5 c5 (fC qa.n):=(G5.out.below OR.out (fun _ h=>h.2)).sub (Es s3);have r6:RS w3 (bz w1 w3) A6 n6 c6 (fC qa.d):=(G6.out.below OR.out (fun _ h=>h.2)).sub (Es s3);have r7:RS w3 (bz w1 w3) A7 n7 c7 (fC qb.n):=G7.out.sub (BE s2);have r8:RS w3 (bz w1 w3) A8 n8 c8 (fC qb.d):=G8.out.sub (BE s2);have kk:aD (bz w1 w3) w3 (setAll (setAll w3 w.heap.size 0 [.bool qa.neg,.slice A5 n5 c5,.slice A6 n6 c6]) (w.heap.size+1) 0 [.bool qb.neg,.slice A7 n7 c7,.slice A8 n8 c8]):=
    ((aD.refl _ _).setAll (fun h=>by have:=h.1;omega) _ 0).setAll (fun h=>by have:=h.1;omega) _ 0
   have ff:∀b,bz w1 w3 b→bz w1 (setAll (setAll w3 w.heap.size 0 [.bool qa.neg,.slice A5 n5 c5,.slice A6 n6 c6]) (w.heap.size+1) 0 [.bool qb.neg,.slice A7 n7 c7,.slice A8 n8 c8]) b:=fun b hb=>⟨hb.1,by rw[jt,jt];exact hb.2⟩;have k0:aK (setAll (setAll w3 w.heap.size 0 [.bool qa.neg,.slice A5 n5 c5,.slice A6 n6 c6]) (w.heap.size+1) 0 [.bool qb.neg,.slice A7 n7 c7,.slice A8 n8 c8]) w.heap.size 28 #[.bool qa.neg,.slice A5 n5 c5,.slice A6 n6 c6]:=
    aK.farAll (aK.setAll [.bool qa.neg,.slice A5 n5 c5,.slice A6 n6 c6] b0 rfl) (by omega) _ 0
   have k1:aK (setAll (setAll w3 w.heap.size 0 [.bool qa.neg,.slice A5 n5 c5,.slice A6 n6 c6]) (w.heap.size+1) 0 [.bool qb.neg,.slice A7 n7 c7,.slice A8 n8 c8]) (w.heap.size+1) 28 #[.bool qb.neg,.slice A7 n7 c7,.slice A8 n8 c8]:=
    aK.setAll [.bool qb.neg,.slice A7 n7 c7,.slice A8 n8 c8] (aK.farAll b1 (by omega) _ 0) rfl
   have k2:aK (setAll (setAll w3 w.heap.size 0 [.bool qa.neg,.slice A5 n5 c5,.slice A6 n6 c6]) (w.heap.size+1) 0 [.bool qb.neg,.slice A7 n7 c7,.slice A8 n8 c8]) (w.heap.size+1+1) 28 #[.bool false,.slice none 0 0,.slice none 0 0]:=
    aK.farAll (aK.farAll b2 (by omega) _ 0) (by omega) _ 0
   have k3:Below w.heap.size w (setAll (setAll w3 w.heap.size 0 [.bool qa.neg,.slice A5 n5 c5,.slice A6 n6 c6]) (w.heap.size+1) 0 [.bool qb.neg,.slice A7 n7 c7,.slice A8 n8 c8]):=
    fY (fY (ae (ae jc.out OS.out) OR.out) (Nat.le_refl _) _ 0) (Nat.le_succ _) _ 0
   exact⟨A5,n5,c5,A6,n6,c6,A7,n7,c7,A8,n8,c8,k0,k1,k2,r5.keep ff kk,r6.keep ff kk,r7.keep ff kk,r8.keep ff kk,k3⟩
 case rest=>
  obtain⟨A5,n5,c5,A6,n6,c6,A7,n7,c7,A8,n8,c8,b0,b1,b2,r5,r6,r7,r8,jK⟩:=hcut;have R5:=zH r5;have R6:=zH r6;have R7:=zH r7;have R8:=zH r8;have l5:=(te dT (by omega)).1;have l6:=(te dT (by omega)).2;have l7:=(te qB (by omega)).1;have l8:=(te qB (by omega)).2;rw[HQA.out,r5.len] at l5;rw[HQA.out,r6.len] at l6;rw[HQB.out,r7.len] at l7;rw[HQB.out,r8.len] at l8;have HX:=zH (uN (Nat.le_of_eq r5.len) (Nat.le_of_eq r8.len));have HY:=zH (uN (Nat.le_of_eq r7.len) (Nat.le_of_eq r6.len));have hH:∀w',Up wc w'→Up wc w'∧w'.cell? ⟨w.heap.size,0,none⟩=some (.bool qa.neg)∧w'.cell? ⟨w.heap.size,1,none⟩=some (.slice A5 n5 c5)∧w'.cell? ⟨w.heap.size,2,none⟩=some (.slice A6 n6 c6)∧ w'.cell? ⟨w.heap.size+1,0,none⟩=some (.bool qb.neg)∧w'.cell? ⟨w.heap.size+1,1,none⟩=some (.slice A7 n7 c7)∧w'.cell? ⟨w.heap.size+1,2,none⟩=some (.slice A8 n8 c8):=
   fun w' hu=>⟨hu,(b0.keep hu).cell 0,(b0.keep hu).cell 1,(b0.keep hu).cell 2,(b1.keep hu).cell 0,(b1.keep hu).cell 1,(b1.keep hu).cell 2⟩
  have HH:=zH hH;have B0:=zH b0;have B1:=zH b1;have B2:=zH b2;have kq:=zH jK;have m1:∀w',Up wc w'→Calls Tryz.prog 167 #[.slice A5 n5 c5,.slice A8 n8 c8] w' (od w' 98 (fC (qa.n*qb.d))):=fun w' hu=>by
   have:=Iz (R5.out.below hu.out (fun _ h=>h.2)) (R8.out.below hu.out (fun _ h=>h.2)) (fun b h=>Nat.lt_of_lt_of_le h.2 hu.out.size) (fun b h=>Nat.lt_of_lt_of_le h.2 hu.out.size) (by omega) (by omega)
   rwa [dj,dj] at this
  have m2:∀w',Up wc w'→Calls Tryz.prog 167 #[.slice A7 n7 c7,.slice A6 n6 c6] w' (od w' 98 (fC (qb.n*qa.d))):=fun w' hu=>by
   have:=Iz (R7.out.below hu.out (fun _ h=>h.2)) (R6.out.below hu.out (fun _ h=>h.2)) (fun b h=>Nat.lt_of_lt_of_le h.2 hu.out.size) (fun b h=>Nat.lt_of_lt_of_le h.2 hu.out.size) (by omega) (by omega)
   rwa [dj,dj] at this
  have m3:∀w',Up wc w'→Calls Tryz.prog 167 #[.slice A6 n6 c6,.slice A8 n8 c8] w' (od w' 98 (fC (qa.d*qb.d))):=fun w' hu=>by
   have:=Iz (R6.out.below hu.out (fun _ h=>h.2)) (R8.out.below hu.out (fun _ h=>h.2)) (fun b h=>Nat.lt_of_lt_of_le h.2 hu.out.size) (fun b h=>Nat.lt_of_lt_of_le h.2 hu.out.size) (by omega) (by omega)
   rwa [dj,dj] at this
  have HD:=zH (uN (Nat.le_of_eq R6.out.len) (Nat.le_of_eq R8.out.len));obtain⟨s1,jF⟩:∃s,wW qa.neg (qa.n*qb.d) qb.neg (qb.n*qa.d)=s:=⟨_,rfl⟩;have xk:(fC s1.2).length≤268435457:=by
   rw[←jF];exact Tt (Nat.le_trans HX.out (by omega)) (Nat.le_trans HY.out (by omega))
  have Cs:EJ qa qb=ij s1.1 s1.2 (qa.d*qb.d):=by unfold EJ;rw[jF]
  have m4:∀(w':World) (S9 S0:Nat→Prop) (A9 A0:Option Addr) (n9 c9 n0 c0:Nat),n9=(fC (qa.n*qb.d)).length→n0=(fC (qb.n*qa.d)).length→RS w' S9 A9 n9 c9 (fC (qa.n*qb.d))→RS w' S0 A0 n0 c0 (fC (qb.n*qa.d))→(∀b,S9 b→b<w'.heap.size)→(∀b,S0 b→b<w'.heap.size)→ Calls Tryz.prog 166 #[.bool qa.neg,.slice A9 n9 c9,.bool qb.neg,.slice A0 n0 c0] w' (Wa w' s1):=fun w' S9 S0 A9 A0 n9 c9 n0 c0 e9 e0 h9 h0 hS9 Xo=>by
   have:=abW qa.neg qb.neg h9 h0 hS9 Xo (by have:=HX.out;omega) (by have:=HY.out;omega)
   rwa [dj,dj,jF] at this
  have M1:=zH m1;have M2:=zH m2;have M3:=zH m3;have M4:=zH m4;have kE:=zH xk;have afW:=zH Cs;clear r5 r6 r7 r8 hH b0 b1 b2 jK d0 d1 d2 e0 e1 e2 d3 d4 d5 e3 e4 e5 m1 m2 m3 m4 jF xk Cs;go_upto_region 2 with(fail);go_region_held3 (fun w'=>Up wc w'∧w'.cell? ⟨w.heap.size,0,none⟩=some (.bool qa.neg)∧w'.cell? ⟨w.heap.size,1,none⟩=some (.slice A5 n5 c5)∧w'.cell? ⟨w.heap.size,2,none⟩=some (.slice A6 n6 c6)∧ w'.cell? ⟨w.heap.size+1,0,none⟩=some (.bool qb.neg)∧w'.cell? ⟨w.heap.size+1,1,none⟩=some (.slice A7 n7 c7)∧w'.cell? ⟨w.heap.size+1,2,none⟩=some (.slice A8 n8 c8))
   (first|assumption|exact HH.out _ (Up.start wc)|exact HH.out _ (Up.more (‹Up wc _∧_›).1 ‹Below _ _ _›))
   (first
    | (go_at_call 167; (with_reducible refine(M1.out _ (‹Up wc _∧_›).1).mono ?_); rintro e w5 h9; obtain⟨A9,n9,c9,rfl,hn9,GW,Lg⟩:=h9.slice; obtain⟨S9,aiB,hS9⟩:∃S9:Nat→Prop,RS w5 S9 A9 n9 c9 (fC (qa.n*qb.d))∧∀b,S9 b→b<w5.heap.size:=⟨_,GW,fun b h=>h.2⟩; have HR9:=zH aiB; have HS9:=zH hS9; have HN9:=zH hn9; clear h9 GW hn9 aiB hS9)
    | (go_at_call 167; (with_reducible refine(M2.out _ (‹Up wc _∧_›).1).mono ?_); rintro e w6 h9; obtain⟨A0,n0,c0,rfl,hn0,D9,hb0⟩:=h9.slice; obtain⟨S0,aiG,Xo⟩:∃S0:Nat→Prop,RS w6 S0 A0 n0 c0 (fC (qb.n*qa.d))∧∀b,S0 b→b<w6.heap.size:=⟨_,D9,fun b h=>h.2⟩; have HR0:=zH aiG; have C2:=zH Xo; have HN0:=zH hn0; have avo:=zH (HR9.out.below hb0 HS9.out); have OO:Hid (∀b,S9 b→b<w6.heap.size):=zH (fun b h=>Nat.lt_of_lt_of_le (HS9.out b h) hb0.size); clear h9 D9 hn0 aiG Xo)
    | (go_at_call 166; (with_reducible refine(M4.out _ _ _ _ _ _ _ _ _ HN9.out HN0.out avo.out HR0.out OO.out C2.out).mono ?_); rintro e w7 ⟨A1,n1,c1,rfl,hn1,hr1,bd⟩; have vX:=zH hr1; have OJ:=zH hn1; clear hr1 hn1))
  all_goals
   have hu:Up wc w7:=(‹Up wc w7∧_›).1;have HU:=zH hu;obtain⟨S1,aiE,Ct⟩:∃S1:Nat→Prop,RS w7 S1 A1 n1 c1 (fC s1.2)∧∀b,S1 b→b<w7.heap.size:=⟨_,vX.out,fun b h=>h.2⟩;have avs:=zH aiE;have alD:=zH Ct;have BB2:=zH (B2.out.keep hu);have BX7:=zH (ae kq.out hu.out);have aBV:n1≤268435457:=by have:=OJ.out;have:=kE.out;omega
   clear aiE Ct hu;go_wp2_with fail;refine(M3.out _ HU.out).mono ?_;rintro e w8 h;obtain⟨A2',n2',Pw,rfl,arm,aiD,oy⟩:=h.slice;have aBU:n2'≤268435457:=by have:=HD.out;omega
   have alJ:=zH (avs.out.below oy alD.out);have alC:Hid (∀b,S1 b→b<w8.heap.size):=zH (fun b h=>Nat.lt_of_lt_of_le (alD.out b h) oy.size);have avr:=zH aiD;have BB3:=zH (BB2.out.keep oy);have BX8:=zH (ae BX7.out oy);clear h arm aiD oy;go_wp2_with fail;refine(IA s1.1 alJ.out avr.out alC.out (fun b h=>h.2) (by omega) (by omega)).mono ?_;rintro e w9 ⟨v,rfl,⟨cs,rfl,hr⟩,hb⟩;have qN:=hr;obtain⟨A5',n5',c5',A6',n6',c6',rfl,_,_⟩:=qN;rw[dj,dj,←afW.out] at hr ⊢;obtain⟨c0,c1,c2,f0,f1,f2⟩:=(BB3.out.keep hb).facts3;have Gl:=zH (BB3.out.keep hb);have lH:=zH (ae BX8.out hb);have px:=zH hr;obtain⟨q,hq⟩:∃q,EJ qa qb=q:=⟨_,rfl⟩;rw[hq] at px ⊢;have HQ:=zH hq;have lk:=BB3.out.lt;clear hr hb hq;go_wp2_with fail;refine bC (x:=q) (S:=bz w8 w9) (cs:=[.bool q.neg,.slice A5' n5' c5',.slice A6' n6' c6']) rfl rfl (by omega) Gl.out rfl Tryz.underlying28 rfl (by kernel_rfl) px.out (fun b hb=>?_) lH.out rfl (by rw[←HQ.out];exact id);have h1:=hb.1;exact⟨⟨by omega,hb.2⟩,by omega⟩
end Go.Proofs.YtjlhbfbdcfajfaaGreatDoor
