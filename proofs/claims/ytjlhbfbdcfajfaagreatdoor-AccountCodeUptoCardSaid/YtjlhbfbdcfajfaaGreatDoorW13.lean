/- Rat3 Rat4 Rat5 Lex1 Lex2 Lex3 -/
import Derived.Test.YtjlhbfbdcfajfaaGreatDoorW01
import Derived.Test.YtjlhbfbdcfajfaaGreatDoorW12
import Derived.Deep.RegionWith
import Derived.Deep.RegionHeld3
import Derived.Deep.DeepCutAuto
import Derived.Lib.IndexLaws
set_option maxHeartbeats 8000000
set_option maxRecDepth 100000
namespace Go.Proofs.YtjlhbfbdcfajfaaGreatDoor
open Go.RowKit
def RE (w:World) (r:Bool×Nat) (e:Ending) (w':World):Prop:=∃A n c,e=.returned (.tuple #[.bool r.1,.slice A n c])∧n=(dm r.2).length∧RS w' (cW w w') A n c (dm r.2)∧Below w.heap.size w w'
theorem XK {S S2:Nat→Prop} {A A2:Option Addr} {n c n2 c2:Nat} {xs ys:List (BitVec 32)} {w:World} (a b:Bool) (h:RS w S A n c xs) (h2:RS w S2 A2 n2 c2 ys) (hS:∀b,S b→b<w.heap.size) (iN:∀b,S2 b→b<w.heap.size) (hn:n≤536870912) (hn2:n2≤536870912) : Calls Tryz.prog 166 #[.bool a,.slice A n c,.bool b,.slice A2 n2 c2] w (RE w (p9 a (val xs) b (val ys))):=by
 have H:=zH h;have H2:=zH h2;obtain⟨X,hX⟩:∃X,val xs=X:=⟨_,rfl⟩;obtain⟨Y,hY⟩:∃Y,val ys=Y:=⟨_,rfl⟩;have HX:=zH hX;have HY:=zH hY;rw[hX,hY];clear h h2 hX hY;by_cases UT:a=b
 ·have hq:p9 a X b Y=(a,X+Y):=by unfold p9;rw[if_pos UT]
  rw[hq];have akQ:(a==b)=true:=by simpa using UT
  have ast:(!a==!b)=true:=by simpa using UT
  clear hq UT;go_enter Tryz.func166,Tryz.ntmps166;go_wp2_with fail;refine(VU H.out H2.out hS iN (by omega) (by omega)).mono ?_;rintro e w2 h;rw[HX.out,HY.out] at h;obtain⟨A3,n3,c3,rfl,hn3,hr,hb⟩:=h.slice;have HN:=zH hn3;have HR:=zH hr;have HB:=zH hb;clear h hr hb hn3;go_wp2_with fail;go_ret2
  exact⟨A3,n3,c3,rfl,HN.out,HR.out,HB.out⟩
 ·have akQ:(a==b)=false:=by simpa using UT
  by_cases yH:Y≤X
  ·have hq:p9 a X b Y=(a,X-Y):=by unfold p9;rw[if_neg UT,if_pos yH]
   rw[hq];have HLE:=zH yH;clear hq UT yH;go_enter Tryz.func166,Tryz.ntmps166;go_wp2_with fail;refine(Ia H.out H2.out hS iN (by omega) (by rw[HX.out,HY.out];exact HLE.out)).mono ?_;rintro e w2 ⟨v,rfl,ho,hb⟩;rw[HX.out,HY.out] at ho;obtain⟨A3,n3,c3,rfl,hn3⟩:=ho.slice;have HN:=zH hn3;have HR:=zH (ho.fresh (Nat.le_refl _));have HB:=zH hb;clear ho hb hn3;go_wp2_with fail;go_ret2
   exact⟨A3,n3,c3,rfl,HN.out,HR.out,HB.out⟩
  ·have hq:p9 a X b Y=(b,Y-X):=by unfold p9;rw[if_neg UT,if_neg yH]
   rw[hq];have hlt:X<Y:=by omega
   have HLT:=zH hlt;clear hq UT yH hlt;go_enter Tryz.func166,Tryz.ntmps166;go_wp2_with fail;refine(SQ H.out H2.out (by rw[HX.out,HY.out];exact HLT.out)).mono ?_;rintro e w2 ⟨v,rfl,ho,hb⟩;have HR1:=zH (H.out.below hb hS);have JV:=zH (H2.out.below hb iN);have HB:=zH hb;clear ho hb;go_wp2_with fail;refine(Ia JV.out HR1.out (fun b h=>Nat.lt_of_lt_of_le (iN b h) HB.out.size) (fun b h=>Nat.lt_of_lt_of_le (hS b h) HB.out.size) (by omega) (by rw[HX.out,HY.out];exact Nat.le_of_lt HLT.out)).mono ?_;rintro e w3 ⟨v,rfl,ho,hb⟩;rw[HX.out,HY.out] at ho;obtain⟨A3,n3,c3,rfl,hn3⟩:=ho.slice;have HN:=zH hn3;have HR:=zH (ho.fresh HB.out.size);have mI:=zH (ak HB.out hb);clear ho hb hn3;go_wp2_with fail;go_ret2
   exact⟨A3,n3,c3,rfl,HN.out,HR.out,mI.out⟩
theorem ot {a b j k:Nat} (ha:(dm a).length≤j) (hb:(dm b).length≤k):(dm (a*b)).length≤j+k:=by
 have h1:=eJ (dm a);have h2:=eJ (dm b);rw[bF] at h1 h2;have h3:=Nat.lt_of_lt_of_le h1 (Nat.pow_le_pow_right (by omega) ha);have h4:=Nat.lt_of_lt_of_le h2 (Nat.pow_le_pow_right (by omega) hb);refine gi ?_;rw[Nat.pow_add];exact Nat.mul_lt_mul'' h3 h4
theorem DK {a b k:Nat} (ha:(dm a).length≤k) (hb:(dm b).length≤k):(dm (a+b)).length≤k+1:=by
 have h1:=eJ (dm a);have h2:=eJ (dm b);rw[bF] at h1 h2;have h3:=Nat.lt_of_lt_of_le h1 (Nat.pow_le_pow_right (by omega) ha);have h4:=Nat.lt_of_lt_of_le h2 (Nat.pow_le_pow_right (by omega) hb);refine gi ?_;rw[Nat.pow_succ];omega
theorem M9 {a b:Bool} {X Y k:Nat} (hx:(dm X).length≤k) (hy:(dm Y).length≤k):(dm (p9 a X b Y).2).length≤k+1:=by
 unfold p9;split
 ·exact DK hx hy
 ·split
  ·exact Nat.le_succ_of_le (ko hx (Nat.sub_le _ _))
  ·exact Nat.le_succ_of_le (ko hy (Nat.sub_le _ _))
theorem VS {S S2:Nat→Prop} {va vb:Value} {ra rb:Raw} {w:World} (ha:SV w S va ra) (hb:SV w S2 vb rb) (hS:∀b,S b→b<w.heap.size) (iN:∀b,S2 b→b<w.heap.size) (iQ:ra.short 67108864) (lq:rb.short 67108864) : Calls Tryz.prog 137 #[va,vb] w (iL w (xZ ra.q rb.q)):=by
 obtain⟨A,n,c,A2,n2,c2,rfl,h1,h2⟩:=ha.raw_cases;obtain⟨A3,n3,c3,A4,n4,c4,rfl,h3,h4⟩:=hb.raw_cases;have gz:Below w.heap.size w (((w.alloc (.cells #[.bool ra.neg,.slice A n c,.slice A2 n2 c2] 28)).alloc (.cells #[.bool rb.neg,.slice A3 n3 c3,.slice A4 n4 c4] 28)).alloc (.cells #[.bool false,.slice none 0 0,.slice none 0 0] 28)):=
  (((Below.refl _ _).alloc (Nat.le_refl _) _).alloc (by simp) _).alloc (by simp;omega) _
 obtain⟨w1,gj⟩:∃x,((w.alloc (.cells #[.bool ra.neg,.slice A n c,.slice A2 n2 c2] 28)).alloc (.cells #[.bool rb.neg,.slice A3 n3 c3,.slice A4 n4 c4] 28)).alloc (.cells #[.bool false,.slice none 0 0,.slice none 0 0] 28)=x:=⟨_,rfl⟩;have nJ:w1.heap.size=w.heap.size+3:=by rw[←gj];simp
 have PF:dE w1 w.heap.size 28 #[.bool ra.neg,.slice A n c,.slice A2 n2 c2]:=by rw[←gj];exact((dE.new _ _ _).alloc _).alloc _
 have ui:dE w1 (w.heap.size+1) 28 #[.bool rb.neg,.slice A3 n3 c3,.slice A4 n4 c4]:=by rw[←gj];exact(dE.new' (by simp) _ _).alloc _
 have eX:dE w1 (w.heap.size+2) 28 #[.bool false,.slice none 0 0,.slice none 0 0]:=by rw[←gj];exact dE.new' (by simp) _ _
 rw[gj] at gz;have HWA:=zH (ha.below gz hS);have HWB:=zH (hb.below gz iN);have oQ:=zH gj;have pf:=zH gz;have HK0:=zH PF;have V9:=zH ui;have RO:=zH eX;have Hk:=zH nJ;obtain⟨qa,hqa⟩:∃q,ra.q=q:=⟨_,rfl⟩;obtain⟨qb,Zv⟩:∃q,rb.q=q:=⟨_,rfl⟩;rw[hqa,Zv];have HQA:=zH hqa;have HQB:=zH Zv;clear ha hb h1 h2 h3 h4 gj gz PF ui eX nJ hqa Zv;go_enter Tryz.func137,Tryz.ntmps137;go_upto_region 1 with(fail);rw[oQ.out];obtain⟨d0,d1,d2,e0,e1,e2⟩:=HK0.out.facts3;obtain⟨d3,d4,d5,e3,e4,e5⟩:=V9.out.facts3;go_cut [8] (fun _ wx=>∃A5 n5 c5 A6 n6 c6 A7 n7 c7 A8 n8 c8,dE wx w.heap.size 28 #[.bool qa.neg,.slice A5 n5 c5,.slice A6 n6 c6]∧dE wx (w.heap.size+1) 28 #[.bool qb.neg,.slice A7 n7 c7,.slice A8 n8 c8]∧ dE wx (w.heap.size+1+1) 28 #[.bool false,.slice none 0 0,.slice none 0 0]∧RS wx (cW w1 wx) A5 n5 c5 (dm qa.n)∧RS wx (cW w1 wx) A6 n6 c6 (dm qa.d)∧RS wx (cW w1 wx) A7 n7 c7 (dm qb.n)∧RS wx (cW w1 wx) A8 n8 c8 (dm qb.d)∧Below w.heap.size w wx)
 case first=>
  have NA0:Calls Tryz.prog 74 #[.agg #[.bool ra.neg,.slice A n c,.slice A2 n2 c2]] w1.drew (iL w1 qa):=by
   rw[←HQA.out];exact xS (oj (w:=w1.drew) (r:=ra) HWA.out.drew (fun b hb=>Nat.lt_of_lt_of_le (hS b hb) pf.out.size) ⟨Nat.le_trans iQ.1 (by omega),Nat.le_trans iQ.2 (by omega)⟩)
  have NA1:Calls Tryz.prog 74 #[.agg #[.bool ra.neg,.slice A n c,.slice A2 n2 c2]] w1.drew.drew (iL w1 qa):=by
   rw[←HQA.out];exact uw (oj (w:=w1.drew.drew) (r:=ra) HWA.out.drew.drew (fun b hb=>Nat.lt_of_lt_of_le (hS b hb) pf.out.size) ⟨Nat.le_trans iQ.1 (by omega),Nat.le_trans iQ.2 (by omega)⟩)
  have NB:∀w2:World,Below w1.heap.size w1 w2→Calls Tryz.prog 74 #[.agg #[.bool rb.neg,.slice A3 n3 c3,.slice A4 n4 c4]] w2 (iL w2 qb):=fun w2 cj=>by
   rw[←HQB.out];exact oj (r:=rb) (HWB.out.below cj (fun b hb=>Nat.lt_of_lt_of_le (iN b hb) pf.out.size)) (fun b hb=>Nat.lt_of_lt_of_le (iN b hb) (Nat.le_trans pf.out.size cj.size)) ⟨Nat.le_trans lq.1 (by omega),Nat.le_trans lq.2 (by omega)⟩
  have am2:=zH NA0;have am1:=zH NA1;have Xy:=zH NB;clear NA0 NA1 NB;go_region_with (first
   | (go_at_call 74; (with_reducible first|refine am2.out.mono ?_|refine am1.out.mono ?_); rintro e w2 ⟨v,rfl,⟨cs,rfl,A5,n5,c5,A6,n6,c6,rfl,g5,g6⟩,cj⟩; obtain⟨d3,d4,d5,e3,e4,e5⟩:=(V9.out.keep cj).facts3; have am0:=zH (Xy.out w2 cj); have amZ:Hid (Calls Tryz.prog 74 #[.agg #[.bool rb.neg,.slice A3 n3 c3,.slice A4 n4 c4]] w2.drew (iL w2 qb)):=zH (xS (Xy.out w2.drew (below_drewN cj 1))); have amY:Hid (Calls Tryz.prog 74 #[.agg #[.bool rb.neg,.slice A3 n3 c3,.slice A4 n4 c4]] w2.drew.drew (iL w2 qb)):=zH (uw (Xy.out w2.drew.drew (below_drewN cj 2))); have G5:=zH g5; have G6:=zH g6; have HBA:=zH cj; clear g5 g6 cj)
   | (go_at_call 74; (with_reducible first|refine am0.out.mono ?_|refine amZ.out.mono ?_|refine amY.out.mono ?_); rintro e w3 ⟨v,rfl,⟨cs,rfl,A7,n7,c7,A8,n8,c8,rfl,g7,g8⟩,kP⟩; obtain⟨d0,d1,d2,e0,e1,e2⟩:=((HK0.out.keep HBA.out).keep kP).facts3; obtain⟨d3,d4,d5,e3,e4,e5⟩:=((V9.out.keep HBA.out).keep kP).facts3; have G7:=zH g7; have G8:=zH g8; have Hn:=zH kP; clear g7 g8 kP))
  all_goals go_wp2_with fail
  all_goals
   go_meet
   have b0:=(HK0.out.keep HBA.out).keep Hn.out;have b1:=(V9.out.keep HBA.out).keep Hn.out;have b2:=(RO.out.keep HBA.out).keep Hn.out;have s1:=Hk.out;have s2:=HBA.out.size;have s3:=Hn.out.size;have r5:RS w3 (cW w1 w3) A5 n5 c5 (dm qa.n):=(G5.out.below Hn.out (fun _ h=>h.2)).sub (xB s3);have r6:RS w3 (cW w1 w3) A6 n6 c6 (dm qa.d):=(G6.out.below Hn.out (fun _ h=>h.2)).sub (xB s3);have r7:RS w3 (cW w1 w3) A7 n7 c7 (dm qb.n):=G7.out.sub (ut s2);have r8:RS w3 (cW w1 w3) A8 n8 c8 (dm qb.d):=G8.out.sub (ut s2);have kk:aA (cW w1 w3) w3 (setAll (setAll w3 w.heap.size 0 [.bool qa.neg,.slice A5 n5 c5,.slice A6 n6 c6]) (w.heap.size+1) 0 [.bool qb.neg,.slice A7 n7 c7,.slice A8 n8 c8]):=
    ((aA.refl _ _).setAll (fun h=>by have:=h.1;omega) _ 0).setAll (fun h=>by have:=h.1;omega) _ 0
   have ff:∀b,cW w1 w3 b→cW w1 (setAll (setAll w3 w.heap.size 0 [.bool qa.neg,.slice A5 n5 c5,.slice A6 n6 c6]) (w.heap.size+1) 0 [.bool qb.neg,.slice A7 n7 c7,.slice A8 n8 c8]) b:=fun b hb=>⟨hb.1,by rw[kT,kT];exact hb.2⟩;have k0:dE (setAll (setAll w3 w.heap.size 0 [.bool qa.neg,.slice A5 n5 c5,.slice A6 n6 c6]) (w.heap.size+1) 0 [.bool qb.neg,.slice A7 n7 c7,.slice A8 n8 c8]) w.heap.size 28 #[.bool qa.neg,.slice A5 n5 c5,.slice A6 n6 c6]:=
    dE.farAll (dE.setAll [.bool qa.neg,.slice A5 n5 c5,.slice A6 n6 c6] b0 rfl) (by omega) _ 0
   have k1:dE (setAll (setAll w3 w.heap.size 0 [.bool qa.neg,.slice A5 n5 c5,.slice A6 n6 c6]) (w.heap.size+1) 0 [.bool qb.neg,.slice A7 n7 c7,.slice A8 n8 c8]) (w.heap.size+1) 28 #[.bool qb.neg,.slice A7 n7 c7,.slice A8 n8 c8]:=
    dE.setAll [.bool qb.neg,.slice A7 n7 c7,.slice A8 n8 c8] (dE.farAll b1 (by omega) _ 0) rfl
   have k2:dE (setAll (setAll w3 w.heap.size 0 [.bool qa.neg,.slice A5 n5 c5,.slice A6 n6 c6]) (w.heap.size+1) 0 [.bool qb.neg,.slice A7 n7 c7,.slice A8 n8 c8]) (w.heap.size+1+1) 28 #[.bool false,.slice none 0 0,.slice none 0 0]:=
    dE.farAll (dE.farAll b2 (by omega) _ 0) (by omega) _ 0
   have k3:Below w.heap.size w (setAll (setAll w3 w.heap.size 0 [.bool qa.neg,.slice A5 n5 c5,.slice A6 n6 c6]) (w.heap.size+1) 0 [.bool qb.neg,.slice A7 n7 c7,.slice A8 n8 c8]):=
    kj (kj (ak (ak pf.out HBA.out) Hn.out) (Nat.le_refl _) _ 0) (Nat.le_succ _) _ 0
   exact⟨A5,n5,c5,A6,n6,c6,A7,n7,c7,A8,n8,c8,k0,k1,k2,r5.keep ff kk,r6.keep ff kk,r7.keep ff kk,r8.keep ff kk,k3⟩
 case rest=>
  obtain⟨A5,n5,c5,A6,n6,c6,A7,n7,c7,A8,n8,c8,b0,b1,b2,r5,r6,r7,r8,Xa⟩:=hcut;have R5:=zH r5;have R6:=zH r6;have R7:=zH r7;have R8:=zH r8;have l5:=(mR iQ (by omega)).1;have l6:=(mR iQ (by omega)).2;have l7:=(mR lq (by omega)).1;have l8:=(mR lq (by omega)).2;rw[HQA.out,r5.len] at l5;rw[HQA.out,r6.len] at l6;rw[HQB.out,r7.len] at l7;rw[HQB.out,r8.len] at l8;have HX:=zH (ot (Nat.le_of_eq r5.len) (Nat.le_of_eq r8.len));have HY:=zH (ot (Nat.le_of_eq r7.len) (Nat.le_of_eq r6.len));have hH:∀w',Up wc w'→Up wc w'∧w'.cell? ⟨w.heap.size,0,none⟩=some (.bool qa.neg)∧w'.cell? ⟨w.heap.size,1,none⟩=some (.slice A5 n5 c5)∧w'.cell? ⟨w.heap.size,2,none⟩=some (.slice A6 n6 c6)∧ w'.cell? ⟨w.heap.size+1,0,none⟩=some (.bool qb.neg)∧w'.cell? ⟨w.heap.size+1,1,none⟩=some (.slice A7 n7 c7)∧w'.cell? ⟨w.heap.size+1,2,none⟩=some (.slice A8 n8 c8):=
   fun w' hu=>⟨hu,(b0.keep hu).cell 0,(b0.keep hu).cell 1,(b0.keep hu).cell 2,(b1.keep hu).cell 0,(b1.keep hu).cell 1,(b1.keep hu).cell 2⟩
  have HH:=zH hH;have B0:=zH b0;have B1:=zH b1;have B2:=zH b2;have HBX:=zH Xa;have m1:∀w',Up wc w'→Calls Tryz.prog 167 #[.slice A5 n5 c5,.slice A8 n8 c8] w' (jR w' 98 (dm (qa.n*qb.d))):=fun w' hu=>by
   have:=Bm (R5.out.below hu.out (fun _ h=>h.2)) (R8.out.below hu.out (fun _ h=>h.2)) (fun b h=>Nat.lt_of_lt_of_le h.2 hu.out.size) (fun b h=>Nat.lt_of_lt_of_le h.2 hu.out.size) (by omega) (by omega)
   rwa [bF,bF] at this
  have m2:∀w',Up wc w'→Calls Tryz.prog 167 #[.slice A7 n7 c7,.slice A6 n6 c6] w' (jR w' 98 (dm (qb.n*qa.d))):=fun w' hu=>by
   have:=Bm (R7.out.below hu.out (fun _ h=>h.2)) (R6.out.below hu.out (fun _ h=>h.2)) (fun b h=>Nat.lt_of_lt_of_le h.2 hu.out.size) (fun b h=>Nat.lt_of_lt_of_le h.2 hu.out.size) (by omega) (by omega)
   rwa [bF,bF] at this
  have m3:∀w',Up wc w'→Calls Tryz.prog 167 #[.slice A6 n6 c6,.slice A8 n8 c8] w' (jR w' 98 (dm (qa.d*qb.d))):=fun w' hu=>by
   have:=Bm (R6.out.below hu.out (fun _ h=>h.2)) (R8.out.below hu.out (fun _ h=>h.2)) (fun b h=>Nat.lt_of_lt_of_le h.2 hu.out.size) (fun b h=>Nat.lt_of_lt_of_le h.2 hu.out.size) (by omega) (by omega)
   rwa [bF,bF] at this
  have HD:=zH (ot (Nat.le_of_eq R6.out.len) (Nat.le_of_eq R8.out.len));obtain⟨s1,nJ⟩:∃s,p9 qa.neg (qa.n*qb.d) qb.neg (qb.n*qa.d)=s:=⟨_,rfl⟩;have fU:(dm s1.2).length≤268435457:=by
   rw[←nJ];exact M9 (Nat.le_trans HX.out (by omega)) (Nat.le_trans HY.out (by omega))
  have nO:xZ qa qb=ez s1.1 s1.2 (qa.d*qb.d):=by unfold xZ;rw[nJ]
  have m4:∀(w':World) (S9 S0:Nat→Prop) (A9 A0:Option Addr) (n9 c9 n0 c0:Nat),n9=(dm (qa.n*qb.d)).length→n0=(dm (qb.n*qa.d)).length→RS w' S9 A9 n9 c9 (dm (qa.n*qb.d))→RS w' S0 A0 n0 c0 (dm (qb.n*qa.d))→(∀b,S9 b→b<w'.heap.size)→(∀b,S0 b→b<w'.heap.size)→ Calls Tryz.prog 166 #[.bool qa.neg,.slice A9 n9 c9,.bool qb.neg,.slice A0 n0 c0] w' (RE w' s1):=fun w' S9 S0 A9 A0 n9 c9 n0 c0 e9 e0 h9 h0 hS9 hS0=>by
   have:=XK qa.neg qb.neg h9 h0 hS9 hS0 (by have:=HX.out;omega) (by have:=HY.out;omega)
   rwa [bF,bF,nJ] at this
  have M1:=zH m1;have M2:=zH m2;have M3:=zH m3;have M4:=zH m4;have HSL:=zH fU;have anf:=zH nO;clear r5 r6 r7 r8 hH b0 b1 b2 Xa d0 d1 d2 e0 e1 e2 d3 d4 d5 e3 e4 e5 m1 m2 m3 m4 nJ fU nO;go_upto_region 2 with(fail);go_region_held3 (fun w'=>Up wc w'∧w'.cell? ⟨w.heap.size,0,none⟩=some (.bool qa.neg)∧w'.cell? ⟨w.heap.size,1,none⟩=some (.slice A5 n5 c5)∧w'.cell? ⟨w.heap.size,2,none⟩=some (.slice A6 n6 c6)∧ w'.cell? ⟨w.heap.size+1,0,none⟩=some (.bool qb.neg)∧w'.cell? ⟨w.heap.size+1,1,none⟩=some (.slice A7 n7 c7)∧w'.cell? ⟨w.heap.size+1,2,none⟩=some (.slice A8 n8 c8))
   (first|assumption|exact HH.out _ (Up.start wc)|exact HH.out _ (Up.more (‹Up wc _∧_›).1 ‹Below _ _ _›))
   (first
    | (go_at_call 167; (with_reducible refine(M1.out _ (‹Up wc _∧_›).1).mono ?_); rintro e w5 h9; obtain⟨A9,n9,c9,rfl,hn9,hr9,hb9⟩:=h9.slice; obtain⟨S9,aed,hS9⟩:∃S9:Nat→Prop,RS w5 S9 A9 n9 c9 (dm (qa.n*qb.d))∧∀b,S9 b→b<w5.heap.size:=⟨_,hr9,fun b h=>h.2⟩; have HR9:=zH aed; have HS9:=zH hS9; have HN9:=zH hn9; clear h9 hr9 hn9 aed hS9)
    | (go_at_call 167; (with_reducible refine(M2.out _ (‹Up wc _∧_›).1).mono ?_); rintro e w6 h9; obtain⟨A0,n0,c0,rfl,hn0,zQ,hb0⟩:=h9.slice; obtain⟨S0,aei,hS0⟩:∃S0:Nat→Prop,RS w6 S0 A0 n0 c0 (dm (qb.n*qa.d))∧∀b,S0 b→b<w6.heap.size:=⟨_,zQ,fun b h=>h.2⟩; have HR0:=zH aei; have HS0:=zH hS0; have HN0:=zH hn0; have amJ:=zH (HR9.out.below hb0 HS9.out); have HF9:Hid (∀b,S9 b→b<w6.heap.size):=zH (fun b h=>Nat.lt_of_lt_of_le (HS9.out b h) hb0.size); clear h9 zQ hn0 aei hS0)
    | (go_at_call 166; (with_reducible refine(M4.out _ _ _ _ _ _ _ _ _ HN9.out HN0.out amJ.out HR0.out HF9.out HS0.out).mono ?_); rintro e w7 ⟨A1,n1,c1,rfl,hn1,WP,cI⟩; have HR1:=zH WP; have HN1:=zH hn1; clear WP hn1))
  all_goals
   have hu:Up wc w7:=(‹Up wc w7∧_›).1;have HU:=zH hu;obtain⟨S1,aeg,hS1⟩:∃S1:Nat→Prop,RS w7 S1 A1 n1 c1 (dm s1.2)∧∀b,S1 b→b<w7.heap.size:=⟨_,HR1.out,fun b h=>h.2⟩;have amM:=zH aeg;have af3:=zH hS1;have BB2:=zH (B2.out.keep hu);have BX7:=zH (ak HBX.out hu.out);have ar2:n1≤268435457:=by have:=HN1.out;have:=HSL.out;omega
   clear aeg hS1 hu;go_wp2_with fail;refine(M3.out _ HU.out).mono ?_;rintro e w8 h;obtain⟨A2',n2',c2',rfl,akf,aef,Xb⟩:=h.slice;have ar1:n2'≤268435457:=by have:=HD.out;omega
   have af5:=zH (amM.out.below Xb af3.out);have af2:Hid (∀b,S1 b→b<w8.heap.size):=zH (fun b h=>Nat.lt_of_lt_of_le (af3.out b h) Xb.size);have amL:=zH aef;have BB3:=zH (BB2.out.keep Xb);have BX8:=zH (ak BX7.out Xb);clear h akf aef Xb;go_wp2_with fail;refine(Bp s1.1 af5.out amL.out af2.out (fun b h=>h.2) (by omega) (by omega)).mono ?_;rintro e w9 ⟨v,rfl,⟨cs,rfl,hr⟩,hb⟩;have j3:=hr;obtain⟨A5',n5',c5',A6',n6',c6',rfl,_,_⟩:=j3;rw[bF,bF,←anf.out] at hr ⊢;obtain⟨c0,c1,c2,f0,f1,f2⟩:=(BB3.out.keep hb).facts3;have HK4:=zH (BB3.out.keep hb);have yi:=zH (ak BX8.out hb);have pe:=zH hr;obtain⟨q,hq⟩:∃q,xZ qa qb=q:=⟨_,rfl⟩;rw[hq] at pe ⊢;have HQ:=zH hq;have jN:=BB3.out.lt;clear hr hb hq;go_wp2_with fail;refine gC (x:=q) (S:=cW w8 w9) (cs:=[.bool q.neg,.slice A5' n5' c5',.slice A6' n6' c6']) rfl rfl (by omega) HK4.out rfl Tryz.underlying28 rfl (by kernel_rfl) pe.out (fun b hb=>?_) yi.out rfl (by rw[←HQ.out];exact id);have h1:=hb.1;exact⟨⟨by omega,hb.2⟩,by omega⟩
theorem SP {S S2:Nat→Prop} {va vb:Value} {ra rb:Raw} {w:World} (ha:SV w S va ra) (hb:SV w S2 vb rb) (hS:∀b,S b→b<w.heap.size) (iN:∀b,S2 b→b<w.heap.size) (iQ:ra.short 67108864) (lq:rb.short 67108864) : Calls Tryz.prog 106 #[va,vb] w (iL w (xZ ra.q rb.flip.q)):=by
 obtain⟨A,n,c,A2,n2,c2,rfl,h1,h2⟩:=ha.raw_cases;obtain⟨A3,n3,c3,A4,n4,c4,rfl,h3,h4⟩:=hb.raw_cases;have gz:Below w.heap.size w (((w.alloc (.cells #[.bool ra.neg,.slice A n c,.slice A2 n2 c2] 28)).alloc (.cells #[.bool (!rb.neg),.slice A3 n3 c3,.slice A4 n4 c4] 28)).alloc (.cells #[.bool false,.slice none 0 0,.slice none 0 0] 28)):=
  (((Below.refl _ _).alloc (Nat.le_refl _) _).alloc (by simp) _).alloc (by simp;omega) _
 obtain⟨w1,gj⟩:∃x,((w.alloc (.cells #[.bool ra.neg,.slice A n c,.slice A2 n2 c2] 28)).alloc (.cells #[.bool (!rb.neg),.slice A3 n3 c3,.slice A4 n4 c4] 28)).alloc (.cells #[.bool false,.slice none 0 0,.slice none 0 0] 28)=x:=⟨_,rfl⟩;have nJ:w1.heap.size=w.heap.size+3:=by rw[←gj];simp
 have eX:dE w1 (w.heap.size+1+1) 28 #[.bool false,.slice none 0 0,.slice none 0 0]:=by rw[←gj];exact dE.new' (by simp) _ _
 rw[gj] at gz;have zR:SV w1 S2 (.agg #[.bool (!rb.neg),.slice A3 n3 c3,.slice A4 n4 c4]) rb.flip:=⟨_,rfl,A3,n3,c3,A4,n4,c4,rfl,h3.below gz iN,h4.below gz iN⟩;have HWA:=zH (ha.below gz hS);have HWB:=zH zR;have oQ:=zH gj;have pf:=zH gz;have RO:=zH eX;have Hk:=zH nJ;obtain⟨q,hq⟩:∃q,xZ ra.q rb.flip.q=q:=⟨_,rfl⟩;rw[hq];have HQ:=zH hq;clear ha hb h1 h2 h3 h4 gj gz eX nJ hq zR;go_enter Tryz.func106,Tryz.ntmps106;go_wp2_with fail;rw[oQ.out];refine(VS HWA.out HWB.out (fun b hb=>Nat.lt_of_lt_of_le (hS b hb) pf.out.size) (fun b hb=>Nat.lt_of_lt_of_le (iN b hb) pf.out.size) iQ lq).mono ?_;rintro e w2 ⟨v,rfl,⟨cs,rfl,hr⟩,hb⟩;have j3:=hr;obtain⟨A5,n5,c5,A6,n6,c6,rfl,_,_⟩:=j3;obtain⟨c0,c1,c2',f0,f1,f2⟩:=(RO.out.keep hb).facts3;have HK:=zH (RO.out.keep hb);have fe:=zH (ak pf.out hb);rw[HQ.out] at hr ⊢;have HR:=zH hr;clear hr hb;go_wp2_with fail;refine gC (x:=q) (S:=cW w1 w2) (cs:=[.bool q.neg,.slice A5 n5 c5,.slice A6 n6 c6]) rfl rfl (by omega) HK.out rfl Tryz.underlying28 rfl (by kernel_rfl) HR.out (fun b hb=>?_) fe.out rfl id;have h1:=hb.1;rw[Hk.out] at h1;exact⟨⟨by omega,hb.2⟩,by omega⟩
theorem Bt {n:Nat}:(dm n).length=0↔n=0:=by rw[List.length_eq_zero_iff,gI]
theorem Vy {S S2:Nat→Prop} {va vb:Value} {ra rb:Raw} {w:World} (ha:SV w S va ra) (hb:SV w S2 vb rb) (hS:∀b,S b→b<w.heap.size) (iN:∀b,S2 b→b<w.heap.size) (iQ:ra.short 67108864) (lq:rb.short 67108864) : Calls Tryz.prog 81 #[va,vb] w (jQ w (.int .i64 (oI ra.q rb.flip.q))):=by
 obtain⟨A,n,c,A2,n2,c2,rfl,h1,h2⟩:=ha.raw_cases;obtain⟨A3,n3,c3,A4,n4,c4,rfl,h3,h4⟩:=hb.raw_cases;have gz:Below w.heap.size w ((w.alloc (.cells #[.bool ra.neg,.slice A n c,.slice A2 n2 c2] 28)).alloc (.cells #[.bool rb.neg,.slice A3 n3 c3,.slice A4 n4 c4] 28)):=
  ((Below.refl _ _).alloc (Nat.le_refl _) _).alloc (by simp) _
 obtain⟨w1,gj⟩:∃x,(w.alloc (.cells #[.bool ra.neg,.slice A n c,.slice A2 n2 c2] 28)).alloc (.cells #[.bool rb.neg,.slice A3 n3 c3,.slice A4 n4 c4] 28)=x:=⟨_,rfl⟩;rw[gj] at gz;have HWA:=zH (ha.below gz hS);have HWB:=zH (hb.below gz iN);have oQ:=zH gj;have pf:=zH gz;obtain⟨q,hq⟩:∃q,xZ ra.q rb.flip.q=q:=⟨_,rfl⟩;have hc:oI ra.q rb.flip.q=if q.neg then -1 else if q.n=0 then 0 else 1:=by unfold oI;rw[hq]
 obtain⟨z,hz⟩:∃z,oI ra.q rb.flip.q=z:=⟨_,rfl⟩;rw[hz] at hc ⊢;have HC:=zH hc;have HQ:=zH hq;clear ha hb h1 h2 h3 h4 gj gz hq hc hz;go_enter Tryz.func81,Tryz.ntmps81;go_wp2_with fail;rw[oQ.out];refine(SP HWA.out HWB.out (fun b hb=>Nat.lt_of_lt_of_le (hS b hb) pf.out.size) (fun b hb=>Nat.lt_of_lt_of_le (iN b hb) pf.out.size) iQ lq).mono ?_;rintro e w2 ⟨v,rfl,⟨cs,rfl,A5,n5,c5,A6,n6,c6,rfl,h5,h6⟩,hb⟩;rw[HQ.out] at h5 h6 ⊢;have fe:=zH (ak pf.out hb);have hn5:=h5.len;have h0:=Bt (n:=q.n);rw[hn5] at h0;have H0:=zH h0;have hm:=h5.max;clear h5 h6 hb hn5 h0 HQ;obtain⟨Yo,qn,qd⟩:=q;cases Yo with
 | true=>
  go_wp2_with fail;go_ret
  exact⟨by rw[HC.out];rfl,fe.out.alloc fe.out.size _⟩
 | false=>
  by_cases hz:n5=0
  ·have Pq:qn=0:=H0.out.1 hz;subst hz;subst Pq;go_wp2_with fail;go_ret
   exact⟨by rw[HC.out];rfl,fe.out.alloc fe.out.size _⟩
  ·have hb0:((n5:Int)==0)=false:=by rw[beq_eq_false_iff_ne];omega
   have Pq:qn≠0:=fun e=>hz (H0.out.2 e);have HQ0:=zH Pq;clear Pq hz;go_wp2_with fail;go_ret
   exact⟨by rw[HC.out];simp[HQ0.out],fe.out.alloc fe.out.size _⟩
theorem J5 {S:Nat→Prop} {v:Value} {r:Raw} {w:World} (h:SV w S v r) (hS:∀b,S b→b<w.heap.size) (hl:r.short 536870912) : Calls Tryz.prog 43 #[v] w (jQ w (.bool r.valid)):=by
 obtain⟨A,n,c,A2,n2,c2,rfl,h1,h2⟩:=h.raw_cases;have gz:Below w.heap.size w (w.alloc (.cells #[.bool r.neg,.slice A n c,.slice A2 n2 c2] 28)):=(Below.refl _ _).alloc (Nat.le_refl _) _;have xn:dE (w.alloc (.cells #[.bool r.neg,.slice A n c,.slice A2 n2 c2] 28)) w.heap.size 28 #[.bool r.neg,.slice A n c,.slice A2 n2 c2]:=dE.new _ _ _;obtain⟨w1,gj⟩:∃x,w.alloc (.cells #[.bool r.neg,.slice A n c,.slice A2 n2 c2] 28)=x:=⟨_,rfl⟩;rw[gj] at gz xn;have HV:=zH (h.below gz hS);have oQ:=zH gj;have pf:=zH gz;have V7:=zH xn;have H1:=zH (h1.below gz hS);have H2:=zH (h2.below gz hS);obtain⟨q,hq⟩:∃q,r.q=q:=⟨_,rfl⟩;obtain⟨z,hz⟩:∃z,r.valid=z:=⟨_,rfl⟩;have fM:z=(r.neg==q.neg&&(decide (r.num=dm q.n)&&decide (r.den=dm q.d))):=by rw[←hz,←hq];rfl
 rw[hz];obtain⟨neg,num,den⟩:=r;have HQ:=zH hq;have HZ:=zH fM;clear h h1 h2 gj gz xn hq hz fM;go_enter Tryz.func43,Tryz.ntmps43;go_wp2_with fail;rw[oQ.out];refine(oj HV.out (fun b hb=>Nat.lt_of_lt_of_le (hS b hb) pf.out.size) hl).mono ?_;rintro e w2 ⟨v,rfl,⟨cs,rfl,A5,n5,c5,A6,n6,c6,rfl,h5,h6⟩,hb⟩;rw[HQ.out] at h5 h6 ⊢;obtain⟨d0,d1,d2,_,_,_⟩:=((V7.out.keep hb).alloc (.cells #[.bool q.neg,.slice A5 n5 c5,.slice A6 n6 c6] 28)).facts3;have cj:Below w.heap.size w (w2.alloc (.cells #[.bool q.neg,.slice A5 n5 c5,.slice A6 n6 c6] 28)):=(ak pf.out hb).alloc (ak pf.out hb).size _;have hn1:RS (w2.alloc (.cells #[.bool q.neg,.slice A5 n5 c5,.slice A6 n6 c6] 28)) S A n c num:=(H1.out.below hb (fun b hb=>Nat.lt_of_lt_of_le (hS b hb) pf.out.size)).below ((Below.refl _ _).alloc (Nat.le_refl _) _) (fun b h=>Nat.lt_of_lt_of_le (hS b h) (ak pf.out hb).size);have hn2:RS (w2.alloc (.cells #[.bool q.neg,.slice A5 n5 c5,.slice A6 n6 c6] 28)) S A2 n2 c2 den:=(H2.out.below hb (fun b hb=>Nat.lt_of_lt_of_le (hS b hb) pf.out.size)).below ((Below.refl _ _).alloc (Nat.le_refl _) _) (fun b h=>Nat.lt_of_lt_of_le (hS b h) (ak pf.out hb).size);have hn5:RS (w2.alloc (.cells #[.bool q.neg,.slice A5 n5 c5,.slice A6 n6 c6] 28)) (cW w1 w2) A5 n5 c5 (dm q.n):=h5.below ((Below.refl _ _).alloc (Nat.le_refl _) _) (fun b h=>h.2);have hn6:RS (w2.alloc (.cells #[.bool q.neg,.slice A5 n5 c5,.slice A6 n6 c6] 28)) (cW w1 w2) A6 n6 c6 (dm q.d):=h6.below ((Below.refl _ _).alloc (Nat.le_refl _) _) (fun b h=>h.2);have N1:=zH hn1;have N2:=zH hn2;have N5:=zH hn5;have N6:=zH hn6;have B2:=zH cj;clear h5 h6 hb cj hn1 hn2 hn5 hn6;by_cases he:neg=q.neg
 ·have zU:(neg==q.neg)=true:=by simpa using he
  have he2:(!neg==!q.neg)=true:=by simpa using he
  go_wp2_with fail;refine(z8 N1.out N5.out).mono ?_;rintro e w' ⟨rfl,m,rfl⟩;by_cases hx:num=dm q.n
  ·rw[decide_eq_true hx];go_wp2_with fail;refine(z8 (N2.out.drewN m) (N6.out.drewN m)).mono ?_;rintro e w' ⟨rfl,m2,rfl⟩;obtain⟨y,hy⟩:∃y,decide (den=dm q.d)=y:=⟨_,rfl⟩;have hzy:z=y:=by rw[HZ.out,decide_eq_true hx,hy];simp[he]
   rw[hy,←hzy];clear hy hzy hx;go_wp2_with fail;go_ret
   exact⟨rfl,below_drewN B2.out _⟩
  ·have bm:z=false:=by rw[HZ.out,decide_eq_false hx];simp
   rw[decide_eq_false hx];have dS:=zH bm;clear hx bm;go_wp2_with fail;go_ret
   exact⟨by rw[dS.out];rfl,below_drewN B2.out _⟩
 ·have zU:(neg==q.neg)=false:=by simpa using he
  have bm:z=false:=by rw[HZ.out];simp[he]
  have dS:=zH bm;clear bm he;go_wp2_with fail;go_ret
  exact⟨by rw[dS.out];rfl,B2.out⟩
theorem qe {y:ByteArray} {l:List UInt8} (h:y≠⟨l.toArray⟩):(y.toList==l)=false:=by
 rw[ByteArray.toList_eq];rw[beq_eq_false_iff_ne];intro e;apply h;apply ByteArray.ext;rw[←e]
theorem gl (a b:List UInt8):((⟨a.toArray⟩:ByteArray)++⟨b.toArray⟩)=⟨(a++b).toArray⟩:=by
 apply ByteArray.ext;rw[ByteArray.data_append];simp
theorem M5 {S:Nat→Prop} {v:Value} {r:Raw} {w:World} (h:SV w S v r) (hS:∀b,S b→b<w.heap.size) (hl:r.short 67108864) : Calls Tryz.prog 73 #[v] w (jQ w (.string ⟨(iE r.q).toArray⟩)):=by
 obtain⟨A,n,c,A2,n2,c2,rfl,h1,h2⟩:=h.raw_cases;have gz:Below w.heap.size w (w.alloc (.cells #[.bool r.neg,.slice A n c,.slice A2 n2 c2] 28)):=(Below.refl _ _).alloc (Nat.le_refl _) _;have xn:dE (w.alloc (.cells #[.bool r.neg,.slice A n c,.slice A2 n2 c2] 28)) w.heap.size 28 #[.bool r.neg,.slice A n c,.slice A2 n2 c2]:=dE.new _ _ _;obtain⟨w1,gj⟩:∃x,w.alloc (.cells #[.bool r.neg,.slice A n c,.slice A2 n2 c2] 28)=x:=⟨_,rfl⟩;rw[gj] at gz xn;have nJ:w1.heap.size=w.heap.size+1:=by rw[←gj];simp
 have HV:=zH (h.below gz hS);have oQ:=zH gj;have pf:=zH gz;have V7:=zH xn;have Hk:=zH nJ;have Si:=(mR hl (by omega)).1;have Cs:=(mR hl (by omega)).2;obtain⟨q,hq⟩:∃q,r.q=q:=⟨_,rfl⟩;rw[hq] at Si Cs;rw[hq];obtain⟨neg,num,den⟩:=r;have HQ:=zH hq;have HQ1:=zH Si;have HQ2:=zH Cs;obtain⟨T,hT⟩:∃T:ByteArray,⟨(iE q).toArray⟩=T:=⟨_,rfl⟩;rw[hT];have HT:=zH hT;clear h h1 h2 gj gz xn hq Si Cs nJ hT;go_enter Tryz.func73,Tryz.ntmps73;go_wp2_with fail;rw[oQ.out];refine(oj HV.out (fun b hb=>Nat.lt_of_lt_of_le (hS b hb) pf.out.size) ⟨Nat.le_trans hl.1 (by omega),Nat.le_trans hl.2 (by omega)⟩).mono ?_;rintro e w2 ⟨v,rfl,⟨cs,rfl,A5,n5,c5,A6,n6,c6,rfl,h5,h6⟩,hb⟩;rw[HQ.out] at h5 h6 ⊢;obtain⟨c0,c1,c2',f0,f1,f2⟩:=(V7.out.keep hb).facts3;have b3:Below w.heap.size w (setAll w2 w.heap.size 0 [.bool q.neg,.slice A5 n5 c5,.slice A6 n6 c6]):=kj (ak pf.out hb) (Nat.le_refl _) _ 0;have k3:dE (setAll w2 w.heap.size 0 [.bool q.neg,.slice A5 n5 c5,.slice A6 n6 c6]) w.heap.size 28 #[.bool q.neg,.slice A5 n5 c5,.slice A6 n6 c6]:=(V7.out.keep hb).setAll [.bool q.neg,.slice A5 n5 c5,.slice A6 n6 c6] rfl;have kp:aA (cW w1 w2) w2 (setAll w2 w.heap.size 0 [.bool q.neg,.slice A5 n5 c5,.slice A6 n6 c6]):=(aA.refl _ _).setAll (fun h=>by have:=h.1;have:=Hk.out;omega) _ 0;have r5:=h5.keep (fun _ h=>h) kp;have r6:=h6.keep (fun _ h=>h) kp;have z3:(setAll w2 w.heap.size 0 [.bool q.neg,.slice A5 n5 c5,.slice A6 n6 c6]).heap.size=w2.heap.size:=kT _ _ _;obtain⟨w3,hw3⟩:∃x,setAll w2 w.heap.size 0 [.bool q.neg,.slice A5 n5 c5,.slice A6 n6 c6]=x:=⟨_,rfl⟩;rw[hw3] at b3 k3 r5 r6 z3;have hl5:n5≤67108864:=by have:=HQ1.out;have:=r5.len;omega
 have hl6:n6≤67108864:=by have:=HQ2.out;have:=r6.len;omega
 have HW3:Hid (((w2.setCell ⟨w.heap.size,0,none⟩ (.bool q.neg)).setCell ⟨w.heap.size,1,none⟩ (.slice A5 n5 c5)).setCell ⟨w.heap.size,2,none⟩ (.slice A6 n6 c6)=w3):=zH hw3;have B3:=zH b3;have K3:=zH k3;have R5:=zH r5;have R6:=zH r6;have Z3:=zH z3;clear h5 h6 hb b3 k3 kp r5 r6 hw3 z3;go_wp2_with fail;rw[HW3.out];have t5:=HJ R5.out (fun b h=>by rw[Z3.out];exact h.2) (by omega);rw[bF] at t5;obtain⟨x,hx⟩:∃x:ByteArray,⟨(bI q.n).toArray⟩=x:=⟨_,rfl⟩;rw[hx] at t5;have Pf:x.size≤1000000000:=by
  have:=lx HQ1.out;rw[←hx];show(bI q.n).toArray.size≤_;rw[List.size_toArray];omega
 have HX:=zH hx;have T5:=zH t5;clear hx t5;refine T5.out.mono ?_;rintro e w4 ⟨rfl,j6⟩;obtain⟨d0,d1,d2,_,_,_⟩:=(K3.out.keep j6).facts3;have R64:=zH (R6.out.below j6 (fun b h=>by rw[Z3.out];exact h.2));have hz4:=j6.size;have t6:=HJ R64.out (fun b h=>Nat.lt_of_lt_of_le h.2 (by rw[←Z3.out];exact hz4)) (by omega);rw[bF] at t6;obtain⟨y,hy⟩:∃y:ByteArray,⟨(bI q.d).toArray⟩=y:=⟨_,rfl⟩;rw[hy] at t6;have hys:y.size≤1000000000:=by
  have:=lx HQ2.out;rw[←hy];show(bI q.d).toArray.size≤_;rw[List.size_toArray];omega
 have HY:=zH hy;have T6:=zH t6;have B4:=zH (ak B3.out j6);clear hy t6 j6 hz4;have WO:(y=⟨#[49]⟩)↔bI q.d=[49]:=by
  rw[←HY.out];constructor
  ·intro e;have:=congrArg (fun b=>b.data.toList) e;simpa using this
  ·intro e;rw[e]
 have HY1:=zH WO;clear WO;obtain⟨Yo,qn,qd⟩:=q;cases Yo with
 | true=>
  go_wp2_with fail;refine T6.out.mono ?_;rintro e w5 ⟨rfl,Ct⟩;have B5:=zH (ak B4.out Ct);clear Ct;by_cases h1:y=⟨#[49]⟩
  ·have hT:(⟨#[45]⟩:ByteArray)++x=T:=by
    rw[←HT.out,←HX.out];unfold iE;rw[if_pos rfl,if_pos (HY1.out.1 h1),List.append_nil];exact gl [45] _
   have Fs:=zH hT;clear hT;go_wp2_with fail;go_ret
   exact⟨congrArg (fun t=>Ending.returned (.string t)) Fs.out,B5.out⟩
  ·have fI:(y.toList==[49])=false:=qe h1;have hT:(⟨#[45]⟩:ByteArray)++x++(⟨#[47]⟩++y)=T:=by
    rw[←HT.out,←HX.out,←HY.out];unfold iE;rw[if_pos rfl,if_neg (fun e=>h1 (HY1.out.2 e))];exact(congr (congrArg HAppend.hAppend (gl [45] _)) (gl [47] _)).trans (gl _ _)
   have Fs:=zH hT;clear hT h1;have arq:((⟨#[45]⟩:ByteArray)++x).size≤1000000001:=by rw[ByteArray.size_append];show 1+_≤_;omega
   have arn:((⟨#[47]⟩:ByteArray)++y).size≤1000000001:=by rw[ByteArray.size_append];show 1+_≤_;omega
   go_wp2_with fail;go_ret
   exact⟨congrArg (fun t=>Ending.returned (.string t)) Fs.out,B5.out⟩
 | false=>
  go_wp2_with fail;refine T6.out.mono ?_;rintro e w5 ⟨rfl,Ct⟩;have B5:=zH (ak B4.out Ct);clear Ct;by_cases h1:y=⟨#[49]⟩
  ·have hT:x=T:=by
    rw[←HT.out,←HX.out];unfold iE;rw[if_neg (by simp),if_pos (HY1.out.1 h1),List.append_nil,List.nil_append]
   have Fs:=zH hT;clear hT;go_wp2_with fail;go_ret
   exact⟨congrArg (fun t=>Ending.returned (.string t)) Fs.out,B5.out⟩
  ·have fI:(y.toList==[49])=false:=qe h1;have hT:x++((⟨#[47]⟩:ByteArray)++y)=T:=by
    rw[←HT.out,←HX.out,←HY.out];unfold iE;rw[if_neg (by simp),if_neg (fun e=>h1 (HY1.out.2 e)),List.nil_append];exact(congrArg _ (gl [47] _)).trans (gl _ _)
   have Fs:=zH hT;clear hT h1;go_wp2_with fail;go_ret
   exact⟨congrArg (fun t=>Ending.returned (.string t)) Fs.out,B5.out⟩
theorem gL {a b:Bool} (h:a=true↔b=true):Ending.returned (.bool a)=.returned (.bool b):=by rw[Bool.eq_iff_iff.2 h]
theorem zw (c:UInt8) (w:World):Calls Tryz.prog 173 #[.int .u8 (c.toNat:Int)] w (gU w (.bool (gw c))):=by
 have hc:=c.toNat_lt;obtain⟨n,hn⟩:∃n,c.toNat=n:=⟨_,rfl⟩;unfold gw;rw[hn] at hc ⊢;go_enter Tryz.func173,Tryz.ntmps173;go_wp2_with fail
 all_goals
  go_ret
  exact⟨gL (by simp;omega),rfl⟩
theorem Et (c:UInt8) (w:World):Calls Tryz.prog 176 #[.int .u8 (c.toNat:Int)] w (gU w (.bool (digitB c))):=by
 have hc:=c.toNat_lt;obtain⟨n,hn⟩:∃n,c.toNat=n:=⟨_,rfl⟩;unfold digitB;rw[hn] at hc ⊢;go_enter Tryz.func176,Tryz.ntmps176;go_wp2_with fail
 all_goals
  go_ret
  exact⟨gL (by simp;omega),rfl⟩
theorem Bc (c:UInt8) (w:World):Calls Tryz.prog 117 #[.int .u8 (c.toNat:Int)] w (gU w (.bool (kz c))):=by
 have hc:=c.toNat_lt;obtain⟨n,hn⟩:∃n,c.toNat=n:=⟨_,rfl⟩;unfold kz;rw[hn] at hc ⊢;go_enter Tryz.func117,Tryz.ntmps117;go_wp2_with fail
 all_goals
  go_ret
  exact⟨gL (by simp;omega),rfl⟩
theorem Xp (c:UInt8):(c==45)=decide (c.toNat=45):=by
 rw[Bool.eq_iff_iff,beq_iff_eq,decide_eq_true_iff];exact⟨fun h=>by rw[h];rfl,fun h=>UInt8.toNat_inj.1 (by rw[h];rfl)⟩
theorem zK (c:UInt8) (w:World):Calls Tryz.prog 175 #[.int .u8 (c.toNat:Int)] w (gU w (.bool (iD c))):=by
 have hl:=zw c w;have hd:=Et c w;obtain⟨a,ha⟩:∃a,gw c=a:=⟨_,rfl⟩;obtain⟨b,hb⟩:∃a,digitB c=a:=⟨_,rfl⟩;unfold iD;rw[Xp,ha,hb];rw[ha] at hl;rw[hb] at hd;have hc:=c.toNat_lt;obtain⟨n,hn⟩:∃n,c.toNat=n:=⟨_,rfl⟩;rw[hn] at hc hl hd ⊢;have HL:=zH hl;have HD:=zH hd;clear hl hd ha hb hn;go_enter Tryz.func175,Tryz.ntmps175;go_wp2_with fail;refine HL.out.mono ?_;rintro e w' ⟨rfl,rfl⟩;cases a with
 | true=>
  go_wp2_with fail;go_ret
  exact⟨gL (by simp),rfl⟩
 | false=>
  go_wp2_with fail;refine HD.out.mono ?_;rintro e w' ⟨rfl,rfl⟩;cases b with
  | true=>
   go_wp2_with fail;go_ret
   exact⟨gL (by simp),rfl⟩
  | false=>
   go_wp2_with fail;go_ret
   exact⟨gL (by simp;omega),rfl⟩
theorem fm {p:UInt8→Bool}:∀{l:List UInt8} {n:Nat},(∀i x,i<n→l[i]?=some x→p x=true)→n≤l.length→(n=l.length∨∃x,l[n]?=some x∧p x=false)→(l.takeWhile p).length=n
 | [],n,_,hn,_=>by simp at hn;subst hn;rfl
 | y::l,0,_,_,hx=>by
  rcases hx with hx|⟨x,hx,hp⟩
  ·simp at hx
  ·simp at hx;subst hx;simp[hp]
 | y::l,n+1,h,hn,hx=>by
  have hy:p y=true:=h 0 y (by omega) rfl;simp only[List.length_cons] at hn hx;rw[List.takeWhile_cons,if_pos hy,List.length_cons,fm (n:=n) (fun i x hi hx=>h (i+1) x (by omega) (by simpa using hx)) (by omega)];rcases hx with hx|⟨x,hx,hp⟩
  ·exact .inl (by omega)
  ·exact .inr ⟨x,by simpa using hx,hp⟩
theorem str_at {s:ByteArray} {k:Nat} (h:k<s.size):s.data.toList[k]?=some s[k]:=by
 have:k<s.data.toList.length:=by simpa using h
 rw[List.getElem?_eq_getElem this];rfl
theorem dz (s:ByteArray):s.data.toList.length=s.size:=by simp
theorem Nm (s:ByteArray) (w:World) (hs:s.size≤9223372036854775807):Calls Tryz.prog 174 #[.string s,.func (.func 175) #[] #[]] w (gU w (.int .i64 ((s.data.toList.takeWhile iD).length:Nat))):=by
 obtain⟨z,hz⟩:∃z,(s.data.toList.takeWhile iD).length=z:=⟨_,rfl⟩;rw[hz];have HZ:=zH hz;clear hz;go_enter Tryz.func174,Tryz.ntmps174;go_wp2_with fail;go_loopw [5] (fun v wr=>∃n:Nat,v=.int .i64 n∧n≤s.size∧(∀i x,i<n→s.data.toList[i]?=some x→iD x=true)∧wr=w) (fun v _=>s.size-(intOf v).toNat)
 case atStart=>exact⟨0,rfl,Nat.zero_le _,fun i x hi=>absurd hi (Nat.not_lt_zero _),rfl⟩
 case round=>
  obtain⟨n,rfl,hn,dM,rfl⟩:=hrel;have HA:=zH dM;clear dM;by_cases hlt:n<s.size
  ·have jX:(n:Int)<(s.size:Int):=by omega
   have hx:=str_at hlt;have hw:=zK s[n] wr;obtain⟨x,nQ⟩:∃x,s[n]=x:=⟨_,rfl⟩;rw[nQ] at hx hw;obtain⟨b,hb⟩:∃b,iD x=b:=⟨_,rfl⟩;rw[hb] at hw;have HX:=zH hx;have HW:=zH hw;have HB:=zH hb;clear hx hw hb;go_wp2_with fail;refine HW.out.mono ?_;rintro e w' ⟨rfl,rfl⟩;cases b with
   | true=>
    go_wp2_with fail;go_roundw
    case rel=>
     refine⟨n+1,by go_num,by omega,fun i y hi hy=>?_,trivial⟩;rcases(show i<n∨i=n by omega) with h|h
     ·exact HA.out i y h hy
     ·subst h;rw[HX.out] at hy;injection hy with hy
      rw[←hy];exact HB.out
    case measure=>simp[intOf];omega
   | false=>
    have qM:z=n:=by rw[←HZ.out];exact fm HA.out (by rw[dz];exact hn) (.inr ⟨x,HX.out,HB.out⟩)
    have HN:=zH qM;clear qM;go_wp2_with fail;go_ret
    exact⟨by rw[HN.out];rfl,rfl⟩
  ·have fI:n=s.size:=by omega
   have qM:z=n:=by rw[←HZ.out];exact fm HA.out (by rw[dz];exact hn) (.inl (by rw[dz];exact fI))
   have HN:=zH qM;clear qM fI;go_wp2_with fail;go_ret
   exact⟨by rw[HN.out];rfl,rfl⟩
theorem Nn (s:ByteArray) (w:World) (hs:s.size≤9223372036854775807):Calls Tryz.prog 174 #[.string s,.func (.func 176) #[] #[]] w (gU w (.int .i64 ((s.data.toList.takeWhile digitB).length:Nat))):=by
 obtain⟨z,hz⟩:∃z,(s.data.toList.takeWhile digitB).length=z:=⟨_,rfl⟩;rw[hz];have HZ:=zH hz;clear hz;go_enter Tryz.func174,Tryz.ntmps174;go_wp2_with fail;go_loopw [5] (fun v wr=>∃n:Nat,v=.int .i64 n∧n≤s.size∧(∀i x,i<n→s.data.toList[i]?=some x→digitB x=true)∧wr=w) (fun v _=>s.size-(intOf v).toNat)
 case atStart=>exact⟨0,rfl,Nat.zero_le _,fun i x hi=>absurd hi (Nat.not_lt_zero _),rfl⟩
 case round=>
  obtain⟨n,rfl,hn,dM,rfl⟩:=hrel;have HA:=zH dM;clear dM;by_cases hlt:n<s.size
  ·have jX:(n:Int)<(s.size:Int):=by omega
   have hx:=str_at hlt;have hw:=Et s[n] wr;obtain⟨x,nQ⟩:∃x,s[n]=x:=⟨_,rfl⟩;rw[nQ] at hx hw;obtain⟨b,hb⟩:∃b,digitB x=b:=⟨_,rfl⟩;rw[hb] at hw;have HX:=zH hx;have HW:=zH hw;have HB:=zH hb;clear hx hw hb;go_wp2_with fail;refine HW.out.mono ?_;rintro e w' ⟨rfl,rfl⟩;cases b with
   | true=>
    go_wp2_with fail;go_roundw
    case rel=>
     refine⟨n+1,by go_num,by omega,fun i y hi hy=>?_,trivial⟩;rcases(show i<n∨i=n by omega) with h|h
     ·exact HA.out i y h hy
     ·subst h;rw[HX.out] at hy;injection hy with hy
      rw[←hy];exact HB.out
    case measure=>simp[intOf];omega
   | false=>
    have qM:z=n:=by rw[←HZ.out];exact fm HA.out (by rw[dz];exact hn) (.inr ⟨x,HX.out,HB.out⟩)
    have HN:=zH qM;clear qM;go_wp2_with fail;go_ret
    exact⟨by rw[HN.out];rfl,rfl⟩
  ·have fI:n=s.size:=by omega
   have qM:z=n:=by rw[←HZ.out];exact fm HA.out (by rw[dz];exact hn) (.inl (by rw[dz];exact fI))
   have HN:=zH qM;clear qM fI;go_wp2_with fail;go_ret
   exact⟨by rw[HN.out];rfl,rfl⟩
theorem MH (s:ByteArray) (w:World) (hs:s.size≤9223372036854775807):Calls Tryz.prog 146 #[.string s] w (gU w (.int .i64 (kb s.data.toList:Nat))):=by
 by_cases h:s=⟨#[]⟩
 ·subst h;go_enter Tryz.func146,Tryz.ntmps146;go_wp2_with fail;go_ret
  exact⟨rfl,rfl⟩
 ·have fI:(s.toList==[])=false:=qe (l:=[]) h;have h0:0<s.size:=by
   rcases Nat.eq_zero_or_pos s.size with h0|h0
   ·exact absurd (ByteArray.ext (Array.eq_empty_of_size_eq_zero h0)) h
   ·exact h0
  have Zp:=Nm s w hs;have hl:=zw s[0] w;have hx:=str_at h0;obtain⟨x,nQ⟩:∃x,s[0]=x:=⟨_,rfl⟩;rw[nQ] at hl hx;obtain⟨b,hb⟩:∃b,gw x=b:=⟨_,rfl⟩;obtain⟨z,hz⟩:∃z,(s.data.toList.takeWhile iD).length=z:=⟨_,rfl⟩;have hw:kb s.data.toList=if b then z else 0:=by
   unfold kb;cases hd:s.data.toList with
   | nil=>rw[hd] at hx;cases hx
   | cons y l=>
    rw[hd] at hx;simp at hx;subst hx;simp only[hb];rw[←hd,hz]
  rw[hz] at Zp;rw[hb] at hl;have HS:=zH Zp;have HL:=zH hl;rw[hw];clear Zp hl hb hz hw hx h;cases b with
  | true=>
   rw[if_pos rfl];go_enter Tryz.func146,Tryz.ntmps146;go_wp2_with fail;refine HL.out.mono ?_;rintro e w' ⟨rfl,rfl⟩;go_wp2_with fail;refine HS.out.mono ?_;rintro e w' ⟨rfl,rfl⟩;go_wp2_with fail;go_ret
   exact⟨rfl,rfl⟩
  | false=>
   rw[if_neg (by simp)];go_enter Tryz.func146,Tryz.ntmps146;go_wp2_with fail;refine HL.out.mono ?_;rintro e w' ⟨rfl,rfl⟩;go_wp2_with fail;go_ret
   exact⟨rfl,rfl⟩
theorem acG (p:UInt8→Bool) (l:List UInt8):(l.takeWhile p).length≤l.length:=(List.takeWhile_sublist p).length_le
theorem qm (s:ByteArray) (w:World) (hs:s.size≤9223372036854775807):Calls Tryz.prog 147 #[.string s] w (gU w (.int .i64 (gE s.data.toList:Nat))):=by
 have Zp:=Nn s w hs;have yH:=acG digitB s.data.toList;rw[dz] at yH;have aeN:gE s.data.toList=gE s.data.toList:=rfl;unfold gE at aeN;obtain⟨z,hz⟩:∃z,gE s.data.toList=z:=⟨_,rfl⟩;obtain⟨n,hn⟩:∃n,(s.data.toList.takeWhile digitB).length=n:=⟨_,rfl⟩;rw[hn] at Zp yH;have fM:z=if n=0∨6<n∨(s.data.toList.head?=some 48∧1<n)∨((s.data.toList[n]?.map iD).getD false=true) then 0 else n:=by rw[←hz];unfold gE;rw[hn]
 rw[hz];have HS:=zH Zp;have HZ:=zH fM;clear Zp hz hn fM aeN;go_enter Tryz.func147,Tryz.ntmps147;go_wp2_with fail;refine HS.out.mono ?_;rintro e w' ⟨rfl,rfl⟩;by_cases h0:n=0
 ·have kG:z=0:=by rw[HZ.out,if_pos (.inl h0)]
  have qJ:=zH kG;subst h0;clear kG;go_wp2_with fail;go_ret
  exact⟨by rw[qJ.out];rfl,rfl⟩
 ·have hb0:((n:Int)==0)=false:=by rw[beq_eq_false_iff_ne];omega
  have Pr:0<s.size:=by omega
  by_cases h6:6<n
  ·have kG:z=0:=by rw[HZ.out,if_pos (.inr (.inl h6))]
   have qJ:=zH kG;have hb6:(6<(n:Int))=True:=eq_true (by omega);clear kG h0;go_wp2_with fail;go_ret
   exact⟨by rw[qJ.out];rfl,rfl⟩
  ·have hb6:(6<(n:Int))=False:=eq_false (by omega);have hx:=str_at Pr;have PK:s.data.toList.head?=some s[0]:=by rw[List.head?_eq_getElem?];exact hx
   obtain⟨x,nQ⟩:∃x,s[0]=x:=⟨_,rfl⟩;rw[nQ] at hx PK;have Zj:((x.toNat:Int)==48)=decide (x=48):=by
    rw[Bool.eq_iff_iff,beq_iff_eq,decide_eq_true_iff];exact⟨fun h=>UInt8.toNat_inj.1 (by
     have:x.toNat=48:=by omega
     rw[this];rfl),fun h=>by rw[h];rfl⟩
   have HH:=zH PK;clear hx PK;by_cases h48:x=48∧1<n
   ·have kG:z=0:=by rw[HZ.out,if_pos (.inr (.inr (.inl ⟨by rw[HH.out,h48.1],h48.2⟩)))]
    have qJ:=zH kG;rw[decide_eq_true h48.1] at Zj;have cI:(1<(n:Int))=True:=eq_true (by omega);clear kG h0 h6 h48;go_wp2_with fail;go_ret
    exact⟨by rw[qJ.out];rfl,rfl⟩
   ·have kH:∀b,(s.data.toList[n]?.map iD).getD false=b→z=if b then 0 else n:=fun b hb=>by
     rw[HZ.out];cases b with
     | true=>rw[if_pos (.inr (.inr (.inr hb))),if_pos rfl]
     | false=>
      rw[if_neg,if_neg (by simp)];rintro(h|h|h|h)
      ·exact h0 h
      ·exact h6 h
      ·rw[HH.out] at h;exact h48 ⟨by simpa using h.1,h.2⟩
      ·rw[hb] at h;cases h
    have Xz:=zH kH;have eB:∀(c:Bool),((x.toNat:Int)==48)=c→(c=true→¬1<n):=fun c hc h h1=>h48 ⟨by rw[Zj] at hc;simpa[h] using hc,h1⟩;obtain⟨c,hc⟩:∃c,((x.toNat:Int)==48)=c:=⟨_,rfl⟩;have hc1:=eB c hc;clear kH eB Zj h48;by_cases hlt:n<s.size
    ·have jX:((n:Int)<(s.size:Int))=True:=eq_true (by omega);have hy:=str_at hlt;have hiw:=zK s[n] w;obtain⟨y,Pd⟩:∃y,s[n]=y:=⟨_,rfl⟩;rw[Pd] at hy hiw;obtain⟨b,hb⟩:∃b,iD y=b:=⟨_,rfl⟩;rw[hb] at hiw;have iP:=Xz.out b (by rw[hy];simpa using hb);have lA:=zH iP;have HI:=zH hiw;clear hy hiw hb iP;cases c with
     | true=>
      have cI:(1<(n:Int))=False:=eq_false (by have:=hc1 rfl;omega);go_wp2_with fail;refine HI.out.mono ?_;rintro e w' ⟨rfl,rfl⟩;cases b with
      | true=>go_wp2_with fail;go_ret;exact⟨by rw[lA.out];rfl,rfl⟩
      | false=>go_wp2_with fail;go_ret;exact⟨by rw[lA.out];rfl,rfl⟩
     | false=>
      go_wp2_with fail;refine HI.out.mono ?_;rintro e w' ⟨rfl,rfl⟩;cases b with
      | true=>go_wp2_with fail;go_ret;exact⟨by rw[lA.out];rfl,rfl⟩
      | false=>go_wp2_with fail;go_ret;exact⟨by rw[lA.out];rfl,rfl⟩
    ·have jX:((n:Int)<(s.size:Int))=False:=eq_false (by omega);have iP:=Xz.out false (by rw[List.getElem?_eq_none (by rw[dz];omega)];rfl);have lA:=zH iP;clear iP;cases c with
     | true=>
      have cI:(1<(n:Int))=False:=eq_false (by have:=hc1 rfl;omega);go_wp2_with fail;go_ret
      exact⟨by rw[lA.out];rfl,rfl⟩
     | false=>
      go_wp2_with fail;go_ret
      exact⟨by rw[lA.out];rfl,rfl⟩
theorem EP {s:ByteArray} {l:List UInt8} (h:s.data.toList=l):s=⟨l.toArray⟩:=by
 apply ByteArray.ext;rw[←h]
theorem rX (s:ByteArray) (k:Nat):s.extract 0 k=⟨(s.data.toList.take k).toArray⟩:=by
 apply EP;rw[ByteArray.data_extract];simp
theorem extract_drop (s:ByteArray) (k:Nat):s.extract k s.size=⟨(s.data.toList.drop k).toArray⟩:=by
 apply EP;rw[ByteArray.data_extract,Array.toList_extract];have:s.size=s.data.toList.length:=by simp
 rw[this];simp[List.extract_eq_take_drop];rw[List.take_of_length_le (by simp)]
theorem Vr (s:ByteArray) (w:World) (hs:s.size≤9223372036854775807):Calls Tryz.prog 177 #[.string s,.string ⟨#[47]⟩] w (yc w (.tuple #[.string ⟨(ed s.data.toList).toArray⟩,.string ⟨(dO s.data.toList).toArray⟩,.bool (jp s.data.toList)])):=by
 have hi:=Tryz.stringslite_Index_one s 47 w;rcases jW s.data.toList with h|⟨k,hk,h1,h2,h3⟩
 ·rw[h] at hi;obtain⟨c1,c2,c3⟩:=xM h;rw[c1,c2,c3];have Zo:(⟨s.data.toList.toArray⟩:ByteArray)=s:=rfl;rw[Zo];have HI:=zH hi;clear hi h c1 c2 c3 Zo;go_enter Tryz.func177,Tryz.ntmps177;go_wp2_with fail;refine HI.out.mono ?_;rintro e w' ⟨rfl,rfl⟩;go_wp2_with fail
  go_ret3
  exact⟨rfl,0,rfl⟩
 ·rw[hk] at hi;obtain⟨c1,c2,c3⟩:=sg h1 h2;rw[c1,c2,c3,←rX,←extract_drop];rw[dz] at h3;have HI:=zH hi;have ui:(k:Int)≤(s.size:Int):=by omega
  have eX:(k:Int)+1≤(s.size:Int):=by omega
  clear hi hk c1 c2 c3 h1 h2;go_enter Tryz.func177,Tryz.ntmps177;go_wp2_with fail;refine HI.out.mono ?_;rintro e w' ⟨rfl,rfl⟩;go_wp2_with fail;go_quiet (fail)
  go_wp2_with fail
  go_ret3
  exact⟨rfl,_,rfl⟩
theorem QN (s:ByteArray) (w:World) (hs:s.size≤9223372036854775807):Calls Tryz.prog 148 #[.string s,.string ⟨#[47]⟩] w (yc w (.tuple #[.string ⟨(ed s.data.toList).toArray⟩,.string ⟨(dO s.data.toList).toArray⟩,.bool (jp s.data.toList)])):=by
 have h:=Vr s w hs;obtain⟨a,ha⟩:∃a:ByteArray,⟨(ed s.data.toList).toArray⟩=a:=⟨_,rfl⟩;obtain⟨b,hb⟩:∃a:ByteArray,⟨(dO s.data.toList).toArray⟩=a:=⟨_,rfl⟩;obtain⟨c,hc⟩:∃a,jp s.data.toList=a:=⟨_,rfl⟩;rw[ha,hb,hc] at h ⊢;have H:=zH h;clear h ha hb hc;go_enter Tryz.func148,Tryz.ntmps148;go_wp2_with fail;refine H.out.mono ?_;rintro e w' ⟨rfl,n,rfl⟩;go_wp2_with fail
 go_ret3
 exact⟨rfl,n,rfl⟩
theorem LN (s:ByteArray):(⟨(ed s.data.toList).toArray⟩:ByteArray).size≤s.size:=by
 show(ed s.data.toList).toArray.size≤_;rw[List.size_toArray,←dz];exact(List.takeWhile_sublist _).length_le
theorem LM (s:ByteArray):(⟨(dO s.data.toList).toArray⟩:ByteArray).size≤s.size:=by
 show(dO s.data.toList).toArray.size≤_;rw[List.size_toArray,←dz];have h:=(List.dropWhile_sublist (l:=s.data.toList) (· !=47)).length_le;unfold dO;rw[List.length_drop];omega
theorem JI (s:ByteArray) (w:World) (hs:s.size≤9223372036854775807):Calls Tryz.prog 120 #[.string s] w (jQ w (.bool (iK s.data.toList))):=by
 by_cases h:s=⟨#[]⟩
 ·subst h;go_enter Tryz.func120,Tryz.ntmps120;go_wp2_with fail;go_ret
  exact⟨rfl,Below.refl _ _⟩
 ·have fI:(s.toList==[])=false:=qe (l:=[]) h;have hl0:s.data.toList≠[]:=fun e=>h (EP e);have hw:=MH s w hs;have hn:=qm s w hs;have hcut:=QN s w hs;obtain⟨x,hx⟩:∃x,kb s.data.toList=x:=⟨_,rfl⟩;obtain⟨y,hy⟩:∃x,gE s.data.toList=x:=⟨_,rfl⟩;obtain⟨z,hz⟩:∃z,iK s.data.toList=z:=⟨_,rfl⟩;have fM:=hz;unfold iK at fM;rw[if_neg hl0,hx,hy,dz] at fM;rw[hx] at hw;rw[hy] at hn;rw[hz];have HW:=zH hw;have HN:=zH hn;have HZ:=zH fM;clear hw hn hx hy hz hl0 fM;go_enter Tryz.func120,Tryz.ntmps120;go_wp2_with fail;refine HW.out.mono ?_;rintro e w' ⟨rfl,rfl⟩;by_cases h1:x=s.size
  ·have cI:((x:Int)==(s.size:Int))=true:=by rw[beq_iff_eq];omega
   have fH:z=true:=by rw[←HZ.out,if_pos (.inl h1)]
   have kr:=zH fH;clear h1 fH;go_wp2_with fail;go_ret
   exact⟨by rw[kr.out];rfl,Below.refl _ _⟩
  ·have cI:((x:Int)==(s.size:Int))=false:=by rw[beq_eq_false_iff_ne];omega
   go_wp2_with fail;refine HN.out.mono ?_;rintro e w' ⟨rfl,rfl⟩;by_cases h2:y=s.size
   ·have cj:((y:Int)==(s.size:Int))=true:=by rw[beq_iff_eq];omega
    have fH:z=true:=by rw[←HZ.out,if_pos (.inr h2)]
    have kr:=zH fH;clear h2 h1 fH;go_wp2_with fail;go_ret
    exact⟨by rw[kr.out];rfl,Below.refl _ _⟩
   ·have cj:((y:Int)==(s.size:Int))=false:=by rw[beq_eq_false_iff_ne];omega
    have fH:=HZ.out;rw[if_neg (fun h=>h.elim h1 h2)] at fH;have ha:=LN s;have hb:=LM s;have WT:=fun w=>qm ⟨(ed s.data.toList).toArray⟩ w (Nat.le_trans ha hs);have Mo:=fun w=>qm ⟨(dO s.data.toList).toArray⟩ w (Nat.le_trans hb hs);obtain⟨a,W4⟩:∃a:ByteArray,⟨(ed s.data.toList).toArray⟩=a:=⟨_,rfl⟩;obtain⟨b,heb⟩:∃a:ByteArray,⟨(dO s.data.toList).toArray⟩=a:=⟨_,rfl⟩;obtain⟨c,hec⟩:∃a,jp s.data.toList=a:=⟨_,rfl⟩;have iQ:ed s.data.toList=a.data.toList:=by rw[←W4]
    have lq:dO s.data.toList=b.data.toList:=by rw[←heb]
    rw[W4,heb,hec] at hcut;rw[W4] at WT ha;rw[heb] at Mo hb;rw[iQ,lq,hec] at fH;obtain⟨na,ZQ⟩:∃n,gE a.data.toList=n:=⟨_,rfl⟩;obtain⟨nb,ZP⟩:∃n,gE b.data.toList=n:=⟨_,rfl⟩;rw[ZQ,ZP,dz,dz] at fH;rw[ZQ] at WT;rw[ZP] at Mo;have am9:=zH hcut;have HNA:=zH WT;have Xy:=zH Mo;have kr:=zH fH;clear h1 h2 fH W4 heb hec iQ lq ZQ ZP hcut WT Mo;go_wp2_with fail;refine am9.out.mono ?_;rintro e w2 ⟨rfl,m,rfl⟩;cases c with
    | false=>
     have bm:z=false:=by rw[←kr.out];rfl
     have dS:=zH bm;clear bm;go_wp2_with fail;go_ret
     exact⟨by rw[dS.out];rfl,below_drewN (Below.refl _ _) m⟩
    | true=>
     by_cases h3:a=⟨#[]⟩
     ·have bm:z=false:=by rw[←kr.out,h3];rfl
      have dS:=zH bm;clear bm;subst h3;go_wp2_with fail;go_ret
      exact⟨by rw[dS.out];rfl,below_drewN (Below.refl _ _) m⟩
     ·have asl:(a.toList==[])=false:=qe (l:=[]) h3;have ha4:a.data.toList≠[]:=fun e=>h3 (EP e);by_cases h4:b=⟨#[]⟩
      ·have bm:z=false:=by rw[←kr.out,h4];simp
       have dS:=zH bm;clear bm h3 ha4;subst h4;go_wp2_with fail;go_ret
       exact⟨by rw[dS.out];rfl,below_drewN (Below.refl _ _) m⟩
      ·have asj:(b.toList==[])=false:=qe (l:=[]) h4;have j6:b.data.toList≠[]:=fun e=>h4 (EP e);have iP:=kr.out;rw[decide_eq_true ha4,decide_eq_true j6] at iP;have lA:=zH iP;clear iP h3 h4 ha4 j6;go_wp2_with fail;refine(HNA.out _).mono ?_;rintro e w' ⟨rfl,rfl⟩;by_cases h5:na=a.size
       ·have Ct:((na:Int)==(a.size:Int))=true:=by rw[beq_iff_eq];omega
        go_wp2_with fail;refine(Xy.out _).mono ?_;rintro e w' ⟨rfl,rfl⟩;have bm:z=((nb:Int)==(b.size:Int)):=by
         rw[←lA.out,decide_eq_true h5];rw[Bool.eq_iff_iff];simp;omega
        have dS:=zH bm;clear bm h5;go_wp2_with fail;go_ret
        exact⟨by rw[dS.out];rfl,below_drewN (Below.refl _ _) m⟩
       ·have Ct:((na:Int)==(a.size:Int))=false:=by rw[beq_eq_false_iff_ne];omega
        have bm:z=false:=by rw[←lA.out,decide_eq_false h5];simp
        have dS:=zH bm;clear bm h5;go_wp2_with fail;go_ret
        exact⟨by rw[dS.out];rfl,below_drewN (Below.refl _ _) m⟩
def yK (c:UInt8):List UInt8:=if c.toNat=34∨c.toNat=92 then[92,c] else[c]
def rY (l:List UInt8):List UInt8:=l.flatMap yK
def Ba (l:List UInt8):List UInt8:=34::rY l++[34]
theorem Lv (l:List UInt8) (c:UInt8):rY (l++[c])=rY l++yK c:=by simp[rY]
theorem Qw (l:List UInt8):(rY l).length≤2*l.length:=by
 induction l with
 | nil=>simp[rY]
 | cons x l ih=>
  have:rY (x::l)=yK x++rY l:=rfl;rw[this,List.length_append,List.length_cons];have:(yK x).length≤2:=by unfold yK;split<;>simp
  omega
theorem qQ {l:List UInt8} {k:Nat} {x:UInt8} (h:l[k]?=some x):l.take (k+1)=l.take k++[x]:=by rw[List.take_add_one,h];rfl
theorem EZ {p:UInt8→Bool} {l:List UInt8} {k:Nat} {x:UInt8} (h:l[k]?=some x):(l.take (k+1)).all p=((l.take k).all p&&p x):=by rw[qQ h];simp
theorem Cf {p:UInt8→Bool} {l:List UInt8} {k:Nat} {x:UInt8} (h:l[k]?=some x) (hp:p x=false):l.all p=false:=by
 rw[List.all_eq_false];exact⟨x,List.mem_of_getElem? h,by simp[hp]⟩
theorem Own.lit {α:Type} [aG α] (w:World) (e:TypeId) (vs:List Value) (xs:List α) (hl:vs.length=xs.length) (h1:aG.sz α=1) (hx:xs.length≤maxLen) (hf:Flat (w.alloc (.cells vs.toArray e)) bw vs xs) : Own (w.alloc (.cells vs.toArray e)) bw w.heap.size e (.slice (some ⟨w.heap.size,0,none⟩) xs.length xs.length) xs:=
 ⟨vs,⟨by rw[h1,Nat.mul_one];exact hl,.inr ⟨w.heap.size,xs.length,vs.toArray,rfl,Nat.le_refl _,heap_alloc_new _ _,Nat.le_refl _,hx,by rw[h1,Nat.mul_one];simpa using hl,by rw[h1,Nat.mul_one,←hl];simp⟩⟩,hf,fun _ h=>h.elim⟩
theorem NX (s:ByteArray) (w:World) (hs:s.size≤17592186044416):Calls Tryz.prog 93 #[.string s] w (jQ w (.tuple #[.string (if fP s.data.toList then⟨(Ba s.data.toList).toArray⟩ else⟨#[]⟩),.bool (fP s.data.toList)])):=by
 obtain⟨l,hl⟩:∃l,s.data.toList=l:=⟨_,rfl⟩;have Sl:l.length=s.size:=by rw[←hl];exact dz s
 have lQ:∀k (h:k<s.size),l[k]?=some s[k]:=fun k h=>by rw[←hl];exact str_at h
 rw[hl];obtain⟨b,hb⟩:∃b,fP l=b:=⟨_,rfl⟩;obtain⟨t,ht⟩:∃t:ByteArray,(if b then⟨(Ba l).toArray⟩ else⟨#[]⟩)=t:=⟨_,rfl⟩;rw[hb,ht];have HAT:=zH lQ;have HLL:=zH Sl;have HB:=zH hb;have HT:=zH ht;clear hl Sl lQ hb ht;go_enter Tryz.func93,Tryz.ntmps93;go_wp2_with fail;go_loopw [4,9] (fun vo iv wr=>∃k:Nat,iv=.int .i64 k∧k≤s.size∧(l.take k).all kz=true∧Own wr bw w.heap.size 5 vo (34::rY (l.take k))∧Below w.heap.size w wr) (fun _ iv _=>s.size-(intOf iv).toNat)
 case atStart=>
  exact⟨0,rfl,Nat.zero_le _,rfl,Own.lit w 5 [.int .u8 34] [34] rfl rfl (by decide) (Flat.bytes [34]),(Below.refl _ _).alloc (Nat.le_refl _) _⟩
 case round=>
  obtain⟨k,rfl,hk,dM,ho,ym⟩:=hrel;obtain⟨Ao,no,co,rfl,Fh⟩:=ho.slice;have bO:(34::rY (l.take k)).length≤2*k+1:=by
   have:=Qw (l.take k);rw[List.length_take] at this;rw[List.length_cons];omega
  have agl:=zH dM;have HO:=zH ho;have RP:=zH ym;have mH:=zH bO;clear dM ho ym Fh bO;by_cases hlt:k<s.size
  ·have jX:(k:Int)<(s.size:Int):=by omega
   have hx:=HAT.out k hlt;have hp:=Bc s[k] wr;obtain⟨x,nQ⟩:∃x,s[k]=x:=⟨_,rfl⟩;rw[nQ] at hx hp;obtain⟨c,hc⟩:∃c,kz x=c:=⟨_,rfl⟩;rw[hc] at hp;have HX:=zH hx;have HP:=zH hp;have HC:=zH hc;clear hx hp hc;go_wp2_with fail;refine HP.out.mono ?_;rintro e w' ⟨rfl,rfl⟩;cases c with
   | false=>
    have P4:b=false:=by rw[←HB.out];exact Cf HX.out HC.out
    have HBF:=zH P4;have htf:t=⟨#[]⟩:=by rw[←HT.out,P4];rfl
    have HTF:=zH htf;clear P4 htf;go_wp2_with fail;go_ret2
    exact⟨by rw[HBF.out,HTF.out];rfl,RP.out⟩
   | true=>
    obtain⟨n,hn⟩:∃n,x.toNat=n:=⟨_,rfl⟩;have hxn:n<256:=by rw[←hn];exact x.toNat_lt
    have ad9:(l.take (k+1)).all kz=true:=by rw[EZ HX.out,agl.out,HC.out];rfl
    have abl:=zH ad9;have hes:34::rY (l.take (k+1))=(34::rY (l.take k))++yK x:=by rw[qQ HX.out,Lv];rfl
    clear ad9;by_cases hq:n=34∨n=92
    ·have he:yK x=[92,x]:=by unfold yK;rw[hn,if_pos hq]
     rw[he] at hes;have HES:=zH hes;have HN:=zH hn;clear he hes;have HRX:Hid ([Value.int .u8 (n:Int)]=[Value.int .u8 (x.toNat:Int)]):=zH (by rw[HN.out]);rcases hq with rfl|rfl
     ·go_wp2_with (first | (at_builtin; refine dy (α:=UInt8) (w0:=w) (B:=w.heap.size) (base:=w.heap.size) rfl _ _ 49 rfl 1 Tryz.bytesTy rfl HO.out RP.out (Nat.le_refl _) RP.out.size [.int .u8 92] 92 1 rfl rfl 5 (by simp[Value.oneCell']) (by have:=mH.out;omega) ?_; intro v4 w4 hown4 j6 hg4 hl4; obtain⟨A4,n4,c4,rfl,hn4⟩:=hown4.slice; have E8:=zH hown4; have yi:=zH j6; clear hown4 j6 hg4 hl4 hn4) | (at_builtin; refine dy (α:=UInt8) (w0:=w) (B:=w.heap.size) (base:=w.heap.size) rfl _ _ 49 rfl 1 Tryz.bytesTy rfl E8.out yi.out (Nat.le_refl _) yi.out.size [.int .u8 34] x 1 rfl HRX.out 5 (by simp[Value.oneCell']) (by have:=mH.out;rw[List.length_append];simp only[List.length_singleton];omega) ?_; intro v5 w5 hown4 j6 hg4 hl4; obtain⟨A5,n5,c5,rfl,hn4⟩:=hown4.slice; have Mv:=zH hown4; have JX:=zH j6; clear hown4 j6 hg4 hl4 hn4));go_roundw
      case rel=>exact⟨k+1,by go_num,by omega,abl.out,by rw[HES.out];simpa using Mv.out,JX.out⟩
      case measure=>simp[intOf];omega
     ·go_wp2_with (first | (at_builtin; refine dy (α:=UInt8) (w0:=w) (B:=w.heap.size) (base:=w.heap.size) rfl _ _ 49 rfl 1 Tryz.bytesTy rfl HO.out RP.out (Nat.le_refl _) RP.out.size [.int .u8 92] 92 1 rfl rfl 5 (by simp[Value.oneCell']) (by have:=mH.out;omega) ?_; intro v4 w4 hown4 j6 hg4 hl4; obtain⟨A4,n4,c4,rfl,hn4⟩:=hown4.slice; have E8:=zH hown4; have yi:=zH j6; clear hown4 j6 hg4 hl4 hn4) | (at_builtin; refine dy (α:=UInt8) (w0:=w) (B:=w.heap.size) (base:=w.heap.size) rfl _ _ 49 rfl 1 Tryz.bytesTy rfl E8.out yi.out (Nat.le_refl _) yi.out.size [.int .u8 92] x 1 rfl HRX.out 5 (by simp[Value.oneCell']) (by have:=mH.out;rw[List.length_append];simp only[List.length_singleton];omega) ?_; intro v5 w5 hown4 j6 hg4 hl4; obtain⟨A5,n5,c5,rfl,hn4⟩:=hown4.slice; have Mv:=zH hown4; have JX:=zH j6; clear hown4 j6 hg4 hl4 hn4));go_roundw
      case rel=>exact⟨k+1,by go_num,by omega,abl.out,by rw[HES.out];simpa using Mv.out,JX.out⟩
      case measure=>simp[intOf];omega
    ·have he:yK x=[x]:=by unfold yK;rw[hn,if_neg hq]
     rw[he] at hes;have HES:=zH hes;have HN:=zH hn;have HRX:Hid ([Value.int .u8 (n:Int)]=[Value.int .u8 (x.toNat:Int)]):=zH (by rw[HN.out]);have Si:((n:Int)==34)=false:=by rw[beq_eq_false_iff_ne];omega
     have Cs:((n:Int)==92)=false:=by rw[beq_eq_false_iff_ne];omega
     clear he hes hq;go_wp2_with (first | (at_builtin; refine dy (α:=UInt8) (w0:=w) (B:=w.heap.size) (base:=w.heap.size) rfl _ _ 49 rfl 1 Tryz.bytesTy rfl HO.out RP.out (Nat.le_refl _) RP.out.size [.int .u8 (n:Int)] x 1 rfl HRX.out 5 (by simp[Value.oneCell']) (by have:=mH.out;omega) ?_; intro v5 w5 hown4 j6 hg4 hl4; obtain⟨A5,n5,c5,rfl,hn4⟩:=hown4.slice; have Mv:=zH hown4; have JX:=zH j6; clear hown4 j6 hg4 hl4 hn4));go_roundw
     case rel=>exact⟨k+1,by go_num,by omega,abl.out,by rw[HES.out];exact Mv.out,JX.out⟩
     case measure=>simp[intOf];omega
  ·have hke:k=s.size:=by omega
   have hbt:b=true:=by
    have h1:=agl.out;rw[hke,List.take_of_length_le (by rw[HLL.out];exact Nat.le_refl _)] at h1;rw[←HB.out];exact h1
   have Sd:t=⟨(Ba l).toArray⟩:=by rw[←HT.out,hbt];rfl
   have yG:34::rY (l.take k)=34::rY l:=by rw[hke,List.take_of_length_le (by rw[HLL.out];exact Nat.le_refl _)]
   have HBT:=zH hbt;have Fs:=zH Sd;have HOL:=zH yG;clear hke hbt Sd yG;go_wp2_with (first | (at_builtin; refine dy (α:=UInt8) (w0:=w) (B:=w.heap.size) (base:=w.heap.size) rfl _ _ 49 rfl 1 Tryz.bytesTy rfl HO.out RP.out (Nat.le_refl _) RP.out.size [.int .u8 34] 34 1 rfl rfl 5 (by simp[Value.oneCell']) (by have:=mH.out;omega) ?_; intro v5 w5 hown4 j6 hg4 hl4; obtain⟨A5,n5,c5,rfl,hn4⟩:=hown4.slice; have Mv:=zH hown4; have JX:=zH j6; have Sq:=AM hown4.rs8; rw[HOL.out] at Sq; have aso:(convert 49 9 (.slice A5 n5 c5)).run Tryz.prog w5=.ok (.string t) w5:=(by rw[Sq,Fs.out];rfl); clear hown4 j6 hg4 hl4 hn4 Sq));go_ret2
   exact⟨by rw[HBT.out];rfl,JX.out⟩
end Go.Proofs.YtjlhbfbdcfajfaaGreatDoor
