/- Rat3 Rat4 Rat5 Lex1 Lex2 Lex3 -/
import Derived.Test.YtdbpbfglhbiadaaGreatDoorL01
import Derived.Test.YtdbpbfglhbiadaaGreatDoorL12
import Derived.Deep.RegionWith
import Derived.Deep.RegionHeld3
import Derived.Deep.DeepCutAuto
import Derived.Lib.IndexLaws
set_option maxHeartbeats 8000000
set_option maxRecDepth 100000
namespace Go.Proofs.YtdbpbfglhbiadaaGreatDoor
open Go.RowKit
def RI (w:World) (r:Bool×Nat) (e:Ending) (w':World):Prop:=∃A n c,e=.returned (.tuple #[.bool r.1,.slice A n c])∧n=(du r.2).length∧RS w' (cY w w') A n c (du r.2)∧Below w.heap.size w w'
theorem XO {S S2:Nat→Prop} {A A2:Option Addr} {n c n2 c2:Nat} {xs ys:List (BitVec 32)} {w:World} (a b:Bool) (h:RS w S A n c xs) (h2:RS w S2 A2 n2 c2 ys) (hS:∀b,S b→b<w.heap.size) (iM:∀b,S2 b→b<w.heap.size) (hn:n≤536870912) (hn2:n2≤536870912) : Calls Tryz.prog 192 #[.bool a,.slice A n c,.bool b,.slice A2 n2 c2] w (RI w (qf a (val xs) b (val ys))):=by
 have H:=zH h;have H2:=zH h2;obtain⟨X,hX⟩:∃X,val xs=X:=⟨_,rfl⟩;obtain⟨Y,hY⟩:∃Y,val ys=Y:=⟨_,rfl⟩;have HX:=zH hX;have HY:=zH hY;rw[hX,hY];clear h h2 hX hY;by_cases Qr:a=b
 ·have hq:qf a X b Y=(a,X+Y):=by unfold qf;rw[if_pos Qr]
  rw[hq];have akW:(a==b)=true:=by simpa using Qr
  have asH:(!a==!b)=true:=by simpa using Qr
  clear hq Qr;go_enter Tryz.func192,Tryz.ntmps192;go_wp2_with fail;refine(VW H.out H2.out hS iM (by omega) (by omega)).mono ?_;rintro e w2 h;rw[HX.out,HY.out] at h;obtain⟨A3,n3,c3,rfl,hn3,hr,hb⟩:=h.slice;have HN:=zH hn3;have HR:=zH hr;have HB:=zH hb;clear h hr hb hn3;go_wp2_with fail;go_ret2
  exact⟨A3,n3,c3,rfl,HN.out,HR.out,HB.out⟩
 ·have akW:(a==b)=false:=by simpa using Qr
  by_cases yV:Y≤X
  ·have hq:qf a X b Y=(a,X-Y):=by unfold qf;rw[if_neg Qr,if_pos yV]
   rw[hq];have HLE:=zH yV;clear hq Qr yV;go_enter Tryz.func192,Tryz.ntmps192;go_wp2_with fail;refine(Ip H.out H2.out hS iM (by omega) (by rw[HX.out,HY.out];exact HLE.out)).mono ?_;rintro e w2 ⟨v,rfl,ho,hb⟩;rw[HX.out,HY.out] at ho;obtain⟨A3,n3,c3,rfl,hn3⟩:=ho.slice;have HN:=zH hn3;have HR:=zH (ho.fresh (Nat.le_refl _));have HB:=zH hb;clear ho hb hn3;go_wp2_with fail;go_ret2
   exact⟨A3,n3,c3,rfl,HN.out,HR.out,HB.out⟩
  ·have hq:qf a X b Y=(b,Y-X):=by unfold qf;rw[if_neg Qr,if_neg yV]
   rw[hq];have hlt:X<Y:=by omega
   have HLT:=zH hlt;clear hq Qr yV hlt;go_enter Tryz.func192,Tryz.ntmps192;go_wp2_with fail;refine(S4 H.out H2.out (by rw[HX.out,HY.out];exact HLT.out)).mono ?_;rintro e w2 ⟨v,rfl,ho,hb⟩;have HR1:=zH (H.out.below hb hS);have J2:=zH (H2.out.below hb iM);have HB:=zH hb;clear ho hb;go_wp2_with fail;refine(Ip J2.out HR1.out (fun b h=>Nat.lt_of_lt_of_le (iM b h) HB.out.size) (fun b h=>Nat.lt_of_lt_of_le (hS b h) HB.out.size) (by omega) (by rw[HX.out,HY.out];exact Nat.le_of_lt HLT.out)).mono ?_;rintro e w3 ⟨v,rfl,ho,hb⟩;rw[HX.out,HY.out] at ho;obtain⟨A3,n3,c3,rfl,hn3⟩:=ho.slice;have HN:=zH hn3;have HR:=zH (ho.fresh HB.out.size);have mM:=zH (ao HB.out hb);clear ho hb hn3;go_wp2_with fail;go_ret2
   exact⟨A3,n3,c3,rfl,HN.out,HR.out,mM.out⟩
theorem oA {a b j k:Nat} (ha:(du a).length≤j) (hb:(du b).length≤k):(du (a*b)).length≤j+k:=by
 have h1:=eI (du a);have h2:=eI (du b);rw[bF] at h1 h2;have h3:=Nat.lt_of_lt_of_le h1 (Nat.pow_le_pow_right (by omega) ha);have h4:=Nat.lt_of_lt_of_le h2 (Nat.pow_le_pow_right (by omega) hb);refine gj ?_;rw[Nat.pow_add];exact Nat.mul_lt_mul'' h3 h4
theorem DZ {a b k:Nat} (ha:(du a).length≤k) (hb:(du b).length≤k):(du (a+b)).length≤k+1:=by
 have h1:=eI (du a);have h2:=eI (du b);rw[bF] at h1 h2;have h3:=Nat.lt_of_lt_of_le h1 (Nat.pow_le_pow_right (by omega) ha);have h4:=Nat.lt_of_lt_of_le h2 (Nat.pow_le_pow_right (by omega) hb);refine gj ?_;rw[Nat.pow_succ];omega
theorem Np {a b:Bool} {X Y k:Nat} (hx:(du X).length≤k) (hy:(du Y).length≤k):(du (qf a X b Y).2).length≤k+1:=by
 unfold qf;split
 ·exact DZ hx hy
 ·split
  ·exact Nat.le_succ_of_le (kq hx (Nat.sub_le _ _))
  ·exact Nat.le_succ_of_le (kq hy (Nat.sub_le _ _))
theorem VU {S S2:Nat→Prop} {va vb:Value} {ra rb:Raw} {w:World} (ha:SV w S va ra) (hb:SV w S2 vb rb) (hS:∀b,S b→b<w.heap.size) (iM:∀b,S2 b→b<w.heap.size) (iP:ra.short 67108864) (lw:rb.short 67108864) : Calls Tryz.prog 139 #[va,vb] w (iJ w (yq ra.q rb.q)):=by
 obtain⟨A,n,c,A2,n2,c2,rfl,h1,h2⟩:=ha.raw_cases;obtain⟨A3,n3,c3,A4,n4,c4,rfl,h3,h4⟩:=hb.raw_cases;have gD:Below w.heap.size w (((w.alloc (.cells #[.bool ra.neg,.slice A n c,.slice A2 n2 c2] 28)).alloc (.cells #[.bool rb.neg,.slice A3 n3 c3,.slice A4 n4 c4] 28)).alloc (.cells #[.bool false,.slice none 0 0,.slice none 0 0] 28)):=
  (((Below.refl _ _).alloc (Nat.le_refl _) _).alloc (by simp) _).alloc (by simp;omega) _
 obtain⟨w1,gl⟩:∃x,((w.alloc (.cells #[.bool ra.neg,.slice A n c,.slice A2 n2 c2] 28)).alloc (.cells #[.bool rb.neg,.slice A3 n3 c3,.slice A4 n4 c4] 28)).alloc (.cells #[.bool false,.slice none 0 0,.slice none 0 0] 28)=x:=⟨_,rfl⟩;have nM:w1.heap.size=w.heap.size+3:=by rw[←gl];simp
 have P0:dI w1 w.heap.size 28 #[.bool ra.neg,.slice A n c,.slice A2 n2 c2]:=by rw[←gl];exact((dI.new _ _ _).alloc _).alloc _
 have oF:dI w1 (w.heap.size+1) 28 #[.bool rb.neg,.slice A3 n3 c3,.slice A4 n4 c4]:=by rw[←gl];exact(dI.new' (by simp) _ _).alloc _
 have hZ:dI w1 (w.heap.size+2) 28 #[.bool false,.slice none 0 0,.slice none 0 0]:=by rw[←gl];exact dI.new' (by simp) _ _
 rw[gl] at gD;have HWA:=zH (ha.below gD hS);have HWB:=zH (hb.below gD iM);have oS:=zH gl;have pn:=zH gD;have HK0:=zH P0;have Wi:=zH oF;have RX:=zH hZ;have Hz:=zH nM;obtain⟨qa,hqa⟩:∃q,ra.q=q:=⟨_,rfl⟩;obtain⟨qb,Z1⟩:∃q,rb.q=q:=⟨_,rfl⟩;rw[hqa,Z1];have HQA:=zH hqa;have HQB:=zH Z1;clear ha hb h1 h2 h3 h4 gl gD P0 oF hZ nM hqa Z1;go_enter Tryz.func139,Tryz.ntmps139;go_upto_region 1 with(fail);rw[oS.out];obtain⟨d0,d1,d2,e0,e1,e2⟩:=HK0.out.facts3;obtain⟨d3,d4,d5,e3,e4,e5⟩:=Wi.out.facts3;go_cut [8] (fun _ wx=>∃A5 n5 c5 A6 n6 c6 A7 n7 c7 A8 n8 c8,dI wx w.heap.size 28 #[.bool qa.neg,.slice A5 n5 c5,.slice A6 n6 c6]∧dI wx (w.heap.size+1) 28 #[.bool qb.neg,.slice A7 n7 c7,.slice A8 n8 c8]∧ dI wx (w.heap.size+1+1) 28 #[.bool false,.slice none 0 0,.slice none 0 0]∧RS wx (cY w1 wx) A5 n5 c5 (du qa.n)∧RS wx (cY w1 wx) A6 n6 c6 (du qa.d)∧RS wx (cY w1 wx) A7 n7 c7 (du qb.n)∧RS wx (cY w1 wx) A8 n8 c8 (du qb.d)∧Below w.heap.size w wx)
 case first=>
  have NA0:Calls Tryz.prog 95 #[.agg #[.bool ra.neg,.slice A n c,.slice A2 n2 c2]] w1.drew (iJ w1 qa):=by
   rw[←HQA.out];exact yg (oq (w:=w1.drew) (r:=ra) HWA.out.drew (fun b hb=>Nat.lt_of_lt_of_le (hS b hb) pn.out.size) ⟨Nat.le_trans iP.1 (by omega),Nat.le_trans iP.2 (by omega)⟩)
  have NA1:Calls Tryz.prog 95 #[.agg #[.bool ra.neg,.slice A n c,.slice A2 n2 c2]] w1.drew.drew (iJ w1 qa):=by
   rw[←HQA.out];exact uM (oq (w:=w1.drew.drew) (r:=ra) HWA.out.drew.drew (fun b hb=>Nat.lt_of_lt_of_le (hS b hb) pn.out.size) ⟨Nat.le_trans iP.1 (by omega),Nat.le_trans iP.2 (by omega)⟩)
  have NB:∀w2:World,Below w1.heap.size w1 w2→Calls Tryz.prog 95 #[.agg #[.bool rb.neg,.slice A3 n3 c3,.slice A4 n4 c4]] w2 (iJ w2 qb):=fun w2 cm=>by
   rw[←HQB.out];exact oq (r:=rb) (HWB.out.below cm (fun b hb=>Nat.lt_of_lt_of_le (iM b hb) pn.out.size)) (fun b hb=>Nat.lt_of_lt_of_le (iM b hb) (Nat.le_trans pn.out.size cm.size)) ⟨Nat.le_trans lw.1 (by omega),Nat.le_trans lw.2 (by omega)⟩
  have ang:=zH NA0;have anf:=zH NA1;have XB:=zH NB;clear NA0 NA1 NB;go_region_with (first
   | (go_at_call 95; (with_reducible first|refine ang.out.mono ?_|refine anf.out.mono ?_); rintro e w2 ⟨v,rfl,⟨cs,rfl,A5,n5,c5,A6,n6,c6,rfl,g5,g6⟩,cm⟩; obtain⟨d3,d4,d5,e3,e4,e5⟩:=(Wi.out.keep cm).facts3; have ane:=zH (XB.out w2 cm); have anc:Hid (Calls Tryz.prog 95 #[.agg #[.bool rb.neg,.slice A3 n3 c3,.slice A4 n4 c4]] w2.drew (iJ w2 qb)):=zH (yg (XB.out w2.drew (below_drewN cm 1))); have anb:Hid (Calls Tryz.prog 95 #[.agg #[.bool rb.neg,.slice A3 n3 c3,.slice A4 n4 c4]] w2.drew.drew (iJ w2 qb)):=zH (uM (XB.out w2.drew.drew (below_drewN cm 2))); have G5:=zH g5; have G6:=zH g6; have HBA:=zH cm; clear g5 g6 cm)
   | (go_at_call 95; (with_reducible first|refine ane.out.mono ?_|refine anc.out.mono ?_|refine anb.out.mono ?_); rintro e w3 ⟨v,rfl,⟨cs,rfl,A7,n7,c7,A8,n8,c8,rfl,g7,g8⟩,kR⟩; obtain⟨d0,d1,d2,e0,e1,e2⟩:=((HK0.out.keep HBA.out).keep kR).facts3; obtain⟨d3,d4,d5,e3,e4,e5⟩:=((Wi.out.keep HBA.out).keep kR).facts3; have G7:=zH g7; have G8:=zH g8; have H8:=zH kR; clear g7 g8 kR))
  all_goals go_wp2_with fail
  all_goals
   go_meet
   have b0:=(HK0.out.keep HBA.out).keep H8.out;have b1:=(Wi.out.keep HBA.out).keep H8.out;have b2:=(RX.out.keep HBA.out).keep H8.out;have s1:=Hz.out;have s2:=HBA.out.size;have s3:=H8.out.size;have r5:RS w3 (cY w1 w3) A5 n5 c5 (du qa.n):=(G5.out.below H8.out (fun _ h=>h.2)).sub (xQ s3);have r6:RS w3 (cY w1 w3) A6 n6 c6 (du qa.d):=(G6.out.below H8.out (fun _ h=>h.2)).sub (xQ s3);have r7:RS w3 (cY w1 w3) A7 n7 c7 (du qb.n):=G7.out.sub (uJ s2);have r8:RS w3 (cY w1 w3) A8 n8 c8 (du qb.d):=G8.out.sub (uJ s2);have kk:aA (cY w1 w3) w3 (setAll (setAll w3 w.heap.size 0 [.bool qa.neg,.slice A5 n5 c5,.slice A6 n6 c6]) (w.heap.size+1) 0 [.bool qb.neg,.slice A7 n7 c7,.slice A8 n8 c8]):=
    ((aA.refl _ _).setAll (fun h=>by have:=h.1;omega) _ 0).setAll (fun h=>by have:=h.1;omega) _ 0
   have ff:∀b,cY w1 w3 b→cY w1 (setAll (setAll w3 w.heap.size 0 [.bool qa.neg,.slice A5 n5 c5,.slice A6 n6 c6]) (w.heap.size+1) 0 [.bool qb.neg,.slice A7 n7 c7,.slice A8 n8 c8]) b:=fun b hb=>⟨hb.1,by rw[kW,kW];exact hb.2⟩;have k0:dI (setAll (setAll w3 w.heap.size 0 [.bool qa.neg,.slice A5 n5 c5,.slice A6 n6 c6]) (w.heap.size+1) 0 [.bool qb.neg,.slice A7 n7 c7,.slice A8 n8 c8]) w.heap.size 28 #[.bool qa.neg,.slice A5 n5 c5,.slice A6 n6 c6]:=
    dI.farAll (dI.setAll [.bool qa.neg,.slice A5 n5 c5,.slice A6 n6 c6] b0 rfl) (by omega) _ 0
   have k1:dI (setAll (setAll w3 w.heap.size 0 [.bool qa.neg,.slice A5 n5 c5,.slice A6 n6 c6]) (w.heap.size+1) 0 [.bool qb.neg,.slice A7 n7 c7,.slice A8 n8 c8]) (w.heap.size+1) 28 #[.bool qb.neg,.slice A7 n7 c7,.slice A8 n8 c8]:=
    dI.setAll [.bool qb.neg,.slice A7 n7 c7,.slice A8 n8 c8] (dI.farAll b1 (by omega) _ 0) rfl
   have k2:dI (setAll (setAll w3 w.heap.size 0 [.bool qa.neg,.slice A5 n5 c5,.slice A6 n6 c6]) (w.heap.size+1) 0 [.bool qb.neg,.slice A7 n7 c7,.slice A8 n8 c8]) (w.heap.size+1+1) 28 #[.bool false,.slice none 0 0,.slice none 0 0]:=
    dI.farAll (dI.farAll b2 (by omega) _ 0) (by omega) _ 0
   have k3:Below w.heap.size w (setAll (setAll w3 w.heap.size 0 [.bool qa.neg,.slice A5 n5 c5,.slice A6 n6 c6]) (w.heap.size+1) 0 [.bool qb.neg,.slice A7 n7 c7,.slice A8 n8 c8]):=
    km (km (ao (ao pn.out HBA.out) H8.out) (Nat.le_refl _) _ 0) (Nat.le_succ _) _ 0
   exact⟨A5,n5,c5,A6,n6,c6,A7,n7,c7,A8,n8,c8,k0,k1,k2,r5.keep ff kk,r6.keep ff kk,r7.keep ff kk,r8.keep ff kk,k3⟩
 case rest=>
  obtain⟨A5,n5,c5,A6,n6,c6,A7,n7,c7,A8,n8,c8,b0,b1,b2,r5,r6,r7,r8,Xe⟩:=hcut;have R5:=zH r5;have R6:=zH r6;have R7:=zH r7;have R8:=zH r8;have l5:=(mU iP (by omega)).1;have l6:=(mU iP (by omega)).2;have l7:=(mU lw (by omega)).1;have l8:=(mU lw (by omega)).2;rw[HQA.out,r5.len] at l5;rw[HQA.out,r6.len] at l6;rw[HQB.out,r7.len] at l7;rw[HQB.out,r8.len] at l8;have HX:=zH (oA (Nat.le_of_eq r5.len) (Nat.le_of_eq r8.len));have HY:=zH (oA (Nat.le_of_eq r7.len) (Nat.le_of_eq r6.len));have hH:∀w',Up wc w'→Up wc w'∧w'.cell? ⟨w.heap.size,0,none⟩=some (.bool qa.neg)∧w'.cell? ⟨w.heap.size,1,none⟩=some (.slice A5 n5 c5)∧w'.cell? ⟨w.heap.size,2,none⟩=some (.slice A6 n6 c6)∧ w'.cell? ⟨w.heap.size+1,0,none⟩=some (.bool qb.neg)∧w'.cell? ⟨w.heap.size+1,1,none⟩=some (.slice A7 n7 c7)∧w'.cell? ⟨w.heap.size+1,2,none⟩=some (.slice A8 n8 c8):=
   fun w' hu=>⟨hu,(b0.keep hu).cell 0,(b0.keep hu).cell 1,(b0.keep hu).cell 2,(b1.keep hu).cell 0,(b1.keep hu).cell 1,(b1.keep hu).cell 2⟩
  have HH:=zH hH;have B0:=zH b0;have B1:=zH b1;have B2:=zH b2;have HBX:=zH Xe;have m1:∀w',Up wc w'→Calls Tryz.prog 193 #[.slice A5 n5 c5,.slice A8 n8 c8] w' (jQ w' 172 (du (qa.n*qb.d))):=fun w' hu=>by
   have:=Bz (R5.out.below hu.out (fun _ h=>h.2)) (R8.out.below hu.out (fun _ h=>h.2)) (fun b h=>Nat.lt_of_lt_of_le h.2 hu.out.size) (fun b h=>Nat.lt_of_lt_of_le h.2 hu.out.size) (by omega) (by omega)
   rwa [bF,bF] at this
  have m2:∀w',Up wc w'→Calls Tryz.prog 193 #[.slice A7 n7 c7,.slice A6 n6 c6] w' (jQ w' 172 (du (qb.n*qa.d))):=fun w' hu=>by
   have:=Bz (R7.out.below hu.out (fun _ h=>h.2)) (R6.out.below hu.out (fun _ h=>h.2)) (fun b h=>Nat.lt_of_lt_of_le h.2 hu.out.size) (fun b h=>Nat.lt_of_lt_of_le h.2 hu.out.size) (by omega) (by omega)
   rwa [bF,bF] at this
  have m3:∀w',Up wc w'→Calls Tryz.prog 193 #[.slice A6 n6 c6,.slice A8 n8 c8] w' (jQ w' 172 (du (qa.d*qb.d))):=fun w' hu=>by
   have:=Bz (R6.out.below hu.out (fun _ h=>h.2)) (R8.out.below hu.out (fun _ h=>h.2)) (fun b h=>Nat.lt_of_lt_of_le h.2 hu.out.size) (fun b h=>Nat.lt_of_lt_of_le h.2 hu.out.size) (by omega) (by omega)
   rwa [bF,bF] at this
  have HD:=zH (oA (Nat.le_of_eq R6.out.len) (Nat.le_of_eq R8.out.len));obtain⟨s1,nM⟩:∃s,qf qa.neg (qa.n*qb.d) qb.neg (qb.n*qa.d)=s:=⟨_,rfl⟩;have fU:(du s1.2).length≤268435457:=by
   rw[←nM];exact Np (Nat.le_trans HX.out (by omega)) (Nat.le_trans HY.out (by omega))
  have nR:yq qa qb=eB s1.1 s1.2 (qa.d*qb.d):=by unfold yq;rw[nM]
  have m4:∀(w':World) (S9 S0:Nat→Prop) (A9 A0:Option Addr) (n9 c9 n0 c0:Nat),n9=(du (qa.n*qb.d)).length→n0=(du (qb.n*qa.d)).length→RS w' S9 A9 n9 c9 (du (qa.n*qb.d))→RS w' S0 A0 n0 c0 (du (qb.n*qa.d))→(∀b,S9 b→b<w'.heap.size)→(∀b,S0 b→b<w'.heap.size)→ Calls Tryz.prog 192 #[.bool qa.neg,.slice A9 n9 c9,.bool qb.neg,.slice A0 n0 c0] w' (RI w' s1):=fun w' S9 S0 A9 A0 n9 c9 n0 c0 e9 e0 h9 h0 hS9 hS0=>by
   have:=XO qa.neg qb.neg h9 h0 hS9 hS0 (by have:=HX.out;omega) (by have:=HY.out;omega)
   rwa [bF,bF,nM] at this
  have M1:=zH m1;have M2:=zH m2;have M3:=zH m3;have M4:=zH m4;have HSL:=zH fU;have ans:=zH nR;clear r5 r6 r7 r8 hH b0 b1 b2 Xe d0 d1 d2 e0 e1 e2 d3 d4 d5 e3 e4 e5 m1 m2 m3 m4 nM fU nR;go_upto_region 2 with(fail);go_region_held3 (fun w'=>Up wc w'∧w'.cell? ⟨w.heap.size,0,none⟩=some (.bool qa.neg)∧w'.cell? ⟨w.heap.size,1,none⟩=some (.slice A5 n5 c5)∧w'.cell? ⟨w.heap.size,2,none⟩=some (.slice A6 n6 c6)∧ w'.cell? ⟨w.heap.size+1,0,none⟩=some (.bool qb.neg)∧w'.cell? ⟨w.heap.size+1,1,none⟩=some (.slice A7 n7 c7)∧w'.cell? ⟨w.heap.size+1,2,none⟩=some (.slice A8 n8 c8))
   (first|assumption|exact HH.out _ (Up.start wc)|exact HH.out _ (Up.more (‹Up wc _∧_›).1 ‹Below _ _ _›))
   (first
    | (go_at_call 193; (with_reducible refine(M1.out _ (‹Up wc _∧_›).1).mono ?_); rintro e w5 h9; obtain⟨A9,n9,c9,rfl,hn9,hr9,hb9⟩:=h9.slice; obtain⟨S9,ae0,hS9⟩:∃S9:Nat→Prop,RS w5 S9 A9 n9 c9 (du (qa.n*qb.d))∧∀b,S9 b→b<w5.heap.size:=⟨_,hr9,fun b h=>h.2⟩; have HR9:=zH ae0; have HS9:=zH hS9; have HN9:=zH hn9; clear h9 hr9 hn9 ae0 hS9)
    | (go_at_call 193; (with_reducible refine(M2.out _ (‹Up wc _∧_›).1).mono ?_); rintro e w6 h9; obtain⟨A0,n0,c0,rfl,hn0,Cz,hb0⟩:=h9.slice; obtain⟨S0,ae5,hS0⟩:∃S0:Nat→Prop,RS w6 S0 A0 n0 c0 (du (qb.n*qa.d))∧∀b,S0 b→b<w6.heap.size:=⟨_,Cz,fun b h=>h.2⟩; have HR0:=zH ae5; have HS0:=zH hS0; have HN0:=zH hn0; have amW:=zH (HR9.out.below hb0 HS9.out); have HF9:Hid (∀b,S9 b→b<w6.heap.size):=zH (fun b h=>Nat.lt_of_lt_of_le (HS9.out b h) hb0.size); clear h9 Cz hn0 ae5 hS0)
    | (go_at_call 192; (with_reducible refine(M4.out _ _ _ _ _ _ _ _ _ HN9.out HN0.out amW.out HR0.out HF9.out HS0.out).mono ?_); rintro e w7 ⟨A1,n1,c1,rfl,hn1,hr1,cK⟩; have HR1:=zH hr1; have HN1:=zH hn1; clear hr1 hn1))
  all_goals
   have hu:Up wc w7:=(‹Up wc w7∧_›).1;have HU:=zH hu;obtain⟨S1,ae3,hS1⟩:∃S1:Nat→Prop,RS w7 S1 A1 n1 c1 (du s1.2)∧∀b,S1 b→b<w7.heap.size:=⟨_,HR1.out,fun b h=>h.2⟩;have amZ:=zH ae3;have agC:=zH hS1;have BB2:=zH (B2.out.keep hu);have BX7:=zH (ao HBX.out hu.out);have asl:n1≤268435457:=by have:=HN1.out;have:=HSL.out;omega
   clear ae3 hS1 hu;go_wp2_with fail;refine(M3.out _ HU.out).mono ?_;rintro e w8 h;obtain⟨A2',n2',c2',rfl,akp,ae2,Xf⟩:=h.slice;have asj:n2'≤268435457:=by have:=HD.out;omega
   have agE:=zH (amZ.out.below Xf agC.out);have agB:Hid (∀b,S1 b→b<w8.heap.size):=zH (fun b h=>Nat.lt_of_lt_of_le (agC.out b h) Xf.size);have amY:=zH ae2;have BB3:=zH (BB2.out.keep Xf);have BX8:=zH (ao BX7.out Xf);clear h akp ae2 Xf;go_wp2_with fail;refine(BC s1.1 agE.out amY.out agB.out (fun b h=>h.2) (by omega) (by omega)).mono ?_;rintro e w9 ⟨v,rfl,⟨cs,rfl,hr⟩,hb⟩;have j4:=hr;obtain⟨A5',n5',c5',A6',n6',c6',rfl,_,_⟩:=j4;rw[bF,bF,←ans.out] at hr ⊢;obtain⟨c0,c1,c2,f0,f1,f2⟩:=(BB3.out.keep hb).facts3;have HK4:=zH (BB3.out.keep hb);have yz:=zH (ao BX8.out hb);have pk:=zH hr;obtain⟨q,hq⟩:∃q,yq qa qb=q:=⟨_,rfl⟩;rw[hq] at pk ⊢;have HQ:=zH hq;have jM:=BB3.out.lt;clear hr hb hq;go_wp2_with fail;refine gG (x:=q) (S:=cY w8 w9) (cs:=[.bool q.neg,.slice A5' n5' c5',.slice A6' n6' c6']) rfl rfl (by omega) HK4.out rfl Tryz.underlying28 rfl (by kernel_rfl) pk.out (fun b hb=>?_) yz.out rfl (by rw[←HQ.out];exact id);have h1:=hb.1;exact⟨⟨by omega,hb.2⟩,by omega⟩
theorem S3 {S S2:Nat→Prop} {va vb:Value} {ra rb:Raw} {w:World} (ha:SV w S va ra) (hb:SV w S2 vb rb) (hS:∀b,S b→b<w.heap.size) (iM:∀b,S2 b→b<w.heap.size) (iP:ra.short 67108864) (lw:rb.short 67108864) : Calls Tryz.prog 99 #[va,vb] w (iJ w (yq ra.q rb.flip.q)):=by
 obtain⟨A,n,c,A2,n2,c2,rfl,h1,h2⟩:=ha.raw_cases;obtain⟨A3,n3,c3,A4,n4,c4,rfl,h3,h4⟩:=hb.raw_cases;have gD:Below w.heap.size w (((w.alloc (.cells #[.bool ra.neg,.slice A n c,.slice A2 n2 c2] 28)).alloc (.cells #[.bool (!rb.neg),.slice A3 n3 c3,.slice A4 n4 c4] 28)).alloc (.cells #[.bool false,.slice none 0 0,.slice none 0 0] 28)):=
  (((Below.refl _ _).alloc (Nat.le_refl _) _).alloc (by simp) _).alloc (by simp;omega) _
 obtain⟨w1,gl⟩:∃x,((w.alloc (.cells #[.bool ra.neg,.slice A n c,.slice A2 n2 c2] 28)).alloc (.cells #[.bool (!rb.neg),.slice A3 n3 c3,.slice A4 n4 c4] 28)).alloc (.cells #[.bool false,.slice none 0 0,.slice none 0 0] 28)=x:=⟨_,rfl⟩;have nM:w1.heap.size=w.heap.size+3:=by rw[←gl];simp
 have hZ:dI w1 (w.heap.size+1+1) 28 #[.bool false,.slice none 0 0,.slice none 0 0]:=by rw[←gl];exact dI.new' (by simp) _ _
 rw[gl] at gD;have Ah:SV w1 S2 (.agg #[.bool (!rb.neg),.slice A3 n3 c3,.slice A4 n4 c4]) rb.flip:=⟨_,rfl,A3,n3,c3,A4,n4,c4,rfl,h3.below gD iM,h4.below gD iM⟩;have HWA:=zH (ha.below gD hS);have HWB:=zH Ah;have oS:=zH gl;have pn:=zH gD;have RX:=zH hZ;have Hz:=zH nM;obtain⟨q,hq⟩:∃q,yq ra.q rb.flip.q=q:=⟨_,rfl⟩;rw[hq];have HQ:=zH hq;clear ha hb h1 h2 h3 h4 gl gD hZ nM hq Ah;go_enter Tryz.func99,Tryz.ntmps99;go_wp2_with fail;rw[oS.out];refine(VU HWA.out HWB.out (fun b hb=>Nat.lt_of_lt_of_le (hS b hb) pn.out.size) (fun b hb=>Nat.lt_of_lt_of_le (iM b hb) pn.out.size) iP lw).mono ?_;rintro e w2 ⟨v,rfl,⟨cs,rfl,hr⟩,hb⟩;have j4:=hr;obtain⟨A5,n5,c5,A6,n6,c6,rfl,_,_⟩:=j4;obtain⟨c0,c1,c2',f0,f1,f2⟩:=(RX.out.keep hb).facts3;have HK:=zH (RX.out.keep hb);have fg:=zH (ao pn.out hb);rw[HQ.out] at hr ⊢;have HR:=zH hr;clear hr hb;go_wp2_with fail;refine gG (x:=q) (S:=cY w1 w2) (cs:=[.bool q.neg,.slice A5 n5 c5,.slice A6 n6 c6]) rfl rfl (by omega) HK.out rfl Tryz.underlying28 rfl (by kernel_rfl) HR.out (fun b hb=>?_) fg.out rfl id;have h1:=hb.1;rw[Hz.out] at h1;exact⟨⟨by omega,hb.2⟩,by omega⟩
theorem BG {n:Nat}:(du n).length=0↔n=0:=by rw[List.length_eq_zero_iff,gL]
theorem VA {S S2:Nat→Prop} {va vb:Value} {ra rb:Raw} {w:World} (ha:SV w S va ra) (hb:SV w S2 vb rb) (hS:∀b,S b→b<w.heap.size) (iM:∀b,S2 b→b<w.heap.size) (iP:ra.short 67108864) (lw:rb.short 67108864) : Calls Tryz.prog 54 #[va,vb] w (jZ w (.int .i64 (oK ra.q rb.flip.q))):=by
 obtain⟨A,n,c,A2,n2,c2,rfl,h1,h2⟩:=ha.raw_cases;obtain⟨A3,n3,c3,A4,n4,c4,rfl,h3,h4⟩:=hb.raw_cases;have gD:Below w.heap.size w ((w.alloc (.cells #[.bool ra.neg,.slice A n c,.slice A2 n2 c2] 28)).alloc (.cells #[.bool rb.neg,.slice A3 n3 c3,.slice A4 n4 c4] 28)):=
  ((Below.refl _ _).alloc (Nat.le_refl _) _).alloc (by simp) _
 obtain⟨w1,gl⟩:∃x,(w.alloc (.cells #[.bool ra.neg,.slice A n c,.slice A2 n2 c2] 28)).alloc (.cells #[.bool rb.neg,.slice A3 n3 c3,.slice A4 n4 c4] 28)=x:=⟨_,rfl⟩;rw[gl] at gD;have HWA:=zH (ha.below gD hS);have HWB:=zH (hb.below gD iM);have oS:=zH gl;have pn:=zH gD;obtain⟨q,hq⟩:∃q,yq ra.q rb.flip.q=q:=⟨_,rfl⟩;have hc:oK ra.q rb.flip.q=if q.neg then -1 else if q.n=0 then 0 else 1:=by unfold oK;rw[hq]
 obtain⟨z,hz⟩:∃z,oK ra.q rb.flip.q=z:=⟨_,rfl⟩;rw[hz] at hc ⊢;have HC:=zH hc;have HQ:=zH hq;clear ha hb h1 h2 h3 h4 gl gD hq hc hz;go_enter Tryz.func54,Tryz.ntmps54;go_wp2_with fail;rw[oS.out];refine(S3 HWA.out HWB.out (fun b hb=>Nat.lt_of_lt_of_le (hS b hb) pn.out.size) (fun b hb=>Nat.lt_of_lt_of_le (iM b hb) pn.out.size) iP lw).mono ?_;rintro e w2 ⟨v,rfl,⟨cs,rfl,A5,n5,c5,A6,n6,c6,rfl,h5,h6⟩,hb⟩;rw[HQ.out] at h5 h6 ⊢;have fg:=zH (ao pn.out hb);have hn5:=h5.len;have h0:=BG (n:=q.n);rw[hn5] at h0;have H0:=zH h0;have hm:=h5.max;clear h5 h6 hb hn5 h0 HQ;obtain⟨YL,qn,qd⟩:=q;cases YL with
 | true=>
  go_wp2_with fail;go_ret
  exact⟨by rw[HC.out];rfl,fg.out.alloc fg.out.size _⟩
 | false=>
  by_cases hz:n5=0
  ·have PL:qn=0:=H0.out.1 hz;subst hz;subst PL;go_wp2_with fail;go_ret
   exact⟨by rw[HC.out];rfl,fg.out.alloc fg.out.size _⟩
  ·have hb0:((n5:Int)==0)=false:=by rw[beq_eq_false_iff_ne];omega
   have PL:qn≠0:=fun e=>hz (H0.out.2 e);have HQ0:=zH PL;clear PL hz;go_wp2_with fail;go_ret
   exact⟨by rw[HC.out];simp[HQ0.out],fg.out.alloc fg.out.size _⟩
theorem Ke {S:Nat→Prop} {v:Value} {r:Raw} {w:World} (h:SV w S v r) (hS:∀b,S b→b<w.heap.size) (hl:r.short 536870912) : Calls Tryz.prog 43 #[v] w (jZ w (.bool r.valid)):=by
 obtain⟨A,n,c,A2,n2,c2,rfl,h1,h2⟩:=h.raw_cases;have gD:Below w.heap.size w (w.alloc (.cells #[.bool r.neg,.slice A n c,.slice A2 n2 c2] 28)):=(Below.refl _ _).alloc (Nat.le_refl _) _;have xF:dI (w.alloc (.cells #[.bool r.neg,.slice A n c,.slice A2 n2 c2] 28)) w.heap.size 28 #[.bool r.neg,.slice A n c,.slice A2 n2 c2]:=dI.new _ _ _;obtain⟨w1,gl⟩:∃x,w.alloc (.cells #[.bool r.neg,.slice A n c,.slice A2 n2 c2] 28)=x:=⟨_,rfl⟩;rw[gl] at gD xF;have HV:=zH (h.below gD hS);have oS:=zH gl;have pn:=zH gD;have Wg:=zH xF;have H1:=zH (h1.below gD hS);have H2:=zH (h2.below gD hS);obtain⟨q,hq⟩:∃q,r.q=q:=⟨_,rfl⟩;obtain⟨z,hz⟩:∃z,r.valid=z:=⟨_,rfl⟩;have fL:z=(r.neg==q.neg&&(decide (r.num=du q.n)&&decide (r.den=du q.d))):=by rw[←hz,←hq];rfl
 rw[hz];obtain⟨neg,num,den⟩:=r;have HQ:=zH hq;have HZ:=zH fL;clear h h1 h2 gl gD xF hq hz fL;go_enter Tryz.func43,Tryz.ntmps43;go_wp2_with fail;rw[oS.out];refine(oq HV.out (fun b hb=>Nat.lt_of_lt_of_le (hS b hb) pn.out.size) hl).mono ?_;rintro e w2 ⟨v,rfl,⟨cs,rfl,A5,n5,c5,A6,n6,c6,rfl,h5,h6⟩,hb⟩;rw[HQ.out] at h5 h6 ⊢;obtain⟨d0,d1,d2,_,_,_⟩:=((Wg.out.keep hb).alloc (.cells #[.bool q.neg,.slice A5 n5 c5,.slice A6 n6 c6] 28)).facts3;have cm:Below w.heap.size w (w2.alloc (.cells #[.bool q.neg,.slice A5 n5 c5,.slice A6 n6 c6] 28)):=(ao pn.out hb).alloc (ao pn.out hb).size _;have hn1:RS (w2.alloc (.cells #[.bool q.neg,.slice A5 n5 c5,.slice A6 n6 c6] 28)) S A n c num:=(H1.out.below hb (fun b hb=>Nat.lt_of_lt_of_le (hS b hb) pn.out.size)).below ((Below.refl _ _).alloc (Nat.le_refl _) _) (fun b h=>Nat.lt_of_lt_of_le (hS b h) (ao pn.out hb).size);have hn2:RS (w2.alloc (.cells #[.bool q.neg,.slice A5 n5 c5,.slice A6 n6 c6] 28)) S A2 n2 c2 den:=(H2.out.below hb (fun b hb=>Nat.lt_of_lt_of_le (hS b hb) pn.out.size)).below ((Below.refl _ _).alloc (Nat.le_refl _) _) (fun b h=>Nat.lt_of_lt_of_le (hS b h) (ao pn.out hb).size);have hn5:RS (w2.alloc (.cells #[.bool q.neg,.slice A5 n5 c5,.slice A6 n6 c6] 28)) (cY w1 w2) A5 n5 c5 (du q.n):=h5.below ((Below.refl _ _).alloc (Nat.le_refl _) _) (fun b h=>h.2);have hn6:RS (w2.alloc (.cells #[.bool q.neg,.slice A5 n5 c5,.slice A6 n6 c6] 28)) (cY w1 w2) A6 n6 c6 (du q.d):=h6.below ((Below.refl _ _).alloc (Nat.le_refl _) _) (fun b h=>h.2);have N1:=zH hn1;have N2:=zH hn2;have N5:=zH hn5;have N6:=zH hn6;have B2:=zH cm;clear h5 h6 hb cm hn1 hn2 hn5 hn6;by_cases he:neg=q.neg
 ·have Ai:(neg==q.neg)=true:=by simpa using he
  have he2:(!neg==!q.neg)=true:=by simpa using he
  go_wp2_with fail;refine(Ap N1.out N5.out).mono ?_;rintro e w' ⟨rfl,m,rfl⟩;by_cases hx:num=du q.n
  ·rw[decide_eq_true hx];go_wp2_with fail;refine(Ap (N2.out.drewN m) (N6.out.drewN m)).mono ?_;rintro e w' ⟨rfl,m2,rfl⟩;obtain⟨y,hy⟩:∃y,decide (den=du q.d)=y:=⟨_,rfl⟩;have hzy:z=y:=by rw[HZ.out,decide_eq_true hx,hy];simp[he]
   rw[hy,←hzy];clear hy hzy hx;go_wp2_with fail;go_ret
   exact⟨rfl,below_drewN B2.out _⟩
  ·have bm:z=false:=by rw[HZ.out,decide_eq_false hx];simp
   rw[decide_eq_false hx];have dU:=zH bm;clear hx bm;go_wp2_with fail;go_ret
   exact⟨by rw[dU.out];rfl,below_drewN B2.out _⟩
 ·have Ai:(neg==q.neg)=false:=by simpa using he
  have bm:z=false:=by rw[HZ.out];simp[he]
  have dU:=zH bm;clear bm he;go_wp2_with fail;go_ret
  exact⟨by rw[dU.out];rfl,B2.out⟩
theorem qg {y:ByteArray} {l:List UInt8} (h:y≠⟨l.toArray⟩):(y.toList==l)=false:=by
 rw[ByteArray.toList_eq];rw[beq_eq_false_iff_ne];intro e;apply h;apply ByteArray.ext;rw[←e]
theorem gm (a b:List UInt8):((⟨a.toArray⟩:ByteArray)++⟨b.toArray⟩)=⟨(a++b).toArray⟩:=by
 apply ByteArray.ext;rw[ByteArray.data_append];simp
theorem Nk {S:Nat→Prop} {v:Value} {r:Raw} {w:World} (h:SV w S v r) (hS:∀b,S b→b<w.heap.size) (hl:r.short 67108864) : Calls Tryz.prog 84 #[v] w (jZ w (.string ⟨(iC r.q).toArray⟩)):=by
 obtain⟨A,n,c,A2,n2,c2,rfl,h1,h2⟩:=h.raw_cases;have gD:Below w.heap.size w (w.alloc (.cells #[.bool r.neg,.slice A n c,.slice A2 n2 c2] 28)):=(Below.refl _ _).alloc (Nat.le_refl _) _;have xF:dI (w.alloc (.cells #[.bool r.neg,.slice A n c,.slice A2 n2 c2] 28)) w.heap.size 28 #[.bool r.neg,.slice A n c,.slice A2 n2 c2]:=dI.new _ _ _;obtain⟨w1,gl⟩:∃x,w.alloc (.cells #[.bool r.neg,.slice A n c,.slice A2 n2 c2] 28)=x:=⟨_,rfl⟩;rw[gl] at gD xF;have nM:w1.heap.size=w.heap.size+1:=by rw[←gl];simp
 have HV:=zH (h.below gD hS);have oS:=zH gl;have pn:=zH gD;have Wg:=zH xF;have Hz:=zH nM;have Sq:=(mU hl (by omega)).1;have Jk:=(mU hl (by omega)).2;obtain⟨q,hq⟩:∃q,r.q=q:=⟨_,rfl⟩;rw[hq] at Sq Jk;rw[hq];obtain⟨neg,num,den⟩:=r;have HQ:=zH hq;have HQ1:=zH Sq;have HQ2:=zH Jk;obtain⟨T,hT⟩:∃T:ByteArray,⟨(iC q).toArray⟩=T:=⟨_,rfl⟩;rw[hT];have HT:=zH hT;clear h h1 h2 gl gD xF hq Sq Jk nM hT;go_enter Tryz.func84,Tryz.ntmps84;go_wp2_with fail;rw[oS.out];refine(oq HV.out (fun b hb=>Nat.lt_of_lt_of_le (hS b hb) pn.out.size) ⟨Nat.le_trans hl.1 (by omega),Nat.le_trans hl.2 (by omega)⟩).mono ?_;rintro e w2 ⟨v,rfl,⟨cs,rfl,A5,n5,c5,A6,n6,c6,rfl,h5,h6⟩,hb⟩;rw[HQ.out] at h5 h6 ⊢;obtain⟨c0,c1,c2',f0,f1,f2⟩:=(Wg.out.keep hb).facts3;have b3:Below w.heap.size w (setAll w2 w.heap.size 0 [.bool q.neg,.slice A5 n5 c5,.slice A6 n6 c6]):=km (ao pn.out hb) (Nat.le_refl _) _ 0;have k3:dI (setAll w2 w.heap.size 0 [.bool q.neg,.slice A5 n5 c5,.slice A6 n6 c6]) w.heap.size 28 #[.bool q.neg,.slice A5 n5 c5,.slice A6 n6 c6]:=(Wg.out.keep hb).setAll [.bool q.neg,.slice A5 n5 c5,.slice A6 n6 c6] rfl;have kp:aA (cY w1 w2) w2 (setAll w2 w.heap.size 0 [.bool q.neg,.slice A5 n5 c5,.slice A6 n6 c6]):=(aA.refl _ _).setAll (fun h=>by have:=h.1;have:=Hz.out;omega) _ 0;have r5:=h5.keep (fun _ h=>h) kp;have r6:=h6.keep (fun _ h=>h) kp;have z3:(setAll w2 w.heap.size 0 [.bool q.neg,.slice A5 n5 c5,.slice A6 n6 c6]).heap.size=w2.heap.size:=kW _ _ _;obtain⟨w3,hw3⟩:∃x,setAll w2 w.heap.size 0 [.bool q.neg,.slice A5 n5 c5,.slice A6 n6 c6]=x:=⟨_,rfl⟩;rw[hw3] at b3 k3 r5 r6 z3;have hl5:n5≤67108864:=by have:=HQ1.out;have:=r5.len;omega
 have hl6:n6≤67108864:=by have:=HQ2.out;have:=r6.len;omega
 have HW3:Hid (((w2.setCell ⟨w.heap.size,0,none⟩ (.bool q.neg)).setCell ⟨w.heap.size,1,none⟩ (.slice A5 n5 c5)).setCell ⟨w.heap.size,2,none⟩ (.slice A6 n6 c6)=w3):=zH hw3;have B3:=zH b3;have K3:=zH k3;have R5:=zH r5;have R6:=zH r6;have Z3:=zH z3;clear h5 h6 hb b3 k3 kp r5 r6 hw3 z3;go_wp2_with fail;rw[HW3.out];have t5:=Ik R5.out (fun b h=>by rw[Z3.out];exact h.2) (by omega);rw[bF] at t5;obtain⟨x,hx⟩:∃x:ByteArray,⟨(bJ q.n).toArray⟩=x:=⟨_,rfl⟩;rw[hx] at t5;have PC:x.size≤1000000000:=by
  have:=lA HQ1.out;rw[←hx];show(bJ q.n).toArray.size≤_;rw[List.size_toArray];omega
 have HX:=zH hx;have T5:=zH t5;clear hx t5;refine T5.out.mono ?_;rintro e w4 ⟨rfl,j7⟩;obtain⟨d0,d1,d2,_,_,_⟩:=(K3.out.keep j7).facts3;have R64:=zH (R6.out.below j7 (fun b h=>by rw[Z3.out];exact h.2));have hz4:=j7.size;have t6:=Ik R64.out (fun b h=>Nat.lt_of_lt_of_le h.2 (by rw[←Z3.out];exact hz4)) (by omega);rw[bF] at t6;obtain⟨y,hy⟩:∃y:ByteArray,⟨(bJ q.d).toArray⟩=y:=⟨_,rfl⟩;rw[hy] at t6;have hys:y.size≤1000000000:=by
  have:=lA HQ2.out;rw[←hy];show(bJ q.d).toArray.size≤_;rw[List.size_toArray];omega
 have HY:=zH hy;have T6:=zH t6;have B4:=zH (ao B3.out j7);clear hy t6 j7 hz4;have WU:(y=⟨#[49]⟩)↔bJ q.d=[49]:=by
  rw[←HY.out];constructor
  ·intro e;have:=congrArg (fun b=>b.data.toList) e;simpa using this
  ·intro e;rw[e]
 have HY1:=zH WU;clear WU;obtain⟨YL,qn,qd⟩:=q;cases YL with
 | true=>
  go_wp2_with fail;refine T6.out.mono ?_;rintro e w5 ⟨rfl,CC⟩;have B5:=zH (ao B4.out CC);clear CC;by_cases h1:y=⟨#[49]⟩
  ·have hT:(⟨#[45]⟩:ByteArray)++x=T:=by
    rw[←HT.out,←HX.out];unfold iC;rw[if_pos rfl,if_pos (HY1.out.1 h1),List.append_nil];exact gm [45] _
   have FD:=zH hT;clear hT;go_wp2_with fail;go_ret
   exact⟨congrArg (fun t=>Ending.returned (.string t)) FD.out,B5.out⟩
  ·have fG:(y.toList==[49])=false:=qg h1;have hT:(⟨#[45]⟩:ByteArray)++x++(⟨#[47]⟩++y)=T:=by
    rw[←HT.out,←HX.out,←HY.out];unfold iC;rw[if_pos rfl,if_neg (fun e=>h1 (HY1.out.2 e))];exact(congr (congrArg HAppend.hAppend (gm [45] _)) (gm [47] _)).trans (gm _ _)
   have FD:=zH hT;clear hT h1;have arJ:((⟨#[45]⟩:ByteArray)++x).size≤1000000001:=by rw[ByteArray.size_append];show 1+_≤_;omega
   have arF:((⟨#[47]⟩:ByteArray)++y).size≤1000000001:=by rw[ByteArray.size_append];show 1+_≤_;omega
   go_wp2_with fail;go_ret
   exact⟨congrArg (fun t=>Ending.returned (.string t)) FD.out,B5.out⟩
 | false=>
  go_wp2_with fail;refine T6.out.mono ?_;rintro e w5 ⟨rfl,CC⟩;have B5:=zH (ao B4.out CC);clear CC;by_cases h1:y=⟨#[49]⟩
  ·have hT:x=T:=by
    rw[←HT.out,←HX.out];unfold iC;rw[if_neg (by simp),if_pos (HY1.out.1 h1),List.append_nil,List.nil_append]
   have FD:=zH hT;clear hT;go_wp2_with fail;go_ret
   exact⟨congrArg (fun t=>Ending.returned (.string t)) FD.out,B5.out⟩
  ·have fG:(y.toList==[49])=false:=qg h1;have hT:x++((⟨#[47]⟩:ByteArray)++y)=T:=by
    rw[←HT.out,←HX.out,←HY.out];unfold iC;rw[if_neg (by simp),if_neg (fun e=>h1 (HY1.out.2 e)),List.nil_append];exact(congrArg _ (gm [47] _)).trans (gm _ _)
   have FD:=zH hT;clear hT h1;go_wp2_with fail;go_ret
   exact⟨congrArg (fun t=>Ending.returned (.string t)) FD.out,B5.out⟩
theorem gN {a b:Bool} (h:a=true↔b=true):Ending.returned (.bool a)=.returned (.bool b):=by rw[Bool.eq_iff_iff.2 h]
theorem zO (c:UInt8) (w:World):Calls Tryz.prog 214 #[.int .u8 (c.toNat:Int)] w (gW w (.bool (gz c))):=by
 have hc:=c.toNat_lt;obtain⟨n,hn⟩:∃n,c.toNat=n:=⟨_,rfl⟩;unfold gz;rw[hn] at hc ⊢;go_enter Tryz.func214,Tryz.ntmps214;go_wp2_with fail
 all_goals
  go_ret
  exact⟨gN (by simp;omega),rfl⟩
theorem ED (c:UInt8) (w:World):Calls Tryz.prog 216 #[.int .u8 (c.toNat:Int)] w (gW w (.bool (digitB c))):=by
 have hc:=c.toNat_lt;obtain⟨n,hn⟩:∃n,c.toNat=n:=⟨_,rfl⟩;unfold digitB;rw[hn] at hc ⊢;go_enter Tryz.func216,Tryz.ntmps216;go_wp2_with fail
 all_goals
  go_ret
  exact⟨gN (by simp;omega),rfl⟩
theorem Bp (c:UInt8) (w:World):Calls Tryz.prog 140 #[.int .u8 (c.toNat:Int)] w (gW w (.bool (kB c))):=by
 have hc:=c.toNat_lt;obtain⟨n,hn⟩:∃n,c.toNat=n:=⟨_,rfl⟩;unfold kB;rw[hn] at hc ⊢;go_enter Tryz.func140,Tryz.ntmps140;go_wp2_with fail
 all_goals
  go_ret
  exact⟨gN (by simp;omega),rfl⟩
theorem Xs (c:UInt8):(c==45)=decide (c.toNat=45):=by
 rw[Bool.eq_iff_iff,beq_iff_eq,decide_eq_true_iff];exact⟨fun h=>by rw[h];rfl,fun h=>UInt8.toNat_inj.1 (by rw[h];rfl)⟩
theorem z8 (c:UInt8) (w:World):Calls Tryz.prog 215 #[.int .u8 (c.toNat:Int)] w (gW w (.bool (iB c))):=by
 have hl:=zO c w;have hd:=ED c w;obtain⟨a,ha⟩:∃a,gz c=a:=⟨_,rfl⟩;obtain⟨b,hb⟩:∃a,digitB c=a:=⟨_,rfl⟩;unfold iB;rw[Xs,ha,hb];rw[ha] at hl;rw[hb] at hd;have hc:=c.toNat_lt;obtain⟨n,hn⟩:∃n,c.toNat=n:=⟨_,rfl⟩;rw[hn] at hc hl hd ⊢;have HL:=zH hl;have HD:=zH hd;clear hl hd ha hb hn;go_enter Tryz.func215,Tryz.ntmps215;go_wp2_with fail;refine HL.out.mono ?_;rintro e w' ⟨rfl,rfl⟩;cases a with
 | true=>
  go_wp2_with fail;go_ret
  exact⟨gN (by simp),rfl⟩
 | false=>
  go_wp2_with fail;refine HD.out.mono ?_;rintro e w' ⟨rfl,rfl⟩;cases b with
  | true=>
   go_wp2_with fail;go_ret
   exact⟨gN (by simp),rfl⟩
  | false=>
   go_wp2_with fail;go_ret
   exact⟨gN (by simp;omega),rfl⟩
theorem fm {p:UInt8→Bool}:∀{l:List UInt8} {n:Nat},(∀i x,i<n→l[i]?=some x→p x=true)→n≤l.length→(n=l.length∨∃x,l[n]?=some x∧p x=false)→(l.takeWhile p).length=n
 | [],n,_,hn,_=>by simp at hn;subst hn;rfl
 | y::l,0,_,_,hx=>by
  rcases hx with hx|⟨x,hx,hp⟩
  ·simp at hx
  ·simp at hx;subst hx;simp[hp]
 | y::l,n+1,h,hn,hx=>by
  have hy:p y=true:=h 0 y (by omega) rfl;simp only[List.length_cons] at hn hx;rw[List.takeWhile_cons,if_pos hy,List.length_cons,fm (n:=n) (fun i x hi hx=>h (i+1) x (by omega) (by simpa using hx)) (by omega)];rcases hx with hx|⟨x,hx,hp⟩
  ·exact .inl (by omega)
  ·exact .inr ⟨x,by simpa using hx,hp⟩
theorem str_at {s:ByteArray} {k:Nat} (h:k<s.size):s.data.toList[k]?=some s[k]:=by
 have:k<s.data.toList.length:=by simpa using h
 rw[List.getElem?_eq_getElem this];rfl
theorem dC (s:ByteArray):s.data.toList.length=s.size:=by simp
theorem NC (s:ByteArray) (w:World) (hs:s.size≤9223372036854775807):Calls Tryz.prog 178 #[.string s,.func (.func 215) #[] #[]] w (gW w (.int .i64 ((s.data.toList.takeWhile iB).length:Nat))):=by
 obtain⟨z,hz⟩:∃z,(s.data.toList.takeWhile iB).length=z:=⟨_,rfl⟩;rw[hz];have HZ:=zH hz;clear hz;go_enter Tryz.func178,Tryz.ntmps178;go_wp2_with fail;go_loopw [5] (fun v wr=>∃n:Nat,v=.int .i64 n∧n≤s.size∧(∀i x,i<n→s.data.toList[i]?=some x→iB x=true)∧wr=w) (fun v _=>s.size-(intOf v).toNat)
 case atStart=>exact⟨0,rfl,Nat.zero_le _,fun i x hi=>absurd hi (Nat.not_lt_zero _),rfl⟩
 case round=>
  obtain⟨n,rfl,hn,eR,rfl⟩:=hrel;have HA:=zH eR;clear eR;by_cases hlt:n<s.size
  ·have jX:(n:Int)<(s.size:Int):=by omega
   have hx:=str_at hlt;have hw:=z8 s[n] wr;obtain⟨x,nS⟩:∃x,s[n]=x:=⟨_,rfl⟩;rw[nS] at hx hw;obtain⟨b,hb⟩:∃b,iB x=b:=⟨_,rfl⟩;rw[hb] at hw;have HX:=zH hx;have HW:=zH hw;have HB:=zH hb;clear hx hw hb;go_wp2_with fail;refine HW.out.mono ?_;rintro e w' ⟨rfl,rfl⟩;cases b with
   | true=>
    go_wp2_with fail;go_roundw
    case rel=>
     refine⟨n+1,by go_num,by omega,fun i y hi hy=>?_,trivial⟩;rcases(show i<n∨i=n by omega) with h|h
     ·exact HA.out i y h hy
     ·subst h;rw[HX.out] at hy;injection hy with hy
      rw[←hy];exact HB.out
    case measure=>simp[intOf];omega
   | false=>
    have qW:z=n:=by rw[←HZ.out];exact fm HA.out (by rw[dC];exact hn) (.inr ⟨x,HX.out,HB.out⟩)
    have HN:=zH qW;clear qW;go_wp2_with fail;go_ret
    exact⟨by rw[HN.out];rfl,rfl⟩
  ·have fG:n=s.size:=by omega
   have qW:z=n:=by rw[←HZ.out];exact fm HA.out (by rw[dC];exact hn) (.inl (by rw[dC];exact fG))
   have HN:=zH qW;clear qW fG;go_wp2_with fail;go_ret
   exact⟨by rw[HN.out];rfl,rfl⟩
theorem ND (s:ByteArray) (w:World) (hs:s.size≤9223372036854775807):Calls Tryz.prog 178 #[.string s,.func (.func 216) #[] #[]] w (gW w (.int .i64 ((s.data.toList.takeWhile digitB).length:Nat))):=by
 obtain⟨z,hz⟩:∃z,(s.data.toList.takeWhile digitB).length=z:=⟨_,rfl⟩;rw[hz];have HZ:=zH hz;clear hz;go_enter Tryz.func178,Tryz.ntmps178;go_wp2_with fail;go_loopw [5] (fun v wr=>∃n:Nat,v=.int .i64 n∧n≤s.size∧(∀i x,i<n→s.data.toList[i]?=some x→digitB x=true)∧wr=w) (fun v _=>s.size-(intOf v).toNat)
 case atStart=>exact⟨0,rfl,Nat.zero_le _,fun i x hi=>absurd hi (Nat.not_lt_zero _),rfl⟩
 case round=>
  obtain⟨n,rfl,hn,eR,rfl⟩:=hrel;have HA:=zH eR;clear eR;by_cases hlt:n<s.size
  ·have jX:(n:Int)<(s.size:Int):=by omega
   have hx:=str_at hlt;have hw:=ED s[n] wr;obtain⟨x,nS⟩:∃x,s[n]=x:=⟨_,rfl⟩;rw[nS] at hx hw;obtain⟨b,hb⟩:∃b,digitB x=b:=⟨_,rfl⟩;rw[hb] at hw;have HX:=zH hx;have HW:=zH hw;have HB:=zH hb;clear hx hw hb;go_wp2_with fail;refine HW.out.mono ?_;rintro e w' ⟨rfl,rfl⟩;cases b with
   | true=>
    go_wp2_with fail;go_roundw
    case rel=>
     refine⟨n+1,by go_num,by omega,fun i y hi hy=>?_,trivial⟩;rcases(show i<n∨i=n by omega) with h|h
     ·exact HA.out i y h hy
     ·subst h;rw[HX.out] at hy;injection hy with hy
      rw[←hy];exact HB.out
    case measure=>simp[intOf];omega
   | false=>
    have qW:z=n:=by rw[←HZ.out];exact fm HA.out (by rw[dC];exact hn) (.inr ⟨x,HX.out,HB.out⟩)
    have HN:=zH qW;clear qW;go_wp2_with fail;go_ret
    exact⟨by rw[HN.out];rfl,rfl⟩
  ·have fG:n=s.size:=by omega
   have qW:z=n:=by rw[←HZ.out];exact fm HA.out (by rw[dC];exact hn) (.inl (by rw[dC];exact fG))
   have HN:=zH qW;clear qW fG;go_wp2_with fail;go_ret
   exact⟨by rw[HN.out];rfl,rfl⟩
theorem MW (s:ByteArray) (w:World) (hs:s.size≤9223372036854775807):Calls Tryz.prog 183 #[.string s] w (gW w (.int .i64 (ke s.data.toList:Nat))):=by
 by_cases h:s=⟨#[]⟩
 ·subst h;go_enter Tryz.func183,Tryz.ntmps183;go_wp2_with fail;go_ret
  exact⟨rfl,rfl⟩
 ·have fG:(s.toList==[])=false:=qg (l:=[]) h;have h0:0<s.size:=by
   rcases Nat.eq_zero_or_pos s.size with h0|h0
   ·exact absurd (ByteArray.ext (Array.eq_empty_of_size_eq_zero h0)) h
   ·exact h0
  have ZW:=NC s w hs;have hl:=zO s[0] w;have hx:=str_at h0;obtain⟨x,nS⟩:∃x,s[0]=x:=⟨_,rfl⟩;rw[nS] at hl hx;obtain⟨b,hb⟩:∃b,gz x=b:=⟨_,rfl⟩;obtain⟨z,hz⟩:∃z,(s.data.toList.takeWhile iB).length=z:=⟨_,rfl⟩;have hw:ke s.data.toList=if b then z else 0:=by
   unfold ke;cases hd:s.data.toList with
   | nil=>rw[hd] at hx;cases hx
   | cons y l=>
    rw[hd] at hx;simp at hx;subst hx;simp only[hb];rw[←hd,hz]
  rw[hz] at ZW;rw[hb] at hl;have HS:=zH ZW;have HL:=zH hl;rw[hw];clear ZW hl hb hz hw hx h;cases b with
  | true=>
   rw[if_pos rfl];go_enter Tryz.func183,Tryz.ntmps183;go_wp2_with fail;refine HL.out.mono ?_;rintro e w' ⟨rfl,rfl⟩;go_wp2_with fail;refine HS.out.mono ?_;rintro e w' ⟨rfl,rfl⟩;go_wp2_with fail;go_ret
   exact⟨rfl,rfl⟩
  | false=>
   rw[if_neg (by simp)];go_enter Tryz.func183,Tryz.ntmps183;go_wp2_with fail;refine HL.out.mono ?_;rintro e w' ⟨rfl,rfl⟩;go_wp2_with fail;go_ret
   exact⟨rfl,rfl⟩
theorem adh (p:UInt8→Bool) (l:List UInt8):(l.takeWhile p).length≤l.length:=(List.takeWhile_sublist p).length_le
theorem qz (s:ByteArray) (w:World) (hs:s.size≤9223372036854775807):Calls Tryz.prog 184 #[.string s] w (gW w (.int .i64 (gI s.data.toList:Nat))):=by
 have ZW:=ND s w hs;have yV:=adh digitB s.data.toList;rw[dC] at yV;have afz:gI s.data.toList=gI s.data.toList:=rfl;unfold gI at afz;obtain⟨z,hz⟩:∃z,gI s.data.toList=z:=⟨_,rfl⟩;obtain⟨n,hn⟩:∃n,(s.data.toList.takeWhile digitB).length=n:=⟨_,rfl⟩;rw[hn] at ZW yV;have fL:z=if n=0∨6<n∨(s.data.toList.head?=some 48∧1<n)∨((s.data.toList[n]?.map iB).getD false=true) then 0 else n:=by rw[←hz];unfold gI;rw[hn]
 rw[hz];have HS:=zH ZW;have HZ:=zH fL;clear ZW hz hn fL afz;go_enter Tryz.func184,Tryz.ntmps184;go_wp2_with fail;refine HS.out.mono ?_;rintro e w' ⟨rfl,rfl⟩;by_cases h0:n=0
 ·have kI:z=0:=by rw[HZ.out,if_pos (.inl h0)]
  have qR:=zH kI;subst h0;clear kI;go_wp2_with fail;go_ret
  exact⟨by rw[qR.out];rfl,rfl⟩
 ·have hb0:((n:Int)==0)=false:=by rw[beq_eq_false_iff_ne];omega
  have PM:0<s.size:=by omega
  by_cases h6:6<n
  ·have kI:z=0:=by rw[HZ.out,if_pos (.inr (.inl h6))]
   have qR:=zH kI;have hb6:(6<(n:Int))=True:=eq_true (by omega);clear kI h0;go_wp2_with fail;go_ret
   exact⟨by rw[qR.out];rfl,rfl⟩
  ·have hb6:(6<(n:Int))=False:=eq_false (by omega);have hx:=str_at PM;have P4:s.data.toList.head?=some s[0]:=by rw[List.head?_eq_getElem?];exact hx
   obtain⟨x,nS⟩:∃x,s[0]=x:=⟨_,rfl⟩;rw[nS] at hx P4;have ZN:((x.toNat:Int)==48)=decide (x=48):=by
    rw[Bool.eq_iff_iff,beq_iff_eq,decide_eq_true_iff];exact⟨fun h=>UInt8.toNat_inj.1 (by
     have:x.toNat=48:=by omega
     rw[this];rfl),fun h=>by rw[h];rfl⟩
   have HH:=zH P4;clear hx P4;by_cases h48:x=48∧1<n
   ·have kI:z=0:=by rw[HZ.out,if_pos (.inr (.inr (.inl ⟨by rw[HH.out,h48.1],h48.2⟩)))]
    have qR:=zH kI;rw[decide_eq_true h48.1] at ZN;have cK:(1<(n:Int))=True:=eq_true (by omega);clear kI h0 h6 h48;go_wp2_with fail;go_ret
    exact⟨by rw[qR.out];rfl,rfl⟩
   ·have kJ:∀b,(s.data.toList[n]?.map iB).getD false=b→z=if b then 0 else n:=fun b hb=>by
     rw[HZ.out];cases b with
     | true=>rw[if_pos (.inr (.inr (.inr hb))),if_pos rfl]
     | false=>
      rw[if_neg,if_neg (by simp)];rintro(h|h|h|h)
      ·exact h0 h
      ·exact h6 h
      ·rw[HH.out] at h;exact h48 ⟨by simpa using h.1,h.2⟩
      ·rw[hb] at h;cases h
    have XC:=zH kJ;have eD:∀(c:Bool),((x.toNat:Int)==48)=c→(c=true→¬1<n):=fun c hc h h1=>h48 ⟨by rw[ZN] at hc;simpa[h] using hc,h1⟩;obtain⟨c,hc⟩:∃c,((x.toNat:Int)==48)=c:=⟨_,rfl⟩;have hc1:=eD c hc;clear kJ eD ZN h48;by_cases hlt:n<s.size
    ·have jX:((n:Int)<(s.size:Int))=True:=eq_true (by omega);have hy:=str_at hlt;have hiw:=z8 s[n] w;obtain⟨y,Py⟩:∃y,s[n]=y:=⟨_,rfl⟩;rw[Py] at hy hiw;obtain⟨b,hb⟩:∃b,iB y=b:=⟨_,rfl⟩;rw[hb] at hiw;have iO:=XC.out b (by rw[hy];simpa using hb);have lC:=zH iO;have HI:=zH hiw;clear hy hiw hb iO;cases c with
     | true=>
      have cK:(1<(n:Int))=False:=eq_false (by have:=hc1 rfl;omega);go_wp2_with fail;refine HI.out.mono ?_;rintro e w' ⟨rfl,rfl⟩;cases b with
      | true=>go_wp2_with fail;go_ret;exact⟨by rw[lC.out];rfl,rfl⟩
      | false=>go_wp2_with fail;go_ret;exact⟨by rw[lC.out];rfl,rfl⟩
     | false=>
      go_wp2_with fail;refine HI.out.mono ?_;rintro e w' ⟨rfl,rfl⟩;cases b with
      | true=>go_wp2_with fail;go_ret;exact⟨by rw[lC.out];rfl,rfl⟩
      | false=>go_wp2_with fail;go_ret;exact⟨by rw[lC.out];rfl,rfl⟩
    ·have jX:((n:Int)<(s.size:Int))=False:=eq_false (by omega);have iO:=XC.out false (by rw[List.getElem?_eq_none (by rw[dC];omega)];rfl);have lC:=zH iO;clear iO;cases c with
     | true=>
      have cK:(1<(n:Int))=False:=eq_false (by have:=hc1 rfl;omega);go_wp2_with fail;go_ret
      exact⟨by rw[lC.out];rfl,rfl⟩
     | false=>
      go_wp2_with fail;go_ret
      exact⟨by rw[lC.out];rfl,rfl⟩
theorem E7 {s:ByteArray} {l:List UInt8} (h:s.data.toList=l):s=⟨l.toArray⟩:=by
 apply ByteArray.ext;rw[←h]
theorem sp (s:ByteArray) (k:Nat):s.extract 0 k=⟨(s.data.toList.take k).toArray⟩:=by
 apply E7;rw[ByteArray.data_extract];simp
theorem extract_drop (s:ByteArray) (k:Nat):s.extract k s.size=⟨(s.data.toList.drop k).toArray⟩:=by
 apply E7;rw[ByteArray.data_extract,Array.toList_extract];have:s.size=s.data.toList.length:=by simp
 rw[this];simp[List.extract_eq_take_drop];rw[List.take_of_length_le (by simp)]
theorem Vt (s:ByteArray) (w:World) (hs:s.size≤9223372036854775807):Calls Tryz.prog 229 #[.string s,.string ⟨#[47]⟩] w (yt w (.tuple #[.string ⟨(ek s.data.toList).toArray⟩,.string ⟨(dQ s.data.toList).toArray⟩,.bool (jo s.data.toList)])):=by
 have hi:=Tryz.stringslite_Index_one s 47 w;rcases jW s.data.toList with h|⟨k,hk,h1,h2,h3⟩
 ·rw[h] at hi;obtain⟨c1,c2,c3⟩:=xZ h;rw[c1,c2,c3];have ZU:(⟨s.data.toList.toArray⟩:ByteArray)=s:=rfl;rw[ZU];have HI:=zH hi;clear hi h c1 c2 c3 ZU;go_enter Tryz.func229,Tryz.ntmps229;go_wp2_with fail;refine HI.out.mono ?_;rintro e w' ⟨rfl,rfl⟩;go_wp2_with fail
  go_ret3
  exact⟨rfl,0,rfl⟩
 ·rw[hk] at hi;obtain⟨c1,c2,c3⟩:=sC h1 h2;rw[c1,c2,c3,←sp,←extract_drop];rw[dC] at h3;have HI:=zH hi;have oF:(k:Int)≤(s.size:Int):=by omega
  have hZ:(k:Int)+1≤(s.size:Int):=by omega
  clear hi hk c1 c2 c3 h1 h2;go_enter Tryz.func229,Tryz.ntmps229;go_wp2_with fail;refine HI.out.mono ?_;rintro e w' ⟨rfl,rfl⟩;go_wp2_with fail;go_quiet (fail)
  go_wp2_with fail
  go_ret3
  exact⟨rfl,_,rfl⟩
theorem QS (s:ByteArray) (w:World) (hs:s.size≤9223372036854775807):Calls Tryz.prog 194 #[.string s,.string ⟨#[47]⟩] w (yt w (.tuple #[.string ⟨(ek s.data.toList).toArray⟩,.string ⟨(dQ s.data.toList).toArray⟩,.bool (jo s.data.toList)])):=by
 have h:=Vt s w hs;obtain⟨a,ha⟩:∃a:ByteArray,⟨(ek s.data.toList).toArray⟩=a:=⟨_,rfl⟩;obtain⟨b,hb⟩:∃a:ByteArray,⟨(dQ s.data.toList).toArray⟩=a:=⟨_,rfl⟩;obtain⟨c,hc⟩:∃a,jo s.data.toList=a:=⟨_,rfl⟩;rw[ha,hb,hc] at h ⊢;have H:=zH h;clear h ha hb hc;go_enter Tryz.func194,Tryz.ntmps194;go_wp2_with fail;refine H.out.mono ?_;rintro e w' ⟨rfl,n,rfl⟩;go_wp2_with fail
 go_ret3
 exact⟨rfl,n,rfl⟩
theorem L6 (s:ByteArray):(⟨(ek s.data.toList).toArray⟩:ByteArray).size≤s.size:=by
 show(ek s.data.toList).toArray.size≤_;rw[List.size_toArray,←dC];exact(List.takeWhile_sublist _).length_le
theorem L5 (s:ByteArray):(⟨(dQ s.data.toList).toArray⟩:ByteArray).size≤s.size:=by
 show(dQ s.data.toList).toArray.size≤_;rw[List.size_toArray,←dC];have h:=(List.dropWhile_sublist (l:=s.data.toList) (· !=47)).length_le;unfold dQ;rw[List.length_drop];omega
theorem JQ (s:ByteArray) (w:World) (hs:s.size≤9223372036854775807):Calls Tryz.prog 143 #[.string s] w (jZ w (.bool (iI s.data.toList))):=by
 by_cases h:s=⟨#[]⟩
 ·subst h;go_enter Tryz.func143,Tryz.ntmps143;go_wp2_with fail;go_ret
  exact⟨rfl,Below.refl _ _⟩
 ·have fG:(s.toList==[])=false:=qg (l:=[]) h;have hl0:s.data.toList≠[]:=fun e=>h (E7 e);have hw:=MW s w hs;have hn:=qz s w hs;have hcut:=QS s w hs;obtain⟨x,hx⟩:∃x,ke s.data.toList=x:=⟨_,rfl⟩;obtain⟨y,hy⟩:∃x,gI s.data.toList=x:=⟨_,rfl⟩;obtain⟨z,hz⟩:∃z,iI s.data.toList=z:=⟨_,rfl⟩;have fL:=hz;unfold iI at fL;rw[if_neg hl0,hx,hy,dC] at fL;rw[hx] at hw;rw[hy] at hn;rw[hz];have HW:=zH hw;have HN:=zH hn;have HZ:=zH fL;clear hw hn hx hy hz hl0 fL;go_enter Tryz.func143,Tryz.ntmps143;go_wp2_with fail;refine HW.out.mono ?_;rintro e w' ⟨rfl,rfl⟩;by_cases h1:x=s.size
  ·have cK:((x:Int)==(s.size:Int))=true:=by rw[beq_iff_eq];omega
   have fF:z=true:=by rw[←HZ.out,if_pos (.inl h1)]
   have ku:=zH fF;clear h1 fF;go_wp2_with fail;go_ret
   exact⟨by rw[ku.out];rfl,Below.refl _ _⟩
  ·have cK:((x:Int)==(s.size:Int))=false:=by rw[beq_eq_false_iff_ne];omega
   go_wp2_with fail;refine HN.out.mono ?_;rintro e w' ⟨rfl,rfl⟩;by_cases h2:y=s.size
   ·have cm:((y:Int)==(s.size:Int))=true:=by rw[beq_iff_eq];omega
    have fF:z=true:=by rw[←HZ.out,if_pos (.inr h2)]
    have ku:=zH fF;clear h2 h1 fF;go_wp2_with fail;go_ret
    exact⟨by rw[ku.out];rfl,Below.refl _ _⟩
   ·have cm:((y:Int)==(s.size:Int))=false:=by rw[beq_eq_false_iff_ne];omega
    have fF:=HZ.out;rw[if_neg (fun h=>h.elim h1 h2)] at fF;have ha:=L6 s;have hb:=L5 s;have Sr:=fun w=>qz ⟨(ek s.data.toList).toArray⟩ w (Nat.le_trans ha hs);have MD:=fun w=>qz ⟨(dQ s.data.toList).toArray⟩ w (Nat.le_trans hb hs);obtain⟨a,W8⟩:∃a:ByteArray,⟨(ek s.data.toList).toArray⟩=a:=⟨_,rfl⟩;obtain⟨b,heb⟩:∃a:ByteArray,⟨(dQ s.data.toList).toArray⟩=a:=⟨_,rfl⟩;obtain⟨c,hec⟩:∃a,jo s.data.toList=a:=⟨_,rfl⟩;have iP:ek s.data.toList=a.data.toList:=by rw[←W8]
    have lw:dQ s.data.toList=b.data.toList:=by rw[←heb]
    rw[W8,heb,hec] at hcut;rw[W8] at Sr ha;rw[heb] at MD hb;rw[iP,lw,hec] at fF;obtain⟨na,aao⟩:∃n,gI a.data.toList=n:=⟨_,rfl⟩;obtain⟨nb,aan⟩:∃n,gI b.data.toList=n:=⟨_,rfl⟩;rw[aao,aan,dC,dC] at fF;rw[aao] at Sr;rw[aan] at MD;have ann:=zH hcut;have HNA:=zH Sr;have XB:=zH MD;have ku:=zH fF;clear h1 h2 fF W8 heb hec iP lw aao aan hcut Sr MD;go_wp2_with fail;refine ann.out.mono ?_;rintro e w2 ⟨rfl,m,rfl⟩;cases c with
    | false=>
     have bm:z=false:=by rw[←ku.out];rfl
     have dU:=zH bm;clear bm;go_wp2_with fail;go_ret
     exact⟨by rw[dU.out];rfl,below_drewN (Below.refl _ _) m⟩
    | true=>
     by_cases h3:a=⟨#[]⟩
     ·have bm:z=false:=by rw[←ku.out,h3];rfl
      have dU:=zH bm;clear bm;subst h3;go_wp2_with fail;go_ret
      exact⟨by rw[dU.out];rfl,below_drewN (Below.refl _ _) m⟩
     ·have asC:(a.toList==[])=false:=qg (l:=[]) h3;have ha4:a.data.toList≠[]:=fun e=>h3 (E7 e);by_cases h4:b=⟨#[]⟩
      ·have bm:z=false:=by rw[←ku.out,h4];simp
       have dU:=zH bm;clear bm h3 ha4;subst h4;go_wp2_with fail;go_ret
       exact⟨by rw[dU.out];rfl,below_drewN (Below.refl _ _) m⟩
      ·have asB:(b.toList==[])=false:=qg (l:=[]) h4;have j7:b.data.toList≠[]:=fun e=>h4 (E7 e);have iO:=ku.out;rw[decide_eq_true ha4,decide_eq_true j7] at iO;have lC:=zH iO;clear iO h3 h4 ha4 j7;go_wp2_with fail;refine(HNA.out _).mono ?_;rintro e w' ⟨rfl,rfl⟩;by_cases h5:na=a.size
       ·have CC:((na:Int)==(a.size:Int))=true:=by rw[beq_iff_eq];omega
        go_wp2_with fail;refine(XB.out _).mono ?_;rintro e w' ⟨rfl,rfl⟩;have bm:z=((nb:Int)==(b.size:Int)):=by
         rw[←lC.out,decide_eq_true h5];rw[Bool.eq_iff_iff];simp;omega
        have dU:=zH bm;clear bm h5;go_wp2_with fail;go_ret
        exact⟨by rw[dU.out];rfl,below_drewN (Below.refl _ _) m⟩
       ·have CC:((na:Int)==(a.size:Int))=false:=by rw[beq_eq_false_iff_ne];omega
        have bm:z=false:=by rw[←lC.out,decide_eq_false h5];simp
        have dU:=zH bm;clear bm h5;go_wp2_with fail;go_ret
        exact⟨by rw[dU.out];rfl,below_drewN (Below.refl _ _) m⟩
def yY (c:UInt8):List UInt8:=if c.toNat=34∨c.toNat=92 then[92,c] else[c]
def sr (l:List UInt8):List UInt8:=l.flatMap yY
def Bn (l:List UInt8):List UInt8:=34::sr l++[34]
theorem LL (l:List UInt8) (c:UInt8):sr (l++[c])=sr l++yY c:=by simp[sr]
theorem QE (l:List UInt8):(sr l).length≤2*l.length:=by
 induction l with
 | nil=>simp[sr]
 | cons x l ih=>
  have:sr (x::l)=yY x++sr l:=rfl;rw[this,List.length_append,List.length_cons];have:(yY x).length≤2:=by unfold yY;split<;>simp
  omega
theorem rk {l:List UInt8} {k:Nat} {x:UInt8} (h:l[k]?=some x):l.take (k+1)=l.take k++[x]:=by rw[List.take_add_one,h];rfl
theorem Ff {p:UInt8→Bool} {l:List UInt8} {k:Nat} {x:UInt8} (h:l[k]?=some x):(l.take (k+1)).all p=((l.take k).all p&&p x):=by rw[rk h];simp
theorem Cl {p:UInt8→Bool} {l:List UInt8} {k:Nat} {x:UInt8} (h:l[k]?=some x) (hp:p x=false):l.all p=false:=by
 rw[List.all_eq_false];exact⟨x,List.mem_of_getElem? h,by simp[hp]⟩
theorem Own.lit {α:Type} [aF α] (w:World) (e:TypeId) (vs:List Value) (xs:List α) (hl:vs.length=xs.length) (h1:aF.sz α=1) (hx:xs.length≤maxLen) (hf:Flat (w.alloc (.cells vs.toArray e)) bz vs xs) : Own (w.alloc (.cells vs.toArray e)) bz w.heap.size e (.slice (some ⟨w.heap.size,0,none⟩) xs.length xs.length) xs:=
 ⟨vs,⟨by rw[h1,Nat.mul_one];exact hl,.inr ⟨w.heap.size,xs.length,vs.toArray,rfl,Nat.le_refl _,heap_alloc_new _ _,Nat.le_refl _,hx,by rw[h1,Nat.mul_one];simpa using hl,by rw[h1,Nat.mul_one,←hl];simp⟩⟩,hf,fun _ h=>h.elim⟩
theorem Oh (s:ByteArray) (w:World) (hs:s.size≤17592186044416):Calls Tryz.prog 101 #[.string s] w (jZ w (.tuple #[.string (if fQ s.data.toList then⟨(Bn s.data.toList).toArray⟩ else⟨#[]⟩),.bool (fQ s.data.toList)])):=by
 obtain⟨l,hl⟩:∃l,s.data.toList=l:=⟨_,rfl⟩;have Sx:l.length=s.size:=by rw[←hl];exact dC s
 have lU:∀k (h:k<s.size),l[k]?=some s[k]:=fun k h=>by rw[←hl];exact str_at h
 rw[hl];obtain⟨b,hb⟩:∃b,fQ l=b:=⟨_,rfl⟩;obtain⟨t,ht⟩:∃t:ByteArray,(if b then⟨(Bn l).toArray⟩ else⟨#[]⟩)=t:=⟨_,rfl⟩;rw[hb,ht];have HAT:=zH lU;have HLL:=zH Sx;have HB:=zH hb;have HT:=zH ht;clear hl Sx lU hb ht;go_enter Tryz.func101,Tryz.ntmps101;go_wp2_with fail;go_loopw [4,9] (fun vo iv wr=>∃k:Nat,iv=.int .i64 k∧k≤s.size∧(l.take k).all kB=true∧Own wr bz w.heap.size 5 vo (34::sr (l.take k))∧Below w.heap.size w wr) (fun _ iv _=>s.size-(intOf iv).toNat)
 case atStart=>
  exact⟨0,rfl,Nat.zero_le _,rfl,Own.lit w 5 [.int .u8 34] [34] rfl rfl (by decide) (Flat.bytes [34]),(Below.refl _ _).alloc (Nat.le_refl _) _⟩
 case round=>
  obtain⟨k,rfl,hk,eR,ho,yD⟩:=hrel;obtain⟨Ao,no,co,rfl,Lw⟩:=ho.slice;have bG:(34::sr (l.take k)).length≤2*k+1:=by
   have:=QE (l.take k);rw[List.length_take] at this;rw[List.length_cons];omega
  have agT:=zH eR;have HO:=zH ho;have RY:=zH yD;have mL:=zH bG;clear eR ho yD Lw bG;by_cases hlt:k<s.size
  ·have jX:(k:Int)<(s.size:Int):=by omega
   have hx:=HAT.out k hlt;have hp:=Bp s[k] wr;obtain⟨x,nS⟩:∃x,s[k]=x:=⟨_,rfl⟩;rw[nS] at hx hp;obtain⟨c,hc⟩:∃c,kB x=c:=⟨_,rfl⟩;rw[hc] at hp;have HX:=zH hx;have HP:=zH hp;have HC:=zH hc;clear hx hp hc;go_wp2_with fail;refine HP.out.mono ?_;rintro e w' ⟨rfl,rfl⟩;cases c with
   | false=>
    have Qo:b=false:=by rw[←HB.out];exact Cl HX.out HC.out
    have HBF:=zH Qo;have htf:t=⟨#[]⟩:=by rw[←HT.out,Qo];rfl
    have HTF:=zH htf;clear Qo htf;go_wp2_with fail;go_ret2
    exact⟨by rw[HBF.out,HTF.out];rfl,RY.out⟩
   | true=>
    obtain⟨n,hn⟩:∃n,x.toNat=n:=⟨_,rfl⟩;have hxn:n<256:=by rw[←hn];exact x.toNat_lt
    have aeV:(l.take (k+1)).all kB=true:=by rw[Ff HX.out,agT.out,HC.out];rfl
    have ab1:=zH aeV;have hes:34::sr (l.take (k+1))=(34::sr (l.take k))++yY x:=by rw[rk HX.out,LL];rfl
    clear aeV;by_cases hq:n=34∨n=92
    ·have he:yY x=[92,x]:=by unfold yY;rw[hn,if_pos hq]
     rw[he] at hes;have HES:=zH hes;have HN:=zH hn;clear he hes;have HRX:Hid ([Value.int .u8 (n:Int)]=[Value.int .u8 (x.toNat:Int)]):=zH (by rw[HN.out]);rcases hq with rfl|rfl
     ·go_wp2_with (first | (at_builtin; refine dB (α:=UInt8) (w0:=w) (B:=w.heap.size) (base:=w.heap.size) rfl _ _ 61 rfl 1 Tryz.bytesTy rfl HO.out RY.out (Nat.le_refl _) RY.out.size [.int .u8 92] 92 1 rfl rfl 5 (by simp[Value.oneCell']) (by have:=mL.out;omega) ?_; intro v4 w4 hown4 j7 hg4 hl4; obtain⟨A4,n4,c4,rfl,hn4⟩:=hown4.slice; have Fq:=zH hown4; have yz:=zH j7; clear hown4 j7 hg4 hl4 hn4) | (at_builtin; refine dB (α:=UInt8) (w0:=w) (B:=w.heap.size) (base:=w.heap.size) rfl _ _ 61 rfl 1 Tryz.bytesTy rfl Fq.out yz.out (Nat.le_refl _) yz.out.size [.int .u8 34] x 1 rfl HRX.out 5 (by simp[Value.oneCell']) (by have:=mL.out;rw[List.length_append];simp only[List.length_singleton];omega) ?_; intro v5 w5 hown4 j7 hg4 hl4; obtain⟨A5,n5,c5,rfl,hn4⟩:=hown4.slice; have MJ:=zH hown4; have J4:=zH j7; clear hown4 j7 hg4 hl4 hn4));go_roundw
      case rel=>exact⟨k+1,by go_num,by omega,ab1.out,by rw[HES.out];simpa using MJ.out,J4.out⟩
      case measure=>simp[intOf];omega
     ·go_wp2_with (first | (at_builtin; refine dB (α:=UInt8) (w0:=w) (B:=w.heap.size) (base:=w.heap.size) rfl _ _ 61 rfl 1 Tryz.bytesTy rfl HO.out RY.out (Nat.le_refl _) RY.out.size [.int .u8 92] 92 1 rfl rfl 5 (by simp[Value.oneCell']) (by have:=mL.out;omega) ?_; intro v4 w4 hown4 j7 hg4 hl4; obtain⟨A4,n4,c4,rfl,hn4⟩:=hown4.slice; have Fq:=zH hown4; have yz:=zH j7; clear hown4 j7 hg4 hl4 hn4) | (at_builtin; refine dB (α:=UInt8) (w0:=w) (B:=w.heap.size) (base:=w.heap.size) rfl _ _ 61 rfl 1 Tryz.bytesTy rfl Fq.out yz.out (Nat.le_refl _) yz.out.size [.int .u8 92] x 1 rfl HRX.out 5 (by simp[Value.oneCell']) (by have:=mL.out;rw[List.length_append];simp only[List.length_singleton];omega) ?_; intro v5 w5 hown4 j7 hg4 hl4; obtain⟨A5,n5,c5,rfl,hn4⟩:=hown4.slice; have MJ:=zH hown4; have J4:=zH j7; clear hown4 j7 hg4 hl4 hn4));go_roundw
      case rel=>exact⟨k+1,by go_num,by omega,ab1.out,by rw[HES.out];simpa using MJ.out,J4.out⟩
      case measure=>simp[intOf];omega
    ·have he:yY x=[x]:=by unfold yY;rw[hn,if_neg hq]
     rw[he] at hes;have HES:=zH hes;have HN:=zH hn;have HRX:Hid ([Value.int .u8 (n:Int)]=[Value.int .u8 (x.toNat:Int)]):=zH (by rw[HN.out]);have Sq:((n:Int)==34)=false:=by rw[beq_eq_false_iff_ne];omega
     have Jk:((n:Int)==92)=false:=by rw[beq_eq_false_iff_ne];omega
     clear he hes hq;go_wp2_with (first | (at_builtin; refine dB (α:=UInt8) (w0:=w) (B:=w.heap.size) (base:=w.heap.size) rfl _ _ 61 rfl 1 Tryz.bytesTy rfl HO.out RY.out (Nat.le_refl _) RY.out.size [.int .u8 (n:Int)] x 1 rfl HRX.out 5 (by simp[Value.oneCell']) (by have:=mL.out;omega) ?_; intro v5 w5 hown4 j7 hg4 hl4; obtain⟨A5,n5,c5,rfl,hn4⟩:=hown4.slice; have MJ:=zH hown4; have J4:=zH j7; clear hown4 j7 hg4 hl4 hn4));go_roundw
     case rel=>exact⟨k+1,by go_num,by omega,ab1.out,by rw[HES.out];exact MJ.out,J4.out⟩
     case measure=>simp[intOf];omega
  ·have hke:k=s.size:=by omega
   have hbt:b=true:=by
    have h1:=agT.out;rw[hke,List.take_of_length_le (by rw[HLL.out];exact Nat.le_refl _)] at h1;rw[←HB.out];exact h1
   have Sk:t=⟨(Bn l).toArray⟩:=by rw[←HT.out,hbt];rfl
   have yU:34::sr (l.take k)=34::sr l:=by rw[hke,List.take_of_length_le (by rw[HLL.out];exact Nat.le_refl _)]
   have HBT:=zH hbt;have FD:=zH Sk;have HOL:=zH yU;clear hke hbt Sk yU;go_wp2_with (first | (at_builtin; refine dB (α:=UInt8) (w0:=w) (B:=w.heap.size) (base:=w.heap.size) rfl _ _ 61 rfl 1 Tryz.bytesTy rfl HO.out RY.out (Nat.le_refl _) RY.out.size [.int .u8 34] 34 1 rfl rfl 5 (by simp[Value.oneCell']) (by have:=mL.out;omega) ?_; intro v5 w5 hown4 j7 hg4 hl4; obtain⟨A5,n5,c5,rfl,hn4⟩:=hown4.slice; have MJ:=zH hown4; have J4:=zH j7; have SA:=AX hown4.rs8; rw[HOL.out] at SA; have asE:(convert 61 9 (.slice A5 n5 c5)).run Tryz.prog w5=.ok (.string t) w5:=(by rw[SA,FD.out];rfl); clear hown4 j7 hg4 hl4 hn4 SA));go_ret2
   exact⟨by rw[HBT.out];rfl,J4.out⟩
end Go.Proofs.YtdbpbfglhbiadaaGreatDoor
