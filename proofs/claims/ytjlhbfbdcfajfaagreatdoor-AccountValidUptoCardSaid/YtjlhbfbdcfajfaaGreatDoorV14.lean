/- Rat3 Rat4 Rat5 Lex1 Lex2 Lex3 -/
import Derived.Test.YtjlhbfbdcfajfaaGreatDoorV01
import Derived.Test.YtjlhbfbdcfajfaaGreatDoorV13
import Derived.Deep.RegionWith
import Derived.Deep.RegionHeld3
import Derived.Deep.DeepCutAuto
import Derived.Lib.IndexLaws
set_option maxHeartbeats 8000000
set_option maxRecDepth 100000
namespace Go.Proofs.YtjlhbfbdcfajfaaGreatDoor
open Go.RowKit
def PF (w:World) (r:Bool×Nat) (e:Ending) (w':World):Prop:=∃A n c,e=.returned (.tuple #[.bool r.1,.slice A n c])∧n=(dc r.2).length∧RS w' (cQ w w') A n c (dc r.2)∧Below w.heap.size w w'
theorem VA {S S2:Nat→Prop} {A A2:Option Addr} {n c n2 c2:Nat} {xs ys:List (BitVec 32)} {w:World} (a b:Bool) (h:RS w S A n c xs) (h2:RS w S2 A2 n2 c2 ys) (hS:∀b,S b→b<w.heap.size) (iC:∀b,S2 b→b<w.heap.size) (hn:n≤536870912) (hn2:n2≤536870912) : Calls Tryz.prog 166 #[.bool a,.slice A n c,.bool b,.slice A2 n2 c2] w (PF w (pp a (val xs) b (val ys))):=by
 have H:=zH h;have H2:=zH h2;obtain⟨X,hX⟩:∃X,val xs=X:=⟨_,rfl⟩;obtain⟨Y,hY⟩:∃Y,val ys=Y:=⟨_,rfl⟩;have HX:=zH hX;have HY:=zH hY;rw[hX,hY];clear h h2 hX hY;by_cases SC:a=b
 ·have hq:pp a X b Y=(a,X+Y):=by unfold pp;rw[if_pos SC]
  rw[hq];have ahz:(a==b)=true:=by simpa using SC
  have aoB:(!a==!b)=true:=by simpa using SC
  clear hq SC;go_enter Tryz.func166,Tryz.ntmps166;go_wp2_with fail;refine(TS H.out H2.out hS iC (by omega) (by omega)).mono ?_;rintro e w2 h;rw[HX.out,HY.out] at h;obtain⟨A3,n3,c3,rfl,hn3,hr,hb⟩:=h.slice;have HN:=zH hn3;have HR:=zH hr;have HB:=zH hb;clear h hr hb hn3;go_wp2_with fail;go_ret2
  exact⟨A3,n3,c3,rfl,HN.out,HR.out,HB.out⟩
 ·have ahz:(a==b)=false:=by simpa using SC
  by_cases xG:Y≤X
  ·have hq:pp a X b Y=(a,X-Y):=by unfold pp;rw[if_neg SC,if_pos xG]
   rw[hq];have HLE:=zH xG;clear hq SC xG;go_enter Tryz.func166,Tryz.ntmps166;go_wp2_with fail;refine(Gi H.out H2.out hS iC (by omega) (by rw[HX.out,HY.out];exact HLE.out)).mono ?_;rintro e w2 ⟨v,rfl,ho,hb⟩;rw[HX.out,HY.out] at ho;obtain⟨A3,n3,c3,rfl,hn3⟩:=ho.slice;have HN:=zH hn3;have HR:=zH (ho.fresh (Nat.le_refl _));have HB:=zH hb;clear ho hb hn3;go_wp2_with fail;go_ret2
   exact⟨A3,n3,c3,rfl,HN.out,HR.out,HB.out⟩
  ·have hq:pp a X b Y=(b,Y-X):=by unfold pp;rw[if_neg SC,if_neg xG]
   rw[hq];have hlt:X<Y:=by omega
   have HLT:=zH hlt;clear hq SC xG hlt;go_enter Tryz.func166,Tryz.ntmps166;go_wp2_with fail;refine(Qx H.out H2.out (by rw[HX.out,HY.out];exact HLT.out)).mono ?_;rintro e w2 ⟨v,rfl,ho,hb⟩;have HR1:=zH (H.out.below hb hS);have IF:=zH (H2.out.below hb iC);have HB:=zH hb;clear ho hb;go_wp2_with fail;refine(Gi IF.out HR1.out (fun b h=>Nat.lt_of_lt_of_le (iC b h) HB.out.size) (fun b h=>Nat.lt_of_lt_of_le (hS b h) HB.out.size) (by omega) (by rw[HX.out,HY.out];exact Nat.le_of_lt HLT.out)).mono ?_;rintro e w3 ⟨v,rfl,ho,hb⟩;rw[HX.out,HY.out] at ho;obtain⟨A3,n3,c3,rfl,hn3⟩:=ho.slice;have HN:=zH hn3;have HR:=zH (ho.fresh HB.out.size);have mg:=zH (ak HB.out hb);clear ho hb hn3;go_wp2_with fail;go_ret2
   exact⟨A3,n3,c3,rfl,HN.out,HR.out,mg.out⟩
theorem nU {a b j k:Nat} (ha:(dc a).length≤j) (hb:(dc b).length≤k):(dc (a*b)).length≤j+k:=by
 have h1:=ey (dc a);have h2:=ey (dc b);rw[bC] at h1 h2;have h3:=Nat.lt_of_lt_of_le h1 (Nat.pow_le_pow_right (by omega) ha);have h4:=Nat.lt_of_lt_of_le h2 (Nat.pow_le_pow_right (by omega) hb);refine fW ?_;rw[Nat.pow_add];exact Nat.mul_lt_mul'' h3 h4
theorem Cj {a b k:Nat} (ha:(dc a).length≤k) (hb:(dc b).length≤k):(dc (a+b)).length≤k+1:=by
 have h1:=ey (dc a);have h2:=ey (dc b);rw[bC] at h1 h2;have h3:=Nat.lt_of_lt_of_le h1 (Nat.pow_le_pow_right (by omega) ha);have h4:=Nat.lt_of_lt_of_le h2 (Nat.pow_le_pow_right (by omega) hb);refine fW ?_;rw[Nat.pow_succ];omega
theorem LJ {a b:Bool} {X Y k:Nat} (hx:(dc X).length≤k) (hy:(dc Y).length≤k):(dc (pp a X b Y).2).length≤k+1:=by
 unfold pp;split
 ·exact Cj hx hy
 ·split
  ·exact Nat.le_succ_of_le (j7 hx (Nat.sub_le _ _))
  ·exact Nat.le_succ_of_le (j7 hy (Nat.sub_le _ _))
theorem TQ {S S2:Nat→Prop} {va vb:Value} {ra rb:Raw} {w:World} (ha:SV w S va ra) (hb:SV w S2 vb rb) (hS:∀b,S b→b<w.heap.size) (iC:∀b,S2 b→b<w.heap.size) (iF:ra.short 67108864) (kV:rb.short 67108864) : Calls Tryz.prog 137 #[va,vb] w (iA w (wZ ra.q rb.q)):=by
 obtain⟨A,n,c,A2,n2,c2,rfl,h1,h2⟩:=ha.raw_cases;obtain⟨A3,n3,c3,A4,n4,c4,rfl,h3,h4⟩:=hb.raw_cases;have gl:Below w.heap.size w (((w.alloc (.cells #[.bool ra.neg,.slice A n c,.slice A2 n2 c2] 28)).alloc (.cells #[.bool rb.neg,.slice A3 n3 c3,.slice A4 n4 c4] 28)).alloc (.cells #[.bool false,.slice none 0 0,.slice none 0 0] 28)):=
  (((Below.refl _ _).alloc (Nat.le_refl _) _).alloc (by simp) _).alloc (by simp;omega) _
 obtain⟨w1,fX⟩:∃x,((w.alloc (.cells #[.bool ra.neg,.slice A n c,.slice A2 n2 c2] 28)).alloc (.cells #[.bool rb.neg,.slice A3 n3 c3,.slice A4 n4 c4] 28)).alloc (.cells #[.bool false,.slice none 0 0,.slice none 0 0] 28)=x:=⟨_,rfl⟩;have nc:w1.heap.size=w.heap.size+3:=by rw[←fX];simp
 have NX:dy w1 w.heap.size 28 #[.bool ra.neg,.slice A n c,.slice A2 n2 c2]:=by rw[←fX];exact((dy.new _ _ _).alloc _).alloc _
 have tw:dy w1 (w.heap.size+1) 28 #[.bool rb.neg,.slice A3 n3 c3,.slice A4 n4 c4]:=by rw[←fX];exact(dy.new' (by simp) _ _).alloc _
 have gR:dy w1 (w.heap.size+2) 28 #[.bool false,.slice none 0 0,.slice none 0 0]:=by rw[←fX];exact dy.new' (by simp) _ _
 rw[fX] at gl;have Zy:=zH (ha.below gl hS);have HWB:=zH (hb.below gl iC);have oq:=zH fX;have oN:=zH gl;have HK0:=zH NX;have Uf:=zH tw;have PO:=zH gR;have F0:=zH nc;obtain⟨qa,hqa⟩:∃q,ra.q=q:=⟨_,rfl⟩;obtain⟨qb,W8⟩:∃q,rb.q=q:=⟨_,rfl⟩;rw[hqa,W8];have HQA:=zH hqa;have ZA:=zH W8;clear ha hb h1 h2 h3 h4 fX gl NX tw gR nc hqa W8;go_enter Tryz.func137,Tryz.ntmps137;go_upto_region 1 with(fail);rw[oq.out];obtain⟨d0,d1,d2,e0,e1,e2⟩:=HK0.out.facts3;obtain⟨d3,d4,d5,e3,e4,e5⟩:=Uf.out.facts3;go_cut [8] (fun _ wx=>∃A5 n5 c5 A6 n6 c6 A7 n7 c7 A8 n8 c8,dy wx w.heap.size 28 #[.bool qa.neg,.slice A5 n5 c5,.slice A6 n6 c6]∧dy wx (w.heap.size+1) 28 #[.bool qb.neg,.slice A7 n7 c7,.slice A8 n8 c8]∧ dy wx (w.heap.size+1+1) 28 #[.bool false,.slice none 0 0,.slice none 0 0]∧RS wx (cQ w1 wx) A5 n5 c5 (dc qa.n)∧RS wx (cQ w1 wx) A6 n6 c6 (dc qa.d)∧RS wx (cQ w1 wx) A7 n7 c7 (dc qb.n)∧RS wx (cQ w1 wx) A8 n8 c8 (dc qb.d)∧Below w.heap.size w wx)
 case first=>
  have NA0:Calls Tryz.prog 74 #[.agg #[.bool ra.neg,.slice A n c,.slice A2 n2 c2]] w1.drew (iA w1 qa):=by
   rw[←HQA.out];exact wS (nP (w:=w1.drew) (r:=ra) Zy.out.drew (fun b hb=>Nat.lt_of_lt_of_le (hS b hb) oN.out.size) ⟨Nat.le_trans iF.1 (by omega),Nat.le_trans iF.2 (by omega)⟩)
  have NA1:Calls Tryz.prog 74 #[.agg #[.bool ra.neg,.slice A n c,.slice A2 n2 c2]] w1.drew.drew (iA w1 qa):=by
   rw[←HQA.out];exact tF (nP (w:=w1.drew.drew) (r:=ra) Zy.out.drew.drew (fun b hb=>Nat.lt_of_lt_of_le (hS b hb) oN.out.size) ⟨Nat.le_trans iF.1 (by omega),Nat.le_trans iF.2 (by omega)⟩)
  have NB:∀w2:World,Below w1.heap.size w1 w2→Calls Tryz.prog 74 #[.agg #[.bool rb.neg,.slice A3 n3 c3,.slice A4 n4 c4]] w2 (iA w2 qb):=fun w2 bZ=>by
   rw[←ZA.out];exact nP (r:=rb) (HWB.out.below bZ (fun b hb=>Nat.lt_of_lt_of_le (iC b hb) oN.out.size)) (fun b hb=>Nat.lt_of_lt_of_le (iC b hb) (Nat.le_trans oN.out.size bZ.size)) ⟨Nat.le_trans kV.1 (by omega),Nat.le_trans kV.2 (by omega)⟩
  have ajx:=zH NA0;have ajw:=zH NA1;have Vo:=zH NB;clear NA0 NA1 NB;go_region_with (first
   | (go_at_call 74; (with_reducible first|refine ajx.out.mono ?_|refine ajw.out.mono ?_); rintro e w2 ⟨v,rfl,⟨cs,rfl,A5,n5,c5,A6,n6,c6,rfl,g5,g6⟩,bZ⟩; obtain⟨d3,d4,d5,e3,e4,e5⟩:=(Uf.out.keep bZ).facts3; have ajv:=zH (Vo.out w2 bZ); have aju:Hid (Calls Tryz.prog 74 #[.agg #[.bool rb.neg,.slice A3 n3 c3,.slice A4 n4 c4]] w2.drew (iA w2 qb)):=zH (wS (Vo.out w2.drew (below_drewN bZ 1))); have ajt:Hid (Calls Tryz.prog 74 #[.agg #[.bool rb.neg,.slice A3 n3 c3,.slice A4 n4 c4]] w2.drew.drew (iA w2 qb)):=zH (tF (Vo.out w2.drew.drew (below_drewN bZ 2))); have G5:=zH g5; have G6:=zH g6; have YQ:=zH bZ; clear g5 g6 bZ)
   | (go_at_call 74; (with_reducible first|refine ajv.out.mono ?_|refine aju.out.mono ?_|refine ajt.out.mono ?_); rintro e w3 ⟨v,rfl,⟨cs,rfl,A7,n7,c7,A8,n8,c8,rfl,g7,g8⟩,kD⟩; obtain⟨d0,d1,d2,e0,e1,e2⟩:=((HK0.out.keep YQ.out).keep kD).facts3; obtain⟨d3,d4,d5,e3,e4,e5⟩:=((Uf.out.keep YQ.out).keep kD).facts3; have G7:=zH g7; have G8:=zH g8; have F4:=zH kD; clear g7 g8 kD))
  all_goals go_wp2_with fail
  all_goals
   go_meet
   have b0:=(HK0.out.keep YQ.out).keep F4.out;have b1:=(Uf.out.keep YQ.out).keep F4.out;have b2:=(PO.out.keep YQ.out).keep F4.out;have s1:=F0.out;have s2:=YQ.out.size;have s3:=F4.out.size;have r5:RS w3 (cQ w1 w3) A5 n5 c5 (dc qa.n):=(G5.out.below F4.out (fun _ h=>h.2)).sub (wC s3);have r6:RS w3 (cQ w1 w3) A6 n6 c6 (dc qa.d):=(G6.out.below F4.out (fun _ h=>h.2)).sub (wC s3);have r7:RS w3 (cQ w1 w3) A7 n7 c7 (dc qb.n):=G7.out.sub (tC s2);have r8:RS w3 (cQ w1 w3) A8 n8 c8 (dc qb.d):=G8.out.sub (tC s2);have kk:aA (cQ w1 w3) w3 (setAll (setAll w3 w.heap.size 0 [.bool qa.neg,.slice A5 n5 c5,.slice A6 n6 c6]) (w.heap.size+1) 0 [.bool qb.neg,.slice A7 n7 c7,.slice A8 n8 c8]):=
    ((aA.refl _ _).setAll (fun h=>by have:=h.1;omega) _ 0).setAll (fun h=>by have:=h.1;omega) _ 0
   have ff:∀b,cQ w1 w3 b→cQ w1 (setAll (setAll w3 w.heap.size 0 [.bool qa.neg,.slice A5 n5 c5,.slice A6 n6 c6]) (w.heap.size+1) 0 [.bool qb.neg,.slice A7 n7 c7,.slice A8 n8 c8]) b:=fun b hb=>⟨hb.1,by rw[kH,kH];exact hb.2⟩;have k0:dy (setAll (setAll w3 w.heap.size 0 [.bool qa.neg,.slice A5 n5 c5,.slice A6 n6 c6]) (w.heap.size+1) 0 [.bool qb.neg,.slice A7 n7 c7,.slice A8 n8 c8]) w.heap.size 28 #[.bool qa.neg,.slice A5 n5 c5,.slice A6 n6 c6]:=
    dy.farAll (dy.setAll [.bool qa.neg,.slice A5 n5 c5,.slice A6 n6 c6] b0 rfl) (by omega) _ 0
   have k1:dy (setAll (setAll w3 w.heap.size 0 [.bool qa.neg,.slice A5 n5 c5,.slice A6 n6 c6]) (w.heap.size+1) 0 [.bool qb.neg,.slice A7 n7 c7,.slice A8 n8 c8]) (w.heap.size+1) 28 #[.bool qb.neg,.slice A7 n7 c7,.slice A8 n8 c8]:=
    dy.setAll [.bool qb.neg,.slice A7 n7 c7,.slice A8 n8 c8] (dy.farAll b1 (by omega) _ 0) rfl
   have k2:dy (setAll (setAll w3 w.heap.size 0 [.bool qa.neg,.slice A5 n5 c5,.slice A6 n6 c6]) (w.heap.size+1) 0 [.bool qb.neg,.slice A7 n7 c7,.slice A8 n8 c8]) (w.heap.size+1+1) 28 #[.bool false,.slice none 0 0,.slice none 0 0]:=
    dy.farAll (dy.farAll b2 (by omega) _ 0) (by omega) _ 0
   have k3:Below w.heap.size w (setAll (setAll w3 w.heap.size 0 [.bool qa.neg,.slice A5 n5 c5,.slice A6 n6 c6]) (w.heap.size+1) 0 [.bool qb.neg,.slice A7 n7 c7,.slice A8 n8 c8]):=
    j4 (j4 (ak (ak oN.out YQ.out) F4.out) (Nat.le_refl _) _ 0) (Nat.le_succ _) _ 0
   exact⟨A5,n5,c5,A6,n6,c6,A7,n7,c7,A8,n8,c8,k0,k1,k2,r5.keep ff kk,r6.keep ff kk,r7.keep ff kk,r8.keep ff kk,k3⟩
 case rest=>
  obtain⟨A5,n5,c5,A6,n6,c6,A7,n7,c7,A8,n8,c8,b0,b1,b2,r5,r6,r7,r8,UZ⟩:=hcut;have R5:=zH r5;have R6:=zH r6;have R7:=zH r7;have R8:=zH r8;have l5:=(mA iF (by omega)).1;have l6:=(mA iF (by omega)).2;have l7:=(mA kV (by omega)).1;have l8:=(mA kV (by omega)).2;rw[HQA.out,r5.len] at l5;rw[HQA.out,r6.len] at l6;rw[ZA.out,r7.len] at l7;rw[ZA.out,r8.len] at l8;have HX:=zH (nU (Nat.le_of_eq r5.len) (Nat.le_of_eq r8.len));have HY:=zH (nU (Nat.le_of_eq r7.len) (Nat.le_of_eq r6.len));have hH:∀w',Up wc w'→Up wc w'∧w'.cell? ⟨w.heap.size,0,none⟩=some (.bool qa.neg)∧w'.cell? ⟨w.heap.size,1,none⟩=some (.slice A5 n5 c5)∧w'.cell? ⟨w.heap.size,2,none⟩=some (.slice A6 n6 c6)∧ w'.cell? ⟨w.heap.size+1,0,none⟩=some (.bool qb.neg)∧w'.cell? ⟨w.heap.size+1,1,none⟩=some (.slice A7 n7 c7)∧w'.cell? ⟨w.heap.size+1,2,none⟩=some (.slice A8 n8 c8):=
   fun w' hu=>⟨hu,(b0.keep hu).cell 0,(b0.keep hu).cell 1,(b0.keep hu).cell 2,(b1.keep hu).cell 0,(b1.keep hu).cell 1,(b1.keep hu).cell 2⟩
  have HH:=zH hH;have B0:=zH b0;have B1:=zH b1;have B2:=zH b2;have HBX:=zH UZ;have m1:∀w',Up wc w'→Calls Tryz.prog 167 #[.slice A5 n5 c5,.slice A8 n8 c8] w' (jF w' 98 (dc (qa.n*qb.d))):=fun w' hu=>by
   have:=zV (R5.out.below hu.out (fun _ h=>h.2)) (R8.out.below hu.out (fun _ h=>h.2)) (fun b h=>Nat.lt_of_lt_of_le h.2 hu.out.size) (fun b h=>Nat.lt_of_lt_of_le h.2 hu.out.size) (by omega) (by omega)
   rwa [bC,bC] at this
  have m2:∀w',Up wc w'→Calls Tryz.prog 167 #[.slice A7 n7 c7,.slice A6 n6 c6] w' (jF w' 98 (dc (qb.n*qa.d))):=fun w' hu=>by
   have:=zV (R7.out.below hu.out (fun _ h=>h.2)) (R6.out.below hu.out (fun _ h=>h.2)) (fun b h=>Nat.lt_of_lt_of_le h.2 hu.out.size) (fun b h=>Nat.lt_of_lt_of_le h.2 hu.out.size) (by omega) (by omega)
   rwa [bC,bC] at this
  have m3:∀w',Up wc w'→Calls Tryz.prog 167 #[.slice A6 n6 c6,.slice A8 n8 c8] w' (jF w' 98 (dc (qa.d*qb.d))):=fun w' hu=>by
   have:=zV (R6.out.below hu.out (fun _ h=>h.2)) (R8.out.below hu.out (fun _ h=>h.2)) (fun b h=>Nat.lt_of_lt_of_le h.2 hu.out.size) (fun b h=>Nat.lt_of_lt_of_le h.2 hu.out.size) (by omega) (by omega)
   rwa [bC,bC] at this
  have HD:=zH (nU (Nat.le_of_eq R6.out.len) (Nat.le_of_eq R8.out.len));obtain⟨s1,nc⟩:∃s,pp qa.neg (qa.n*qb.d) qb.neg (qb.n*qa.d)=s:=⟨_,rfl⟩;have fJ:(dc s1.2).length≤268435457:=by
   rw[←nc];exact LJ (Nat.le_trans HX.out (by omega)) (Nat.le_trans HY.out (by omega))
  have nj:wZ qa qb=ek s1.1 s1.2 (qa.d*qb.d):=by unfold wZ;rw[nc]
  have m4:∀(w':World) (S9 S0:Nat→Prop) (A9 A0:Option Addr) (n9 c9 n0 c0:Nat),n9=(dc (qa.n*qb.d)).length→n0=(dc (qb.n*qa.d)).length→RS w' S9 A9 n9 c9 (dc (qa.n*qb.d))→RS w' S0 A0 n0 c0 (dc (qb.n*qa.d))→(∀b,S9 b→b<w'.heap.size)→(∀b,S0 b→b<w'.heap.size)→ Calls Tryz.prog 166 #[.bool qa.neg,.slice A9 n9 c9,.bool qb.neg,.slice A0 n0 c0] w' (PF w' s1):=fun w' S9 S0 A9 A0 n9 c9 n0 c0 e9 e0 h9 h0 hS9 hS0=>by
   have:=VA qa.neg qb.neg h9 h0 hS9 hS0 (by have:=HX.out;omega) (by have:=HY.out;omega)
   rwa [bC,bC,nc] at this
  have M1:=zH m1;have M2:=zH m2;have M3:=zH m3;have M4:=zH m4;have Zz:=zH fJ;have ajJ:=zH nj;clear r5 r6 r7 r8 hH b0 b1 b2 UZ d0 d1 d2 e0 e1 e2 d3 d4 d5 e3 e4 e5 m1 m2 m3 m4 nc fJ nj;go_upto_region 2 with(fail);go_region_held3 (fun w'=>Up wc w'∧w'.cell? ⟨w.heap.size,0,none⟩=some (.bool qa.neg)∧w'.cell? ⟨w.heap.size,1,none⟩=some (.slice A5 n5 c5)∧w'.cell? ⟨w.heap.size,2,none⟩=some (.slice A6 n6 c6)∧ w'.cell? ⟨w.heap.size+1,0,none⟩=some (.bool qb.neg)∧w'.cell? ⟨w.heap.size+1,1,none⟩=some (.slice A7 n7 c7)∧w'.cell? ⟨w.heap.size+1,2,none⟩=some (.slice A8 n8 c8))
   (first|assumption|exact HH.out _ (Up.start wc)|exact HH.out _ (Up.more (‹Up wc _∧_›).1 ‹Below _ _ _›))
   (first
    | (go_at_call 167; (with_reducible refine(M1.out _ (‹Up wc _∧_›).1).mono ?_); rintro e w5 h9; obtain⟨A9,n9,c9,rfl,hn9,hr9,hb9⟩:=h9.slice; obtain⟨S9,abg,hS9⟩:∃S9:Nat→Prop,RS w5 S9 A9 n9 c9 (dc (qa.n*qb.d))∧∀b,S9 b→b<w5.heap.size:=⟨_,hr9,fun b h=>h.2⟩; have HR9:=zH abg; have HS9:=zH hS9; have HN9:=zH hn9; clear h9 hr9 hn9 abg hS9)
    | (go_at_call 167; (with_reducible refine(M2.out _ (‹Up wc _∧_›).1).mono ?_); rintro e w6 h9; obtain⟨A0,n0,c0,rfl,hn0,D3,hb0⟩:=h9.slice; obtain⟨S0,abl,hS0⟩:∃S0:Nat→Prop,RS w6 S0 A0 n0 c0 (dc (qb.n*qa.d))∧∀b,S0 b→b<w6.heap.size:=⟨_,D3,fun b h=>h.2⟩; have HR0:=zH abl; have HS0:=zH hS0; have HN0:=zH hn0; have aje:=zH (HR9.out.below hb0 HS9.out); have HF9:Hid (∀b,S9 b→b<w6.heap.size):=zH (fun b h=>Nat.lt_of_lt_of_le (HS9.out b h) hb0.size); clear h9 D3 hn0 abl hS0)
    | (go_at_call 166; (with_reducible refine(M4.out _ _ _ _ _ _ _ _ _ HN9.out HN0.out aje.out HR0.out HF9.out HS0.out).mono ?_); rintro e w7 ⟨A1,n1,c1,rfl,hn1,hr1,cI⟩; have HR1:=zH hr1; have HN1:=zH hn1; clear hr1 hn1))
  all_goals
   have hu:Up wc w7:=(‹Up wc w7∧_›).1;have HU:=zH hu;obtain⟨S1,abj,Zn⟩:∃S1:Nat→Prop,RS w7 S1 A1 n1 c1 (dc s1.2)∧∀b,S1 b→b<w7.heap.size:=⟨_,HR1.out,fun b h=>h.2⟩;have ajh:=zH abj;have ac0:=zH Zn;have BB2:=zH (B2.out.keep hu);have BX7:=zH (ak HBX.out hu.out);have aoe:n1≤268435457:=by have:=HN1.out;have:=Zz.out;omega
   clear abj Zn hu;go_wp2_with fail;refine(M3.out _ HU.out).mono ?_;rintro e w8 h;obtain⟨A2',n2',c2',rfl,agY,abi,U2⟩:=h.slice;have aod:n2'≤268435457:=by have:=HD.out;omega
   have ac2:=zH (ajh.out.below U2 ac0.out);have acZ:Hid (∀b,S1 b→b<w8.heap.size):=zH (fun b h=>Nat.lt_of_lt_of_le (ac0.out b h) U2.size);have ajg:=zH abi;have BB3:=zH (BB2.out.keep U2);have BX8:=zH (ak BX7.out U2);clear h agY abi U2;go_wp2_with fail;refine(zZ s1.1 ac2.out ajg.out acZ.out (fun b h=>h.2) (by omega) (by omega)).mono ?_;rintro e w9 ⟨v,rfl,⟨cs,rfl,hr⟩,hb⟩;have jQ:=hr;obtain⟨A5',n5',c5',A6',n6',c6',rfl,_,_⟩:=jQ;rw[bC,bC,←ajJ.out] at hr ⊢;obtain⟨c0,c1,c2,f0,f1,f2⟩:=(BB3.out.keep hb).facts3;have HK4:=zH (BB3.out.keep hb);have xh:=zH (ak BX8.out hb);have oM:=zH hr;obtain⟨q,hq⟩:∃q,wZ qa qb=q:=⟨_,rfl⟩;rw[hq] at oM ⊢;have HQ:=zH hq;have jB:=BB3.out.lt;clear hr hb hq;go_wp2_with fail;refine gp (x:=q) (S:=cQ w8 w9) (cs:=[.bool q.neg,.slice A5' n5' c5',.slice A6' n6' c6']) rfl rfl (by omega) HK4.out rfl Tryz.underlying28 rfl (by kernel_rfl) oM.out (fun b hb=>?_) xh.out rfl (by rw[←HQ.out];exact id);have h1:=hb.1;exact⟨⟨by omega,hb.2⟩,by omega⟩
theorem Qw {S S2:Nat→Prop} {va vb:Value} {ra rb:Raw} {w:World} (ha:SV w S va ra) (hb:SV w S2 vb rb) (hS:∀b,S b→b<w.heap.size) (iC:∀b,S2 b→b<w.heap.size) (iF:ra.short 67108864) (kV:rb.short 67108864) : Calls Tryz.prog 106 #[va,vb] w (iA w (wZ ra.q rb.flip.q)):=by
 obtain⟨A,n,c,A2,n2,c2,rfl,h1,h2⟩:=ha.raw_cases;obtain⟨A3,n3,c3,A4,n4,c4,rfl,h3,h4⟩:=hb.raw_cases;have gl:Below w.heap.size w (((w.alloc (.cells #[.bool ra.neg,.slice A n c,.slice A2 n2 c2] 28)).alloc (.cells #[.bool (!rb.neg),.slice A3 n3 c3,.slice A4 n4 c4] 28)).alloc (.cells #[.bool false,.slice none 0 0,.slice none 0 0] 28)):=
  (((Below.refl _ _).alloc (Nat.le_refl _) _).alloc (by simp) _).alloc (by simp;omega) _
 obtain⟨w1,fX⟩:∃x,((w.alloc (.cells #[.bool ra.neg,.slice A n c,.slice A2 n2 c2] 28)).alloc (.cells #[.bool (!rb.neg),.slice A3 n3 c3,.slice A4 n4 c4] 28)).alloc (.cells #[.bool false,.slice none 0 0,.slice none 0 0] 28)=x:=⟨_,rfl⟩;have nc:w1.heap.size=w.heap.size+3:=by rw[←fX];simp
 have gR:dy w1 (w.heap.size+1+1) 28 #[.bool false,.slice none 0 0,.slice none 0 0]:=by rw[←fX];exact dy.new' (by simp) _ _
 rw[fX] at gl;have yF:SV w1 S2 (.agg #[.bool (!rb.neg),.slice A3 n3 c3,.slice A4 n4 c4]) rb.flip:=⟨_,rfl,A3,n3,c3,A4,n4,c4,rfl,h3.below gl iC,h4.below gl iC⟩;have Zy:=zH (ha.below gl hS);have HWB:=zH yF;have oq:=zH fX;have oN:=zH gl;have PO:=zH gR;have F0:=zH nc;obtain⟨q,hq⟩:∃q,wZ ra.q rb.flip.q=q:=⟨_,rfl⟩;rw[hq];have HQ:=zH hq;clear ha hb h1 h2 h3 h4 fX gl gR nc hq yF;go_enter Tryz.func106,Tryz.ntmps106;go_wp2_with fail;rw[oq.out];refine(TQ Zy.out HWB.out (fun b hb=>Nat.lt_of_lt_of_le (hS b hb) oN.out.size) (fun b hb=>Nat.lt_of_lt_of_le (iC b hb) oN.out.size) iF kV).mono ?_;rintro e w2 ⟨v,rfl,⟨cs,rfl,hr⟩,hb⟩;have jQ:=hr;obtain⟨A5,n5,c5,A6,n6,c6,rfl,_,_⟩:=jQ;obtain⟨c0,c1,c2',f0,f1,f2⟩:=(PO.out.keep hb).facts3;have HK:=zH (PO.out.keep hb);have eP:=zH (ak oN.out hb);rw[HQ.out] at hr ⊢;have HR:=zH hr;clear hr hb;go_wp2_with fail;refine gp (x:=q) (S:=cQ w1 w2) (cs:=[.bool q.neg,.slice A5 n5 c5,.slice A6 n6 c6]) rfl rfl (by omega) HK.out rfl Tryz.underlying28 rfl (by kernel_rfl) HR.out (fun b hb=>?_) eP.out rfl id;have h1:=hb.1;rw[F0.out] at h1;exact⟨⟨by omega,hb.2⟩,by omega⟩
theorem z9 {n:Nat}:(dc n).length=0↔n=0:=by rw[List.length_eq_zero_iff,gz]
theorem Tw {S S2:Nat→Prop} {va vb:Value} {ra rb:Raw} {w:World} (ha:SV w S va ra) (hb:SV w S2 vb rb) (hS:∀b,S b→b<w.heap.size) (iC:∀b,S2 b→b<w.heap.size) (iF:ra.short 67108864) (kV:rb.short 67108864) : Calls Tryz.prog 81 #[va,vb] w (j5 w (.int .i64 (oe ra.q rb.flip.q))):=by
 obtain⟨A,n,c,A2,n2,c2,rfl,h1,h2⟩:=ha.raw_cases;obtain⟨A3,n3,c3,A4,n4,c4,rfl,h3,h4⟩:=hb.raw_cases;have gl:Below w.heap.size w ((w.alloc (.cells #[.bool ra.neg,.slice A n c,.slice A2 n2 c2] 28)).alloc (.cells #[.bool rb.neg,.slice A3 n3 c3,.slice A4 n4 c4] 28)):=
  ((Below.refl _ _).alloc (Nat.le_refl _) _).alloc (by simp) _
 obtain⟨w1,fX⟩:∃x,(w.alloc (.cells #[.bool ra.neg,.slice A n c,.slice A2 n2 c2] 28)).alloc (.cells #[.bool rb.neg,.slice A3 n3 c3,.slice A4 n4 c4] 28)=x:=⟨_,rfl⟩;rw[fX] at gl;have Zy:=zH (ha.below gl hS);have HWB:=zH (hb.below gl iC);have oq:=zH fX;have oN:=zH gl;obtain⟨q,hq⟩:∃q,wZ ra.q rb.flip.q=q:=⟨_,rfl⟩;have hc:oe ra.q rb.flip.q=if q.neg then -1 else if q.n=0 then 0 else 1:=by unfold oe;rw[hq]
 obtain⟨z,hz⟩:∃z,oe ra.q rb.flip.q=z:=⟨_,rfl⟩;rw[hz] at hc ⊢;have HC:=zH hc;have HQ:=zH hq;clear ha hb h1 h2 h3 h4 fX gl hq hc hz;go_enter Tryz.func81,Tryz.ntmps81;go_wp2_with fail;rw[oq.out];refine(Qw Zy.out HWB.out (fun b hb=>Nat.lt_of_lt_of_le (hS b hb) oN.out.size) (fun b hb=>Nat.lt_of_lt_of_le (iC b hb) oN.out.size) iF kV).mono ?_;rintro e w2 ⟨v,rfl,⟨cs,rfl,A5,n5,c5,A6,n6,c6,rfl,h5,h6⟩,hb⟩;rw[HQ.out] at h5 h6 ⊢;have eP:=zH (ak oN.out hb);have hn5:=h5.len;have h0:=z9 (n:=q.n);rw[hn5] at h0;have H0:=zH h0;have hm:=h5.max;clear h5 h6 hb hn5 h0 HQ;obtain⟨V0,qn,qd⟩:=q;cases V0 with
 | true=>
  go_wp2_with fail;go_ret
  exact⟨by rw[HC.out];rfl,eP.out.alloc eP.out.size _⟩
 | false=>
  by_cases hz:n5=0
  ·have NL:qn=0:=H0.out.1 hz;subst hz;subst NL;go_wp2_with fail;go_ret
   exact⟨by rw[HC.out];rfl,eP.out.alloc eP.out.size _⟩
  ·have hb0:((n5:Int)==0)=false:=by rw[beq_eq_false_iff_ne];omega
   have NL:qn≠0:=fun e=>hz (H0.out.2 e);have HQ0:=zH NL;clear NL hz;go_wp2_with fail;go_ret
   exact⟨by rw[HC.out];simp[HQ0.out],eP.out.alloc eP.out.size _⟩
theorem IS {S:Nat→Prop} {v:Value} {r:Raw} {w:World} (h:SV w S v r) (hS:∀b,S b→b<w.heap.size) (hl:r.short 536870912) : Calls Tryz.prog 43 #[v] w (j5 w (.bool r.valid)):=by
 obtain⟨A,n,c,A2,n2,c2,rfl,h1,h2⟩:=h.raw_cases;have gl:Below w.heap.size w (w.alloc (.cells #[.bool r.neg,.slice A n c,.slice A2 n2 c2] 28)):=(Below.refl _ _).alloc (Nat.le_refl _) _;have wj:dy (w.alloc (.cells #[.bool r.neg,.slice A n c,.slice A2 n2 c2] 28)) w.heap.size 28 #[.bool r.neg,.slice A n c,.slice A2 n2 c2]:=dy.new _ _ _;obtain⟨w1,fX⟩:∃x,w.alloc (.cells #[.bool r.neg,.slice A n c,.slice A2 n2 c2] 28)=x:=⟨_,rfl⟩;rw[fX] at gl wj;have HV:=zH (h.below gl hS);have oq:=zH fX;have oN:=zH gl;have Ud:=zH wj;have H1:=zH (h1.below gl hS);have H2:=zH (h2.below gl hS);obtain⟨q,hq⟩:∃q,r.q=q:=⟨_,rfl⟩;obtain⟨z,hz⟩:∃z,r.valid=z:=⟨_,rfl⟩;have fA:z=(r.neg==q.neg&&(decide (r.num=dc q.n)&&decide (r.den=dc q.d))):=by rw[←hz,←hq];rfl
 rw[hz];obtain⟨neg,num,den⟩:=r;have HQ:=zH hq;have HZ:=zH fA;clear h h1 h2 fX gl wj hq hz fA;go_enter Tryz.func43,Tryz.ntmps43;go_wp2_with fail;rw[oq.out];refine(nP HV.out (fun b hb=>Nat.lt_of_lt_of_le (hS b hb) oN.out.size) hl).mono ?_;rintro e w2 ⟨v,rfl,⟨cs,rfl,A5,n5,c5,A6,n6,c6,rfl,h5,h6⟩,hb⟩;rw[HQ.out] at h5 h6 ⊢;obtain⟨d0,d1,d2,_,_,_⟩:=((Ud.out.keep hb).alloc (.cells #[.bool q.neg,.slice A5 n5 c5,.slice A6 n6 c6] 28)).facts3;have bZ:Below w.heap.size w (w2.alloc (.cells #[.bool q.neg,.slice A5 n5 c5,.slice A6 n6 c6] 28)):=(ak oN.out hb).alloc (ak oN.out hb).size _;have hn1:RS (w2.alloc (.cells #[.bool q.neg,.slice A5 n5 c5,.slice A6 n6 c6] 28)) S A n c num:=(H1.out.below hb (fun b hb=>Nat.lt_of_lt_of_le (hS b hb) oN.out.size)).below ((Below.refl _ _).alloc (Nat.le_refl _) _) (fun b h=>Nat.lt_of_lt_of_le (hS b h) (ak oN.out hb).size);have hn2:RS (w2.alloc (.cells #[.bool q.neg,.slice A5 n5 c5,.slice A6 n6 c6] 28)) S A2 n2 c2 den:=(H2.out.below hb (fun b hb=>Nat.lt_of_lt_of_le (hS b hb) oN.out.size)).below ((Below.refl _ _).alloc (Nat.le_refl _) _) (fun b h=>Nat.lt_of_lt_of_le (hS b h) (ak oN.out hb).size);have hn5:RS (w2.alloc (.cells #[.bool q.neg,.slice A5 n5 c5,.slice A6 n6 c6] 28)) (cQ w1 w2) A5 n5 c5 (dc q.n):=h5.below ((Below.refl _ _).alloc (Nat.le_refl _) _) (fun b h=>h.2);have hn6:RS (w2.alloc (.cells #[.bool q.neg,.slice A5 n5 c5,.slice A6 n6 c6] 28)) (cQ w1 w2) A6 n6 c6 (dc q.d):=h6.below ((Below.refl _ _).alloc (Nat.le_refl _) _) (fun b h=>h.2);have N1:=zH hn1;have N2:=zH hn2;have N5:=zH hn5;have N6:=zH hn6;have B2:=zH bZ;clear h5 h6 hb bZ hn1 hn2 hn5 hn6;by_cases he:neg=q.neg
 ·have yG:(neg==q.neg)=true:=by simpa using he
  have Zh:(!neg==!q.neg)=true:=by simpa using he
  go_wp2_with fail;refine(yM N1.out N5.out).mono ?_;rintro e w' ⟨rfl,m,rfl⟩;by_cases hx:num=dc q.n
  ·rw[decide_eq_true hx];go_wp2_with fail;refine(yM (N2.out.drewN m) (N6.out.drewN m)).mono ?_;rintro e w' ⟨rfl,m2,rfl⟩;obtain⟨y,hy⟩:∃y,decide (den=dc q.d)=y:=⟨_,rfl⟩;have hzy:z=y:=by rw[HZ.out,decide_eq_true hx,hy];simp[he]
   rw[hy,←hzy];clear hy hzy hx;go_wp2_with fail;go_ret
   exact⟨rfl,below_drewN B2.out _⟩
  ·have bj:z=false:=by rw[HZ.out,decide_eq_false hx];simp
   rw[decide_eq_false hx];have dL:=zH bj;clear hx bj;go_wp2_with fail;go_ret
   exact⟨by rw[dL.out];rfl,below_drewN B2.out _⟩
 ·have yG:(neg==q.neg)=false:=by simpa using he
  have bj:z=false:=by rw[HZ.out];simp[he]
  have dL:=zH bj;clear bj he;go_wp2_with fail;go_ret
  exact⟨by rw[dL.out];rfl,B2.out⟩
theorem pv {y:ByteArray} {l:List UInt8} (h:y≠⟨l.toArray⟩):(y.toList==l)=false:=by
 rw[ByteArray.toList_eq];rw[beq_eq_false_iff_ne];intro e;apply h;apply ByteArray.ext;rw[←e]
theorem fY (a b:List UInt8):((⟨a.toArray⟩:ByteArray)++⟨b.toArray⟩)=⟨(a++b).toArray⟩:=by
 apply ByteArray.ext;rw[ByteArray.data_append];simp
theorem LF {S:Nat→Prop} {v:Value} {r:Raw} {w:World} (h:SV w S v r) (hS:∀b,S b→b<w.heap.size) (hl:r.short 67108864) : Calls Tryz.prog 73 #[v] w (j5 w (.string ⟨(ik r.q).toArray⟩)):=by
 obtain⟨A,n,c,A2,n2,c2,rfl,h1,h2⟩:=h.raw_cases;have gl:Below w.heap.size w (w.alloc (.cells #[.bool r.neg,.slice A n c,.slice A2 n2 c2] 28)):=(Below.refl _ _).alloc (Nat.le_refl _) _;have wj:dy (w.alloc (.cells #[.bool r.neg,.slice A n c,.slice A2 n2 c2] 28)) w.heap.size 28 #[.bool r.neg,.slice A n c,.slice A2 n2 c2]:=dy.new _ _ _;obtain⟨w1,fX⟩:∃x,w.alloc (.cells #[.bool r.neg,.slice A n c,.slice A2 n2 c2] 28)=x:=⟨_,rfl⟩;rw[fX] at gl wj;have nc:w1.heap.size=w.heap.size+1:=by rw[←fX];simp
 have HV:=zH (h.below gl hS);have oq:=zH fX;have oN:=zH gl;have Ud:=zH wj;have F0:=zH nc;have P8:=(mA hl (by omega)).1;have Ho:=(mA hl (by omega)).2;obtain⟨q,hq⟩:∃q,r.q=q:=⟨_,rfl⟩;rw[hq] at P8 Ho;rw[hq];obtain⟨neg,num,den⟩:=r;have HQ:=zH hq;have HQ1:=zH P8;have HQ2:=zH Ho;obtain⟨T,hT⟩:∃T:ByteArray,⟨(ik q).toArray⟩=T:=⟨_,rfl⟩;rw[hT];have HT:=zH hT;clear h h1 h2 fX gl wj hq P8 Ho nc hT;go_enter Tryz.func73,Tryz.ntmps73;go_wp2_with fail;rw[oq.out];refine(nP HV.out (fun b hb=>Nat.lt_of_lt_of_le (hS b hb) oN.out.size) ⟨Nat.le_trans hl.1 (by omega),Nat.le_trans hl.2 (by omega)⟩).mono ?_;rintro e w2 ⟨v,rfl,⟨cs,rfl,A5,n5,c5,A6,n6,c6,rfl,h5,h6⟩,hb⟩;rw[HQ.out] at h5 h6 ⊢;obtain⟨c0,c1,c2',f0,f1,f2⟩:=(Ud.out.keep hb).facts3;have b3:Below w.heap.size w (setAll w2 w.heap.size 0 [.bool q.neg,.slice A5 n5 c5,.slice A6 n6 c6]):=j4 (ak oN.out hb) (Nat.le_refl _) _ 0;have k3:dy (setAll w2 w.heap.size 0 [.bool q.neg,.slice A5 n5 c5,.slice A6 n6 c6]) w.heap.size 28 #[.bool q.neg,.slice A5 n5 c5,.slice A6 n6 c6]:=(Ud.out.keep hb).setAll [.bool q.neg,.slice A5 n5 c5,.slice A6 n6 c6] rfl;have kp:aA (cQ w1 w2) w2 (setAll w2 w.heap.size 0 [.bool q.neg,.slice A5 n5 c5,.slice A6 n6 c6]):=(aA.refl _ _).setAll (fun h=>by have:=h.1;have:=F0.out;omega) _ 0;have r5:=h5.keep (fun _ h=>h) kp;have r6:=h6.keep (fun _ h=>h) kp;have z3:(setAll w2 w.heap.size 0 [.bool q.neg,.slice A5 n5 c5,.slice A6 n6 c6]).heap.size=w2.heap.size:=kH _ _ _;obtain⟨w3,hw3⟩:∃x,setAll w2 w.heap.size 0 [.bool q.neg,.slice A5 n5 c5,.slice A6 n6 c6]=x:=⟨_,rfl⟩;rw[hw3] at b3 k3 r5 r6 z3;have hl5:n5≤67108864:=by have:=HQ1.out;have:=r5.len;omega
 have hl6:n6≤67108864:=by have:=HQ2.out;have:=r6.len;omega
 have HW3:Hid (((w2.setCell ⟨w.heap.size,0,none⟩ (.bool q.neg)).setCell ⟨w.heap.size,1,none⟩ (.slice A5 n5 c5)).setCell ⟨w.heap.size,2,none⟩ (.slice A6 n6 c6)=w3):=zH hw3;have B3:=zH b3;have K3:=zH k3;have R5:=zH r5;have R6:=zH r6;have Z3:=zH z3;clear h5 h6 hb b3 k3 kp r5 r6 hw3 z3;go_wp2_with fail;rw[HW3.out];have t5:=Ge R5.out (fun b h=>by rw[Z3.out];exact h.2) (by omega);rw[bC] at t5;obtain⟨x,hx⟩:∃x:ByteArray,⟨(bG q.n).toArray⟩=x:=⟨_,rfl⟩;rw[hx] at t5;have NC:x.size≤1000000000:=by
  have:=kZ HQ1.out;rw[←hx];show(bG q.n).toArray.size≤_;rw[List.size_toArray];omega
 have HX:=zH hx;have T5:=zH t5;clear hx t5;refine T5.out.mono ?_;rintro e w4 ⟨rfl,jT⟩;obtain⟨d0,d1,d2,_,_,_⟩:=(K3.out.keep jT).facts3;have R64:=zH (R6.out.below jT (fun b h=>by rw[Z3.out];exact h.2));have hz4:=jT.size;have t6:=Ge R64.out (fun b h=>Nat.lt_of_lt_of_le h.2 (by rw[←Z3.out];exact hz4)) (by omega);rw[bC] at t6;obtain⟨y,hy⟩:∃y:ByteArray,⟨(bG q.d).toArray⟩=y:=⟨_,rfl⟩;rw[hy] at t6;have hys:y.size≤1000000000:=by
  have:=kZ HQ2.out;rw[←hy];show(bG q.d).toArray.size≤_;rw[List.size_toArray];omega
 have HY:=zH hy;have T6:=zH t6;have B4:=zH (ak B3.out jT);clear hy t6 jT hz4;have UH:(y=⟨#[49]⟩)↔bG q.d=[49]:=by
  rw[←HY.out];constructor
  ·intro e;have:=congrArg (fun b=>b.data.toList) e;simpa using this
  ·intro e;rw[e]
 have HY1:=zH UH;clear UH;obtain⟨V0,qn,qd⟩:=q;cases V0 with
 | true=>
  go_wp2_with fail;refine T6.out.mono ?_;rintro e w5 ⟨rfl,Be⟩;have B5:=zH (ak B4.out Be);clear Be;by_cases h1:y=⟨#[49]⟩
  ·have hT:(⟨#[45]⟩:ByteArray)++x=T:=by
    rw[←HT.out,←HX.out];unfold ik;rw[if_pos rfl,if_pos (HY1.out.1 h1),List.append_nil];exact fY [45] _
   have Ea:=zH hT;clear hT;go_wp2_with fail;go_ret
   exact⟨congrArg (fun t=>Ending.returned (.string t)) Ea.out,B5.out⟩
  ·have fv:(y.toList==[49])=false:=pv h1;have hT:(⟨#[45]⟩:ByteArray)++x++(⟨#[47]⟩++y)=T:=by
    rw[←HT.out,←HX.out,←HY.out];unfold ik;rw[if_pos rfl,if_neg (fun e=>h1 (HY1.out.2 e))];exact(congr (congrArg HAppend.hAppend (fY [45] _)) (fY [47] _)).trans (fY _ _)
   have Ea:=zH hT;clear hT h1;have anA:((⟨#[45]⟩:ByteArray)++x).size≤1000000001:=by rw[ByteArray.size_append];show 1+_≤_;omega
   have anw:((⟨#[47]⟩:ByteArray)++y).size≤1000000001:=by rw[ByteArray.size_append];show 1+_≤_;omega
   go_wp2_with fail;go_ret
   exact⟨congrArg (fun t=>Ending.returned (.string t)) Ea.out,B5.out⟩
 | false=>
  go_wp2_with fail;refine T6.out.mono ?_;rintro e w5 ⟨rfl,Be⟩;have B5:=zH (ak B4.out Be);clear Be;by_cases h1:y=⟨#[49]⟩
  ·have hT:x=T:=by
    rw[←HT.out,←HX.out];unfold ik;rw[if_neg (by simp),if_pos (HY1.out.1 h1),List.append_nil,List.nil_append]
   have Ea:=zH hT;clear hT;go_wp2_with fail;go_ret
   exact⟨congrArg (fun t=>Ending.returned (.string t)) Ea.out,B5.out⟩
  ·have fv:(y.toList==[49])=false:=pv h1;have hT:x++((⟨#[47]⟩:ByteArray)++y)=T:=by
    rw[←HT.out,←HX.out,←HY.out];unfold ik;rw[if_neg (by simp),if_neg (fun e=>h1 (HY1.out.2 e)),List.nil_append];exact(congrArg _ (fY [47] _)).trans (fY _ _)
   have Ea:=zH hT;clear hT h1;go_wp2_with fail;go_ret
   exact⟨congrArg (fun t=>Ending.returned (.string t)) Ea.out,B5.out⟩
theorem gC {a b:Bool} (h:a=true↔b=true):Ending.returned (.bool a)=.returned (.bool b):=by rw[Bool.eq_iff_iff.2 h]
theorem yo (c:UInt8) (w:World):Calls Tryz.prog 173 #[.int .u8 (c.toNat:Int)] w (gL w (.bool (gh c))):=by
 have hc:=c.toNat_lt;obtain⟨n,hn⟩:∃n,c.toNat=n:=⟨_,rfl⟩;unfold gh;rw[hn] at hc ⊢;go_enter Tryz.func173,Tryz.ntmps173;go_wp2_with fail
 all_goals
  go_ret
  exact⟨gC (by simp;omega),rfl⟩
theorem CZ (c:UInt8) (w:World):Calls Tryz.prog 176 #[.int .u8 (c.toNat:Int)] w (gL w (.bool (digitB c))):=by
 have hc:=c.toNat_lt;obtain⟨n,hn⟩:∃n,c.toNat=n:=⟨_,rfl⟩;unfold digitB;rw[hn] at hc ⊢;go_enter Tryz.func176,Tryz.ntmps176;go_wp2_with fail
 all_goals
  go_ret
  exact⟨gC (by simp;omega),rfl⟩
theorem zK (c:UInt8) (w:World):Calls Tryz.prog 117 #[.int .u8 (c.toNat:Int)] w (gL w (.bool (kg c))):=by
 have hc:=c.toNat_lt;obtain⟨n,hn⟩:∃n,c.toNat=n:=⟨_,rfl⟩;unfold kg;rw[hn] at hc ⊢;go_enter Tryz.func117,Tryz.ntmps117;go_wp2_with fail
 all_goals
  go_ret
  exact⟨gC (by simp;omega),rfl⟩
theorem Vf (c:UInt8):(c==45)=decide (c.toNat=45):=by
 rw[Bool.eq_iff_iff,beq_iff_eq,decide_eq_true_iff];exact⟨fun h=>by rw[h];rfl,fun h=>UInt8.toNat_inj.1 (by rw[h];rfl)⟩
theorem yA (c:UInt8) (w:World):Calls Tryz.prog 175 #[.int .u8 (c.toNat:Int)] w (gL w (.bool (ij c))):=by
 have hl:=yo c w;have hd:=CZ c w;obtain⟨a,ha⟩:∃a,gh c=a:=⟨_,rfl⟩;obtain⟨b,hb⟩:∃a,digitB c=a:=⟨_,rfl⟩;unfold ij;rw[Vf,ha,hb];rw[ha] at hl;rw[hb] at hd;have hc:=c.toNat_lt;obtain⟨n,hn⟩:∃n,c.toNat=n:=⟨_,rfl⟩;rw[hn] at hc hl hd ⊢;have HL:=zH hl;have HD:=zH hd;clear hl hd ha hb hn;go_enter Tryz.func175,Tryz.ntmps175;go_wp2_with fail;refine HL.out.mono ?_;rintro e w' ⟨rfl,rfl⟩;cases a with
 | true=>
  go_wp2_with fail;go_ret
  exact⟨gC (by simp),rfl⟩
 | false=>
  go_wp2_with fail;refine HD.out.mono ?_;rintro e w' ⟨rfl,rfl⟩;cases b with
  | true=>
   go_wp2_with fail;go_ret
   exact⟨gC (by simp),rfl⟩
  | false=>
   go_wp2_with fail;go_ret
   exact⟨gC (by simp;omega),rfl⟩
theorem eX {p:UInt8→Bool}:∀{l:List UInt8} {n:Nat},(∀i x,i<n→l[i]?=some x→p x=true)→n≤l.length→(n=l.length∨∃x,l[n]?=some x∧p x=false)→(l.takeWhile p).length=n
 | [],n,_,hn,_=>by simp at hn;subst hn;rfl
 | y::l,0,_,_,hx=>by
  rcases hx with hx|⟨x,hx,hp⟩
  ·simp at hx
  ·simp at hx;subst hx;simp[hp]
 | y::l,n+1,h,hn,hx=>by
  have hy:p y=true:=h 0 y (by omega) rfl;simp only[List.length_cons] at hn hx;rw[List.takeWhile_cons,if_pos hy,List.length_cons,eX (n:=n) (fun i x hi hx=>h (i+1) x (by omega) (by simpa using hx)) (by omega)];rcases hx with hx|⟨x,hx,hp⟩
  ·exact .inl (by omega)
  ·exact .inr ⟨x,by simpa using hx,hp⟩
theorem str_at {s:ByteArray} {k:Nat} (h:k<s.size):s.data.toList[k]?=some s[k]:=by
 have:k<s.data.toList.length:=by simpa using h
 rw[List.getElem?_eq_getElem this];rfl
theorem dm (s:ByteArray):s.data.toList.length=s.size:=by simp
theorem LW (s:ByteArray) (w:World) (hs:s.size≤9223372036854775807):Calls Tryz.prog 174 #[.string s,.func (.func 175) #[] #[]] w (gL w (.int .i64 ((s.data.toList.takeWhile ij).length:Nat))):=by
 obtain⟨z,hz⟩:∃z,(s.data.toList.takeWhile ij).length=z:=⟨_,rfl⟩;rw[hz];have HZ:=zH hz;clear hz;go_enter Tryz.func174,Tryz.ntmps174;go_wp2_with fail;go_loopw [5] (fun v wr=>∃n:Nat,v=.int .i64 n∧n≤s.size∧(∀i x,i<n→s.data.toList[i]?=some x→ij x=true)∧wr=w) (fun v _=>s.size-(intOf v).toNat)
 case atStart=>exact⟨0,rfl,Nat.zero_le _,fun i x hi=>absurd hi (Nat.not_lt_zero _),rfl⟩
 case round=>
  obtain⟨n,rfl,hn,dS,rfl⟩:=hrel;have HA:=zH dS;clear dS;by_cases hlt:n<s.size
  ·have jJ:(n:Int)<(s.size:Int):=by omega
   have hx:=str_at hlt;have hw:=yA s[n] wr;obtain⟨x,nk⟩:∃x,s[n]=x:=⟨_,rfl⟩;rw[nk] at hx hw;obtain⟨b,hb⟩:∃b,ij x=b:=⟨_,rfl⟩;rw[hb] at hw;have HX:=zH hx;have HW:=zH hw;have HB:=zH hb;clear hx hw hb;go_wp2_with fail;refine HW.out.mono ?_;rintro e w' ⟨rfl,rfl⟩;cases b with
   | true=>
    go_wp2_with fail;go_roundw
    case rel=>
     refine⟨n+1,by go_num,by omega,fun i y hi hy=>?_,trivial⟩;rcases(show i<n∨i=n by omega) with h|h
     ·exact HA.out i y h hy
     ·subst h;rw[HX.out] at hy;injection hy with hy
      rw[←hy];exact HB.out
    case measure=>simp[intOf];omega
   | false=>
    have qe:z=n:=by rw[←HZ.out];exact eX HA.out (by rw[dm];exact hn) (.inr ⟨x,HX.out,HB.out⟩)
    have HN:=zH qe;clear qe;go_wp2_with fail;go_ret
    exact⟨by rw[HN.out];rfl,rfl⟩
  ·have fv:n=s.size:=by omega
   have qe:z=n:=by rw[←HZ.out];exact eX HA.out (by rw[dm];exact hn) (.inl (by rw[dm];exact fv))
   have HN:=zH qe;clear qe fv;go_wp2_with fail;go_ret
   exact⟨by rw[HN.out];rfl,rfl⟩
theorem LX (s:ByteArray) (w:World) (hs:s.size≤9223372036854775807):Calls Tryz.prog 174 #[.string s,.func (.func 176) #[] #[]] w (gL w (.int .i64 ((s.data.toList.takeWhile digitB).length:Nat))):=by
 obtain⟨z,hz⟩:∃z,(s.data.toList.takeWhile digitB).length=z:=⟨_,rfl⟩;rw[hz];have HZ:=zH hz;clear hz;go_enter Tryz.func174,Tryz.ntmps174;go_wp2_with fail;go_loopw [5] (fun v wr=>∃n:Nat,v=.int .i64 n∧n≤s.size∧(∀i x,i<n→s.data.toList[i]?=some x→digitB x=true)∧wr=w) (fun v _=>s.size-(intOf v).toNat)
 case atStart=>exact⟨0,rfl,Nat.zero_le _,fun i x hi=>absurd hi (Nat.not_lt_zero _),rfl⟩
 case round=>
  obtain⟨n,rfl,hn,dS,rfl⟩:=hrel;have HA:=zH dS;clear dS;by_cases hlt:n<s.size
  ·have jJ:(n:Int)<(s.size:Int):=by omega
   have hx:=str_at hlt;have hw:=CZ s[n] wr;obtain⟨x,nk⟩:∃x,s[n]=x:=⟨_,rfl⟩;rw[nk] at hx hw;obtain⟨b,hb⟩:∃b,digitB x=b:=⟨_,rfl⟩;rw[hb] at hw;have HX:=zH hx;have HW:=zH hw;have HB:=zH hb;clear hx hw hb;go_wp2_with fail;refine HW.out.mono ?_;rintro e w' ⟨rfl,rfl⟩;cases b with
   | true=>
    go_wp2_with fail;go_roundw
    case rel=>
     refine⟨n+1,by go_num,by omega,fun i y hi hy=>?_,trivial⟩;rcases(show i<n∨i=n by omega) with h|h
     ·exact HA.out i y h hy
     ·subst h;rw[HX.out] at hy;injection hy with hy
      rw[←hy];exact HB.out
    case measure=>simp[intOf];omega
   | false=>
    have qe:z=n:=by rw[←HZ.out];exact eX HA.out (by rw[dm];exact hn) (.inr ⟨x,HX.out,HB.out⟩)
    have HN:=zH qe;clear qe;go_wp2_with fail;go_ret
    exact⟨by rw[HN.out];rfl,rfl⟩
  ·have fv:n=s.size:=by omega
   have qe:z=n:=by rw[←HZ.out];exact eX HA.out (by rw[dm];exact hn) (.inl (by rw[dm];exact fv))
   have HN:=zH qe;clear qe fv;go_wp2_with fail;go_ret
   exact⟨by rw[HN.out];rfl,rfl⟩
theorem Lk (s:ByteArray) (w:World) (hs:s.size≤9223372036854775807):Calls Tryz.prog 146 #[.string s] w (gL w (.int .i64 (jX s.data.toList:Nat))):=by
 by_cases h:s=⟨#[]⟩
 ·subst h;go_enter Tryz.func146,Tryz.ntmps146;go_wp2_with fail;go_ret
  exact⟨rfl,rfl⟩
 ·have fv:(s.toList==[])=false:=pv (l:=[]) h;have h0:0<s.size:=by
   rcases Nat.eq_zero_or_pos s.size with h0|h0
   ·exact absurd (ByteArray.ext (Array.eq_empty_of_size_eq_zero h0)) h
   ·exact h0
  have WZ:=LW s w hs;have hl:=yo s[0] w;have hx:=str_at h0;obtain⟨x,nk⟩:∃x,s[0]=x:=⟨_,rfl⟩;rw[nk] at hl hx;obtain⟨b,hb⟩:∃b,gh x=b:=⟨_,rfl⟩;obtain⟨z,hz⟩:∃z,(s.data.toList.takeWhile ij).length=z:=⟨_,rfl⟩;have hw:jX s.data.toList=if b then z else 0:=by
   unfold jX;cases hd:s.data.toList with
   | nil=>rw[hd] at hx;cases hx
   | cons y l=>
    rw[hd] at hx;simp at hx;subst hx;simp only[hb];rw[←hd,hz]
  rw[hz] at WZ;rw[hb] at hl;have HS:=zH WZ;have HL:=zH hl;rw[hw];clear WZ hl hb hz hw hx h;cases b with
  | true=>
   rw[if_pos rfl];go_enter Tryz.func146,Tryz.ntmps146;go_wp2_with fail;refine HL.out.mono ?_;rintro e w' ⟨rfl,rfl⟩;go_wp2_with fail;refine HS.out.mono ?_;rintro e w' ⟨rfl,rfl⟩;go_wp2_with fail;go_ret
   exact⟨rfl,rfl⟩
  | false=>
   rw[if_neg (by simp)];go_enter Tryz.func146,Tryz.ntmps146;go_wp2_with fail;refine HL.out.mono ?_;rintro e w' ⟨rfl,rfl⟩;go_wp2_with fail;go_ret
   exact⟨rfl,rfl⟩
theorem ZZ (p:UInt8→Bool) (l:List UInt8):(l.takeWhile p).length≤l.length:=(List.takeWhile_sublist p).length_le
theorem pA (s:ByteArray) (w:World) (hs:s.size≤9223372036854775807):Calls Tryz.prog 147 #[.string s] w (gL w (.int .i64 (gv s.data.toList:Nat))):=by
 have WZ:=LX s w hs;have xG:=ZZ digitB s.data.toList;rw[dm] at xG;have abT:gv s.data.toList=gv s.data.toList:=rfl;unfold gv at abT;obtain⟨z,hz⟩:∃z,gv s.data.toList=z:=⟨_,rfl⟩;obtain⟨n,hn⟩:∃n,(s.data.toList.takeWhile digitB).length=n:=⟨_,rfl⟩;rw[hn] at WZ xG;have fA:z=if n=0∨6<n∨(s.data.toList.head?=some 48∧1<n)∨((s.data.toList[n]?.map ij).getD false=true) then 0 else n:=by rw[←hz];unfold gv;rw[hn]
 rw[hz];have HS:=zH WZ;have HZ:=zH fA;clear WZ hz hn fA abT;go_enter Tryz.func147,Tryz.ntmps147;go_wp2_with fail;refine HS.out.mono ?_;rintro e w' ⟨rfl,rfl⟩;by_cases h0:n=0
 ·have kr:z=0:=by rw[HZ.out,if_pos (.inl h0)]
  have pY:=zH kr;subst h0;clear kr;go_wp2_with fail;go_ret
  exact⟨by rw[pY.out];rfl,rfl⟩
 ·have hb0:((n:Int)==0)=false:=by rw[beq_eq_false_iff_ne];omega
  have NM:0<s.size:=by omega
  by_cases h6:6<n
  ·have kr:z=0:=by rw[HZ.out,if_pos (.inr (.inl h6))]
   have pY:=zH kr;have hb6:(6<(n:Int))=True:=eq_true (by omega);clear kr h0;go_wp2_with fail;go_ret
   exact⟨by rw[pY.out];rfl,rfl⟩
  ·have hb6:(6<(n:Int))=False:=eq_false (by omega);have hx:=str_at NM;have N4:s.data.toList.head?=some s[0]:=by rw[List.head?_eq_getElem?];exact hx
   obtain⟨x,nk⟩:∃x,s[0]=x:=⟨_,rfl⟩;rw[nk] at hx N4;have WS:((x.toNat:Int)==48)=decide (x=48):=by
    rw[Bool.eq_iff_iff,beq_iff_eq,decide_eq_true_iff];exact⟨fun h=>UInt8.toNat_inj.1 (by
     have:x.toNat=48:=by omega
     rw[this];rfl),fun h=>by rw[h];rfl⟩
   have HH:=zH N4;clear hx N4;by_cases h48:x=48∧1<n
   ·have kr:z=0:=by rw[HZ.out,if_pos (.inr (.inr (.inl ⟨by rw[HH.out,h48.1],h48.2⟩)))]
    have pY:=zH kr;rw[decide_eq_true h48.1] at WS;have cI:(1<(n:Int))=True:=eq_true (by omega);clear kr h0 h6 h48;go_wp2_with fail;go_ret
    exact⟨by rw[pY.out];rfl,rfl⟩
   ·have ku:∀b,(s.data.toList[n]?.map ij).getD false=b→z=if b then 0 else n:=fun b hb=>by
     rw[HZ.out];cases b with
     | true=>rw[if_pos (.inr (.inr (.inr hb))),if_pos rfl]
     | false=>
      rw[if_neg,if_neg (by simp)];rintro(h|h|h|h)
      ·exact h0 h
      ·exact h6 h
      ·rw[HH.out] at h;exact h48 ⟨by simpa using h.1,h.2⟩
      ·rw[hb] at h;cases h
    have Vp:=zH ku;have et:∀(c:Bool),((x.toNat:Int)==48)=c→(c=true→¬1<n):=fun c hc h h1=>h48 ⟨by rw[WS] at hc;simpa[h] using hc,h1⟩;obtain⟨c,hc⟩:∃c,((x.toNat:Int)==48)=c:=⟨_,rfl⟩;have hc1:=et c hc;clear ku et WS h48;by_cases hlt:n<s.size
    ·have jJ:((n:Int)<(s.size:Int))=True:=eq_true (by omega);have hy:=str_at hlt;have hiw:=yA s[n] w;obtain⟨y,Nz⟩:∃y,s[n]=y:=⟨_,rfl⟩;rw[Nz] at hy hiw;obtain⟨b,hb⟩:∃b,ij y=b:=⟨_,rfl⟩;rw[hb] at hiw;have iE:=Vp.out b (by rw[hy];simpa using hb);have k8:=zH iE;have HI:=zH hiw;clear hy hiw hb iE;cases c with
     | true=>
      have cI:(1<(n:Int))=False:=eq_false (by have:=hc1 rfl;omega);go_wp2_with fail;refine HI.out.mono ?_;rintro e w' ⟨rfl,rfl⟩;cases b with
      | true=>go_wp2_with fail;go_ret;exact⟨by rw[k8.out];rfl,rfl⟩
      | false=>go_wp2_with fail;go_ret;exact⟨by rw[k8.out];rfl,rfl⟩
     | false=>
      go_wp2_with fail;refine HI.out.mono ?_;rintro e w' ⟨rfl,rfl⟩;cases b with
      | true=>go_wp2_with fail;go_ret;exact⟨by rw[k8.out];rfl,rfl⟩
      | false=>go_wp2_with fail;go_ret;exact⟨by rw[k8.out];rfl,rfl⟩
    ·have jJ:((n:Int)<(s.size:Int))=False:=eq_false (by omega);have iE:=Vp.out false (by rw[List.getElem?_eq_none (by rw[dm];omega)];rfl);have k8:=zH iE;clear iE;cases c with
     | true=>
      have cI:(1<(n:Int))=False:=eq_false (by have:=hc1 rfl;omega);go_wp2_with fail;go_ret
      exact⟨by rw[k8.out];rfl,rfl⟩
     | false=>
      go_wp2_with fail;go_ret
      exact⟨by rw[k8.out];rfl,rfl⟩
theorem Dw {s:ByteArray} {l:List UInt8} (h:s.data.toList=l):s=⟨l.toArray⟩:=by
 apply ByteArray.ext;rw[←h]
theorem qU (s:ByteArray) (k:Nat):s.extract 0 k=⟨(s.data.toList.take k).toArray⟩:=by
 apply Dw;rw[ByteArray.data_extract];simp
theorem extract_drop (s:ByteArray) (k:Nat):s.extract k s.size=⟨(s.data.toList.drop k).toArray⟩:=by
 apply Dw;rw[ByteArray.data_extract,Array.toList_extract];have:s.size=s.data.toList.length:=by simp
 rw[this];simp[List.extract_eq_take_drop];rw[List.take_of_length_le (by simp)]
theorem Tp (s:ByteArray) (w:World) (hs:s.size≤9223372036854775807):Calls Tryz.prog 177 #[.string s,.string ⟨#[47]⟩] w (xb w (.tuple #[.string ⟨(dU s.data.toList).toArray⟩,.string ⟨(dH s.data.toList).toArray⟩,.bool (jc s.data.toList)])):=by
 have hi:=Tryz.stringslite_Index_one s 47 w;rcases jI s.data.toList with h|⟨k,hk,h1,h2,h3⟩
 ·rw[h] at hi;obtain⟨c1,c2,c3⟩:=wL h;rw[c1,c2,c3];have WY:(⟨s.data.toList.toArray⟩:ByteArray)=s:=rfl;rw[WY];have HI:=zH hi;clear hi h c1 c2 c3 WY;go_enter Tryz.func177,Tryz.ntmps177;go_wp2_with fail;refine HI.out.mono ?_;rintro e w' ⟨rfl,rfl⟩;go_wp2_with fail
  go_ret3
  exact⟨rfl,0,rfl⟩
 ·rw[hk] at hi;obtain⟨c1,c2,c3⟩:=qZ h1 h2;rw[c1,c2,c3,←qU,←extract_drop];rw[dm] at h3;have HI:=zH hi;have tw:(k:Int)≤(s.size:Int):=by omega
  have gR:(k:Int)+1≤(s.size:Int):=by omega
  clear hi hk c1 c2 c3 h1 h2;go_enter Tryz.func177,Tryz.ntmps177;go_wp2_with fail;refine HI.out.mono ?_;rintro e w' ⟨rfl,rfl⟩;go_wp2_with fail;go_quiet (fail)
  go_wp2_with fail
  go_ret3
  exact⟨rfl,_,rfl⟩
theorem OW (s:ByteArray) (w:World) (hs:s.size≤9223372036854775807):Calls Tryz.prog 148 #[.string s,.string ⟨#[47]⟩] w (xb w (.tuple #[.string ⟨(dU s.data.toList).toArray⟩,.string ⟨(dH s.data.toList).toArray⟩,.bool (jc s.data.toList)])):=by
 have h:=Tp s w hs;obtain⟨a,ha⟩:∃a:ByteArray,⟨(dU s.data.toList).toArray⟩=a:=⟨_,rfl⟩;obtain⟨b,hb⟩:∃a:ByteArray,⟨(dH s.data.toList).toArray⟩=a:=⟨_,rfl⟩;obtain⟨c,hc⟩:∃a,jc s.data.toList=a:=⟨_,rfl⟩;rw[ha,hb,hc] at h ⊢;have H:=zH h;clear h ha hb hc;go_enter Tryz.func148,Tryz.ntmps148;go_wp2_with fail;refine H.out.mono ?_;rintro e w' ⟨rfl,n,rfl⟩;go_wp2_with fail
 go_ret3
 exact⟨rfl,n,rfl⟩
theorem Ks (s:ByteArray):(⟨(dU s.data.toList).toArray⟩:ByteArray).size≤s.size:=by
 show(dU s.data.toList).toArray.size≤_;rw[List.size_toArray,←dm];exact(List.takeWhile_sublist _).length_le
theorem Kr (s:ByteArray):(⟨(dH s.data.toList).toArray⟩:ByteArray).size≤s.size:=by
 show(dH s.data.toList).toArray.size≤_;rw[List.size_toArray,←dm];have h:=(List.dropWhile_sublist (l:=s.data.toList) (· !=47)).length_le;unfold dH;rw[List.length_drop];omega
theorem Is (s:ByteArray) (w:World) (hs:s.size≤9223372036854775807):Calls Tryz.prog 120 #[.string s] w (j5 w (.bool (iz s.data.toList))):=by
 by_cases h:s=⟨#[]⟩
 ·subst h;go_enter Tryz.func120,Tryz.ntmps120;go_wp2_with fail;go_ret
  exact⟨rfl,Below.refl _ _⟩
 ·have fv:(s.toList==[])=false:=pv (l:=[]) h;have hl0:s.data.toList≠[]:=fun e=>h (Dw e);have hw:=Lk s w hs;have hn:=pA s w hs;have hcut:=OW s w hs;obtain⟨x,hx⟩:∃x,jX s.data.toList=x:=⟨_,rfl⟩;obtain⟨y,hy⟩:∃x,gv s.data.toList=x:=⟨_,rfl⟩;obtain⟨z,hz⟩:∃z,iz s.data.toList=z:=⟨_,rfl⟩;have fA:=hz;unfold iz at fA;rw[if_neg hl0,hx,hy,dm] at fA;rw[hx] at hw;rw[hy] at hn;rw[hz];have HW:=zH hw;have HN:=zH hn;have HZ:=zH fA;clear hw hn hx hy hz hl0 fA;go_enter Tryz.func120,Tryz.ntmps120;go_wp2_with fail;refine HW.out.mono ?_;rintro e w' ⟨rfl,rfl⟩;by_cases h1:x=s.size
  ·have cI:((x:Int)==(s.size:Int))=true:=by rw[beq_iff_eq];omega
   have fu:z=true:=by rw[←HZ.out,if_pos (.inl h1)]
   have ka:=zH fu;clear h1 fu;go_wp2_with fail;go_ret
   exact⟨by rw[ka.out];rfl,Below.refl _ _⟩
  ·have cI:((x:Int)==(s.size:Int))=false:=by rw[beq_eq_false_iff_ne];omega
   go_wp2_with fail;refine HN.out.mono ?_;rintro e w' ⟨rfl,rfl⟩;by_cases h2:y=s.size
   ·have bZ:((y:Int)==(s.size:Int))=true:=by rw[beq_iff_eq];omega
    have fu:z=true:=by rw[←HZ.out,if_pos (.inr h2)]
    have ka:=zH fu;clear h2 h1 fu;go_wp2_with fail;go_ret
    exact⟨by rw[ka.out];rfl,Below.refl _ _⟩
   ·have bZ:((y:Int)==(s.size:Int))=false:=by rw[beq_eq_false_iff_ne];omega
    have fu:=HZ.out;rw[if_neg (fun h=>h.elim h1 h2)] at fu;have ha:=Ks s;have hb:=Kr s;have UM:=fun w=>pA ⟨(dU s.data.toList).toArray⟩ w (Nat.le_trans ha hs);have KY:=fun w=>pA ⟨(dH s.data.toList).toArray⟩ w (Nat.le_trans hb hs);obtain⟨a,UT⟩:∃a:ByteArray,⟨(dU s.data.toList).toArray⟩=a:=⟨_,rfl⟩;obtain⟨b,heb⟩:∃a:ByteArray,⟨(dH s.data.toList).toArray⟩=a:=⟨_,rfl⟩;obtain⟨c,hec⟩:∃a,jc s.data.toList=a:=⟨_,rfl⟩;have iF:dU s.data.toList=a.data.toList:=by rw[←UT]
    have kV:dH s.data.toList=b.data.toList:=by rw[←heb]
    rw[UT,heb,hec] at hcut;rw[UT] at UM ha;rw[heb] at KY hb;rw[iF,kV,hec] at fu;obtain⟨na,Xr⟩:∃n,gv a.data.toList=n:=⟨_,rfl⟩;obtain⟨nb,Xq⟩:∃n,gv b.data.toList=n:=⟨_,rfl⟩;rw[Xr,Xq,dm,dm] at fu;rw[Xr] at UM;rw[Xq] at KY;have ajE:=zH hcut;have HNA:=zH UM;have Vo:=zH KY;have ka:=zH fu;clear h1 h2 fu UT heb hec iF kV Xr Xq hcut UM KY;go_wp2_with fail;refine ajE.out.mono ?_;rintro e w2 ⟨rfl,m,rfl⟩;cases c with
    | false=>
     have bj:z=false:=by rw[←ka.out];rfl
     have dL:=zH bj;clear bj;go_wp2_with fail;go_ret
     exact⟨by rw[dL.out];rfl,below_drewN (Below.refl _ _) m⟩
    | true=>
     by_cases h3:a=⟨#[]⟩
     ·have bj:z=false:=by rw[←ka.out,h3];rfl
      have dL:=zH bj;clear bj;subst h3;go_wp2_with fail;go_ret
      exact⟨by rw[dL.out];rfl,below_drewN (Below.refl _ _) m⟩
     ·have aov:(a.toList==[])=false:=pv (l:=[]) h3;have ha4:a.data.toList≠[]:=fun e=>h3 (Dw e);by_cases h4:b=⟨#[]⟩
      ·have bj:z=false:=by rw[←ka.out,h4];simp
       have dL:=zH bj;clear bj h3 ha4;subst h4;go_wp2_with fail;go_ret
       exact⟨by rw[dL.out];rfl,below_drewN (Below.refl _ _) m⟩
      ·have aou:(b.toList==[])=false:=pv (l:=[]) h4;have jT:b.data.toList≠[]:=fun e=>h4 (Dw e);have iE:=ka.out;rw[decide_eq_true ha4,decide_eq_true jT] at iE;have k8:=zH iE;clear iE h3 h4 ha4 jT;go_wp2_with fail;refine(HNA.out _).mono ?_;rintro e w' ⟨rfl,rfl⟩;by_cases h5:na=a.size
       ·have Be:((na:Int)==(a.size:Int))=true:=by rw[beq_iff_eq];omega
        go_wp2_with fail;refine(Vo.out _).mono ?_;rintro e w' ⟨rfl,rfl⟩;have bj:z=((nb:Int)==(b.size:Int)):=by
         rw[←k8.out,decide_eq_true h5];rw[Bool.eq_iff_iff];simp;omega
        have dL:=zH bj;clear bj h5;go_wp2_with fail;go_ret
        exact⟨by rw[dL.out];rfl,below_drewN (Below.refl _ _) m⟩
       ·have Be:((na:Int)==(a.size:Int))=false:=by rw[beq_eq_false_iff_ne];omega
        have bj:z=false:=by rw[←k8.out,decide_eq_false h5];simp
        have dL:=zH bj;clear bj h5;go_wp2_with fail;go_ret
        exact⟨by rw[dL.out];rfl,below_drewN (Below.refl _ _) m⟩
def xJ (c:UInt8):List UInt8:=if c.toNat=34∨c.toNat=92 then[92,c] else[c]
def qV (l:List UInt8):List UInt8:=l.flatMap xJ
def zI (l:List UInt8):List UInt8:=34::qV l++[34]
theorem Kb (l:List UInt8) (c:UInt8):qV (l++[c])=qV l++xJ c:=by simp[qV]
theorem OI (l:List UInt8):(qV l).length≤2*l.length:=by
 induction l with
 | nil=>simp[qV]
 | cons x l ih=>
  have:qV (x::l)=xJ x++qV l:=rfl;rw[this,List.length_append,List.length_cons];have:(xJ x).length≤2:=by unfold xJ;split<;>simp
  omega
theorem qi {l:List UInt8} {k:Nat} {x:UInt8} (h:l[k]?=some x):l.take (k+1)=l.take k++[x]:=by rw[List.take_add_one,h];rfl
theorem DG {p:UInt8→Bool} {l:List UInt8} {k:Nat} {x:UInt8} (h:l[k]?=some x):(l.take (k+1)).all p=((l.take k).all p&&p x):=by rw[qi h];simp
theorem AQ {p:UInt8→Bool} {l:List UInt8} {k:Nat} {x:UInt8} (h:l[k]?=some x) (hp:p x=false):l.all p=false:=by
 rw[List.all_eq_false];exact⟨x,List.mem_of_getElem? h,by simp[hp]⟩
theorem Own.lit {α:Type} [aK α] (w:World) (e:TypeId) (vs:List Value) (xs:List α) (hl:vs.length=xs.length) (h1:aK.sz α=1) (hx:xs.length≤maxLen) (hf:Flat (w.alloc (.cells vs.toArray e)) bq vs xs) : Own (w.alloc (.cells vs.toArray e)) bq w.heap.size e (.slice (some ⟨w.heap.size,0,none⟩) xs.length xs.length) xs:=
 ⟨vs,⟨by rw[h1,Nat.mul_one];exact hl,.inr ⟨w.heap.size,xs.length,vs.toArray,rfl,Nat.le_refl _,heap_alloc_new _ _,Nat.le_refl _,hx,by rw[h1,Nat.mul_one];simpa using hl,by rw[h1,Nat.mul_one,←hl];simp⟩⟩,hf,fun _ h=>h.elim⟩
theorem Mq (s:ByteArray) (w:World) (hs:s.size≤17592186044416):Calls Tryz.prog 93 #[.string s] w (j5 w (.tuple #[.string (if fE s.data.toList then⟨(zI s.data.toList).toArray⟩ else⟨#[]⟩),.bool (fE s.data.toList)])):=by
 obtain⟨l,hl⟩:∃l,s.data.toList=l:=⟨_,rfl⟩;have Qb:l.length=s.size:=by rw[←hl];exact dm s
 have lz:∀k (h:k<s.size),l[k]?=some s[k]:=fun k h=>by rw[←hl];exact str_at h
 rw[hl];obtain⟨b,hb⟩:∃b,fE l=b:=⟨_,rfl⟩;obtain⟨t,ht⟩:∃t:ByteArray,(if b then⟨(zI l).toArray⟩ else⟨#[]⟩)=t:=⟨_,rfl⟩;rw[hb,ht];have HAT:=zH lz;have HLL:=zH Qb;have HB:=zH hb;have HT:=zH ht;clear hl Qb lz hb ht;go_enter Tryz.func93,Tryz.ntmps93;go_wp2_with fail;go_loopw [4,9] (fun vo iv wr=>∃k:Nat,iv=.int .i64 k∧k≤s.size∧(l.take k).all kg=true∧Own wr bq w.heap.size 5 vo (34::qV (l.take k))∧Below w.heap.size w wr) (fun _ iv _=>s.size-(intOf iv).toNat)
 case atStart=>
  exact⟨0,rfl,Nat.zero_le _,rfl,Own.lit w 5 [.int .u8 34] [34] rfl rfl (by decide) (Flat.bytes [34]),(Below.refl _ _).alloc (Nat.le_refl _) _⟩
 case round=>
  obtain⟨k,rfl,hk,dS,ho,xl⟩:=hrel;obtain⟨Ao,no,co,rfl,JY⟩:=ho.slice;have bM:(34::qV (l.take k)).length≤2*k+1:=by
   have:=OI (l.take k);rw[List.length_take] at this;rw[List.length_cons];omega
  have adi:=zH dS;have HO:=zH ho;have PP:=zH xl;have mf:=zH bM;clear dS ho xl JY bM;by_cases hlt:k<s.size
  ·have jJ:(k:Int)<(s.size:Int):=by omega
   have hx:=HAT.out k hlt;have hp:=zK s[k] wr;obtain⟨x,nk⟩:∃x,s[k]=x:=⟨_,rfl⟩;rw[nk] at hx hp;obtain⟨c,hc⟩:∃c,kg x=c:=⟨_,rfl⟩;rw[hc] at hp;have HX:=zH hx;have HP:=zH hp;have HC:=zH hc;clear hx hp hc;go_wp2_with fail;refine HP.out.mono ?_;rintro e w' ⟨rfl,rfl⟩;cases c with
   | false=>
    have Oq:b=false:=by rw[←HB.out];exact AQ HX.out HC.out
    have HBF:=zH Oq;have htf:t=⟨#[]⟩:=by rw[←HT.out,Oq];rfl
    have HTF:=zH htf;clear Oq htf;go_wp2_with fail;go_ret2
    exact⟨by rw[HBF.out,HTF.out];rfl,PP.out⟩
   | true=>
    obtain⟨n,hn⟩:∃n,x.toNat=n:=⟨_,rfl⟩;have hxn:n<256:=by rw[←hn];exact x.toNat_lt
    have abb:(l.take (k+1)).all kg=true:=by rw[DG HX.out,adi.out,HC.out];rfl
    have YJ:=zH abb;have Zg:34::qV (l.take (k+1))=(34::qV (l.take k))++xJ x:=by rw[qi HX.out,Kb];rfl
    clear abb;by_cases hq:n=34∨n=92
    ·have he:xJ x=[92,x]:=by unfold xJ;rw[hn,if_pos hq]
     rw[he] at Zg;have HES:=zH Zg;have HN:=zH hn;clear he Zg;have YK:Hid ([Value.int .u8 (n:Int)]=[Value.int .u8 (x.toNat:Int)]):=zH (by rw[HN.out]);rcases hq with rfl|rfl
     ·go_wp2_with (first | (at_builtin; refine dl (α:=UInt8) (w0:=w) (B:=w.heap.size) (base:=w.heap.size) rfl _ _ 49 rfl 1 Tryz.bytesTy rfl HO.out PP.out (Nat.le_refl _) PP.out.size [.int .u8 92] 92 1 rfl rfl 5 (by simp[Value.oneCell']) (by have:=mf.out;omega) ?_; intro v4 w4 hown4 jT hg4 hl4; obtain⟨A4,n4,c4,rfl,hn4⟩:=hown4.slice; have DW:=zH hown4; have xh:=zH jT; clear hown4 jT hg4 hl4 hn4) | (at_builtin; refine dl (α:=UInt8) (w0:=w) (B:=w.heap.size) (base:=w.heap.size) rfl _ _ 49 rfl 1 Tryz.bytesTy rfl DW.out xh.out (Nat.le_refl _) xh.out.size [.int .u8 34] x 1 rfl YK.out 5 (by simp[Value.oneCell']) (by have:=mf.out;rw[List.length_append];simp only[List.length_singleton];omega) ?_; intro v5 w5 hown4 jT hg4 hl4; obtain⟨A5,n5,c5,rfl,hn4⟩:=hown4.slice; have K7:=zH hown4; have IH:=zH jT; clear hown4 jT hg4 hl4 hn4));go_roundw
      case rel=>exact⟨k+1,by go_num,by omega,YJ.out,by rw[HES.out];simpa using K7.out,IH.out⟩
      case measure=>simp[intOf];omega
     ·go_wp2_with (first | (at_builtin; refine dl (α:=UInt8) (w0:=w) (B:=w.heap.size) (base:=w.heap.size) rfl _ _ 49 rfl 1 Tryz.bytesTy rfl HO.out PP.out (Nat.le_refl _) PP.out.size [.int .u8 92] 92 1 rfl rfl 5 (by simp[Value.oneCell']) (by have:=mf.out;omega) ?_; intro v4 w4 hown4 jT hg4 hl4; obtain⟨A4,n4,c4,rfl,hn4⟩:=hown4.slice; have DW:=zH hown4; have xh:=zH jT; clear hown4 jT hg4 hl4 hn4) | (at_builtin; refine dl (α:=UInt8) (w0:=w) (B:=w.heap.size) (base:=w.heap.size) rfl _ _ 49 rfl 1 Tryz.bytesTy rfl DW.out xh.out (Nat.le_refl _) xh.out.size [.int .u8 92] x 1 rfl YK.out 5 (by simp[Value.oneCell']) (by have:=mf.out;rw[List.length_append];simp only[List.length_singleton];omega) ?_; intro v5 w5 hown4 jT hg4 hl4; obtain⟨A5,n5,c5,rfl,hn4⟩:=hown4.slice; have K7:=zH hown4; have IH:=zH jT; clear hown4 jT hg4 hl4 hn4));go_roundw
      case rel=>exact⟨k+1,by go_num,by omega,YJ.out,by rw[HES.out];simpa using K7.out,IH.out⟩
      case measure=>simp[intOf];omega
    ·have he:xJ x=[x]:=by unfold xJ;rw[hn,if_neg hq]
     rw[he] at Zg;have HES:=zH Zg;have HN:=zH hn;have YK:Hid ([Value.int .u8 (n:Int)]=[Value.int .u8 (x.toNat:Int)]):=zH (by rw[HN.out]);have P8:((n:Int)==34)=false:=by rw[beq_eq_false_iff_ne];omega
     have Ho:((n:Int)==92)=false:=by rw[beq_eq_false_iff_ne];omega
     clear he Zg hq;go_wp2_with (first | (at_builtin; refine dl (α:=UInt8) (w0:=w) (B:=w.heap.size) (base:=w.heap.size) rfl _ _ 49 rfl 1 Tryz.bytesTy rfl HO.out PP.out (Nat.le_refl _) PP.out.size [.int .u8 (n:Int)] x 1 rfl YK.out 5 (by simp[Value.oneCell']) (by have:=mf.out;omega) ?_; intro v5 w5 hown4 jT hg4 hl4; obtain⟨A5,n5,c5,rfl,hn4⟩:=hown4.slice; have K7:=zH hown4; have IH:=zH jT; clear hown4 jT hg4 hl4 hn4));go_roundw
     case rel=>exact⟨k+1,by go_num,by omega,YJ.out,by rw[HES.out];exact K7.out,IH.out⟩
     case measure=>simp[intOf];omega
  ·have hke:k=s.size:=by omega
   have hbt:b=true:=by
    have h1:=adi.out;rw[hke,List.take_of_length_le (by rw[HLL.out];exact Nat.le_refl _)] at h1;rw[←HB.out];exact h1
   have P4:t=⟨(zI l).toArray⟩:=by rw[←HT.out,hbt];rfl
   have xF:34::qV (l.take k)=34::qV l:=by rw[hke,List.take_of_length_le (by rw[HLL.out];exact Nat.le_refl _)]
   have HBT:=zH hbt;have Ea:=zH P4;have YN:=zH xF;clear hke hbt P4 xF;go_wp2_with (first | (at_builtin; refine dl (α:=UInt8) (w0:=w) (B:=w.heap.size) (base:=w.heap.size) rfl _ _ 49 rfl 1 Tryz.bytesTy rfl HO.out PP.out (Nat.le_refl _) PP.out.size [.int .u8 34] 34 1 rfl rfl 5 (by simp[Value.oneCell']) (by have:=mf.out;omega) ?_; intro v5 w5 hown4 jT hg4 hl4; obtain⟨A5,n5,c5,rfl,hn4⟩:=hown4.slice; have K7:=zH hown4; have IH:=zH jT; have Qe:=zo hown4.rs8; rw[YN.out] at Qe; have aox:(convert 49 9 (.slice A5 n5 c5)).run Tryz.prog w5=.ok (.string t) w5:=(by rw[Qe,Ea.out];rfl); clear hown4 jT hg4 hl4 hn4 Qe));go_ret2
   exact⟨by rw[HBT.out];rfl,IH.out⟩
end Go.Proofs.YtjlhbfbdcfajfaaGreatDoor
