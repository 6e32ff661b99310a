/- Rat3 Rat4 Rat5 Stl -/
import Derived.Test.YtdbpbfglhbiadaaGreatDoorH01
import Derived.Test.YtdbpbfglhbiadaaGreatDoorH13
import Derived.Deep.RegionWith
import Derived.Deep.RegionHeld3
import Derived.Deep.DeepCutAuto
set_option maxHeartbeats 4000000
set_option maxRecDepth 100000
namespace Go.Proofs.YtdbpbfglhbiadaaGreatDoor
open Go.RowKit
def RL (w:World) (r:Bool×Nat) (e:Ending) (w':World):Prop:=∃A n c,e=.returned (.tuple #[.bool r.1,.slice A n c])/\n=(cJ r.2).length/\RS w' (dM w w') A n c (cJ r.2)/\Below w.heap.size w w'
theorem Yn {S S2:Nat->Prop} {A A2:Option Addr} {n c n2 c2:Nat} {xs ys:List (BitVec 32)} {w:World} (a b:Bool) (h:RS w S A n c xs) (h2:RS w S2 A2 n2 c2 ys) (hS:∀b,S b->b<w.heap.size) (gZ:∀b,S2 b->b<w.heap.size) (hn:n<=536870912) (hn2:n2<=536870912) : Calls Tryz.prog 192 #[.bool a,.slice A n c,.bool b,.slice A2 n2 c2] w (RL w (oQ a (val xs) b (val ys))):=by
 have H:=zH h;have H2:=zH h2;obtain⟨X,hX⟩:∃X,val xs=X:=⟨_,rfl⟩;obtain⟨Y,hY⟩:∃Y,val ys=Y:=⟨_,rfl⟩;have HX:=zH hX;have HY:=zH hY;rw[hX,hY];clear h h2 hX hY;by_cases Vo:a=b
 ·have hq:oQ a X b Y=(a,X+Y):=by unfold oQ;rw[if_pos Vo]
  rw[hq];have amg:(a==b)=true:=by simpa using Vo
  have auz:(!a==!b)=true:=by simpa using Vo
  clear hq Vo;go_enter Tryz.func192,Tryz.ntmps192;go_wp2_with fail;refine(Wu H.out H2.out hS gZ (by omega) (by omega)).mono ?_;rintro e w2 h;rw[HX.out,HY.out] at h;obtain⟨A3,n3,c3,rfl,hn3,hr,hb⟩:=h.slice;have HN:=zH hn3;have HR:=zH hr;have HB:=zH hb;clear h hr hb hn3;go_wp2_with fail;go_ret2
  exact⟨A3,n3,c3,rfl,HN.out,HR.out,HB.out⟩
 ·have amg:(a==b)=false:=by simpa using Vo
  by_cases By:Y<=X
  ·have hq:oQ a X b Y=(a,X-Y):=by unfold oQ;rw[if_neg Vo,if_pos By]
   rw[hq];have HLE:=zH By;clear hq Vo By;go_enter Tryz.func192,Tryz.ntmps192;go_wp2_with fail;refine(Hk H.out H2.out hS gZ (by omega) (by rw[HX.out,HY.out];exact HLE.out)).mono ?_;rintro e w2 ⟨v,rfl,ho,hb⟩;rw[HX.out,HY.out] at ho;obtain⟨A3,n3,c3,rfl,hn3⟩:=ho.slice;have HN:=zH hn3;have HR:=zH (ho.fresh (Nat.le_refl _));have HB:=zH hb;clear ho hb hn3;go_wp2_with fail;go_ret2
   exact⟨A3,n3,c3,rfl,HN.out,HR.out,HB.out⟩
  ·have hq:oQ a X b Y=(b,Y-X):=by unfold oQ;rw[if_neg Vo,if_neg By]
   rw[hq];have hlt:X<Y:=by omega
   have HLT:=zH hlt;clear hq Vo By hlt;go_enter Tryz.func192,Tryz.ntmps192;go_wp2_with fail;refine(Ta H.out H2.out (by rw[HX.out,HY.out];exact HLT.out)).mono ?_;rintro e w2 ⟨v,rfl,ho,hb⟩;have HR1:=zH (H.out.below hb hS);have JJ:=zH (H2.out.below hb gZ);have HB:=zH hb;clear ho hb;go_wp2_with fail;refine(Hk JJ.out HR1.out (λb h=>Nat.lt_of_lt_of_le (gZ b h) HB.out.size) (λb h=>Nat.lt_of_lt_of_le (hS b h) HB.out.size) (by omega) (by rw[HX.out,HY.out];exact Nat.le_of_lt HLT.out)).mono ?_;rintro e w3 ⟨v,rfl,ho,hb⟩;rw[HX.out,HY.out] at ho;obtain⟨A3,n3,c3,rfl,hn3⟩:=ho.slice;have HN:=zH hn3;have HR:=zH (ho.fresh HB.out.size);have lX:=zH (au HB.out hb);clear ho hb hn3;go_wp2_with fail;go_ret2
   exact⟨A3,n3,c3,rfl,HN.out,HR.out,lX.out⟩
theorem mX {a b j k:Nat} (ha:(cJ a).length<=j) (hb:(cJ b).length<=k):(cJ (a*b)).length<=j+k:=by
 have h1:=dT (cJ a);have h2:=dT (cJ b);rw[bn] at h1 h2;have h3:=Nat.lt_of_lt_of_le h1 (Nat.pow_le_pow_right (by omega) ha);have h4:=Nat.lt_of_lt_of_le h2 (Nat.pow_le_pow_right (by omega) hb);refine fC ?_;rw[Nat.pow_add];exact Nat.mul_lt_mul'' h3 h4
theorem CI {a b k:Nat} (ha:(cJ a).length<=k) (hb:(cJ b).length<=k):(cJ (a+b)).length<=k+1:=by
 have h1:=dT (cJ a);have h2:=dT (cJ b);rw[bn] at h1 h2;have h3:=Nat.lt_of_lt_of_le h1 (Nat.pow_le_pow_right (by omega) ha);have h4:=Nat.lt_of_lt_of_le h2 (Nat.pow_le_pow_right (by omega) hb);refine fC ?_;rw[Nat.pow_succ];omega
theorem Nl {a b:Bool} {X Y k:Nat} (hx:(cJ X).length<=k) (hy:(cJ Y).length<=k):(cJ (oQ a X b Y).2).length<=k+1:=by
 unfold oQ;split
 ·exact CI hx hy
 ·split
  ·exact Nat.le_succ_of_le (jF hx (Nat.sub_le _ _))
  ·exact Nat.le_succ_of_le (jF hy (Nat.sub_le _ _))
theorem Ws {S S2:Nat->Prop} {va vb:Value} {ra rb:Raw} {w:World} (ha:SV w S va ra) (hb:SV w S2 vb rb) (hS:∀b,S b->b<w.heap.size) (gZ:∀b,S2 b->b<w.heap.size) (iI:ra.short 67108864) (kQ:rb.short 67108864) : Calls Tryz.prog 139 #[va,vb] w (iE w (xa ra.q rb.q)):=by
 obtain⟨A,n,c,A2,n2,c2,rfl,h1,h2⟩:=ha.raw_cases;obtain⟨A3,n3,c3,A4,n4,c4,rfl,h3,h4⟩:=hb.raw_cases;have gp:Below w.heap.size w (((w.alloc (.cells #[.bool ra.neg,.slice A n c,.slice A2 n2 c2] 28)).alloc (.cells #[.bool rb.neg,.slice A3 n3 c3,.slice A4 n4 c4] 28)).alloc (.cells #[.bool false,.slice none 0 0,.slice none 0 0] 28)):=
  (((Below.refl _ _).alloc (Nat.le_refl _) _).alloc (by simp) _).alloc (by simp;omega) _
 obtain⟨w1,fE⟩:∃x,((w.alloc (.cells #[.bool ra.neg,.slice A n c,.slice A2 n2 c2] 28)).alloc (.cells #[.bool rb.neg,.slice A3 n3 c3,.slice A4 n4 c4] 28)).alloc (.cells #[.bool false,.slice none 0 0,.slice none 0 0] 28)=x:=⟨_,rfl⟩;have ml:w1.heap.size=w.heap.size+3:=by rw[<-fE];simp
 have PS:df w1 w.heap.size 28 #[.bool ra.neg,.slice A n c,.slice A2 n2 c2]:=by rw[<-fE];exact((df.new _ _ _).alloc _).alloc _
 have nR:df w1 (w.heap.size+1) 28 #[.bool rb.neg,.slice A3 n3 c3,.slice A4 n4 c4]:=by rw[<-fE];exact(df.new' (by simp) _ _).alloc _
 have gM:df w1 (w.heap.size+2) 28 #[.bool false,.slice none 0 0,.slice none 0 0]:=by rw[<-fE];exact df.new' (by simp) _ _
 rw[fE] at gp;have HWA:=zH (ha.below gp hS);have HWB:=zH (hb.below gp gZ);have nz:=zH fE;have og:=zH gp;have HK0:=zH PS;have WG:=zH nR;have X8:=zH gM;have GV:=zH ml;obtain⟨qa,hqa⟩:∃q,ra.q=q:=⟨_,rfl⟩;obtain⟨qb,hqb⟩:∃q,rb.q=q:=⟨_,rfl⟩;rw[hqa,hqb];have HQA:=zH hqa;have HQB:=zH hqb;clear ha hb h1 h2 h3 h4 fE gp PS nR gM ml hqa hqb;go_enter Tryz.func139,Tryz.ntmps139;go_upto_region 1 with(fail);rw[nz.out];obtain⟨d0,d1,d2,e0,e1,e2⟩:=HK0.out.facts3;obtain⟨d3,d4,d5,e3,e4,e5⟩:=WG.out.facts3;go_cut [8] (λ_ wx=>∃A5 n5 c5 A6 n6 c6 A7 n7 c7 A8 n8 c8,df wx w.heap.size 28 #[.bool qa.neg,.slice A5 n5 c5,.slice A6 n6 c6]/\df wx (w.heap.size+1) 28 #[.bool qb.neg,.slice A7 n7 c7,.slice A8 n8 c8]/\ df wx (w.heap.size+1+1) 28 #[.bool false,.slice none 0 0,.slice none 0 0]/\RS wx (dM w1 wx) A5 n5 c5 (cJ qa.n)/\RS wx (dM w1 wx) A6 n6 c6 (cJ qa.d)/\RS wx (dM w1 wx) A7 n7 c7 (cJ qb.n)/\RS wx (dM w1 wx) A8 n8 c8 (cJ qb.d)/\Below w.heap.size w wx)
 case first=>
  have NA0:Calls Tryz.prog 95 #[.agg #[.bool ra.neg,.slice A n c,.slice A2 n2 c2]] w1.drew (iE w1 qa):=by
   rw[<-HQA.out];exact wR (mS (w:=w1.drew) (r:=ra) HWA.out.drew (λb hb=>Nat.lt_of_lt_of_le (hS b hb) og.out.size) ⟨Nat.le_trans iI.1 (by omega),Nat.le_trans iI.2 (by omega)⟩)
  have NA1:Calls Tryz.prog 95 #[.agg #[.bool ra.neg,.slice A n c,.slice A2 n2 c2]] w1.drew.drew (iE w1 qa):=by
   rw[<-HQA.out];exact tE (mS (w:=w1.drew.drew) (r:=ra) HWA.out.drew.drew (λb hb=>Nat.lt_of_lt_of_le (hS b hb) og.out.size) ⟨Nat.le_trans iI.1 (by omega),Nat.le_trans iI.2 (by omega)⟩)
  have NB:∀w2:World,Below w1.heap.size w1 w2->Calls Tryz.prog 95 #[.agg #[.bool rb.neg,.slice A3 n3 c3,.slice A4 n4 c4]] w2 (iE w2 qb):=λw2 bX=>by
   rw[<-HQB.out];exact mS (r:=rb) (HWB.out.below bX (λb hb=>Nat.lt_of_lt_of_le (gZ b hb) og.out.size)) (λb hb=>Nat.lt_of_lt_of_le (gZ b hb) (Nat.le_trans og.out.size bX.size)) ⟨Nat.le_trans kQ.1 (by omega),Nat.le_trans kQ.2 (by omega)⟩
  have aoC:=zH NA0;have aoB:=zH NA1;have HNB:=zH NB;clear NA0 NA1 NB;go_region_with (first
   | (go_at_call 95; (with_reducible first|refine aoC.out.mono ?_|refine aoB.out.mono ?_); rintro e w2 ⟨v,rfl,⟨cs,rfl,A5,n5,c5,A6,n6,c6,rfl,g5,g6⟩,bX⟩; obtain⟨d3,d4,d5,e3,e4,e5⟩:=(WG.out.keep bX).facts3; have aoA:=zH (HNB.out w2 bX); have aoz:Hid (Calls Tryz.prog 95 #[.agg #[.bool rb.neg,.slice A3 n3 c3,.slice A4 n4 c4]] w2.drew (iE w2 qb)):=zH (wR (HNB.out w2.drew (below_drewN bX 1))); have aoy:Hid (Calls Tryz.prog 95 #[.agg #[.bool rb.neg,.slice A3 n3 c3,.slice A4 n4 c4]] w2.drew.drew (iE w2 qb)):=zH (tE (HNB.out w2.drew.drew (below_drewN bX 2))); have G5:=zH g5; have G6:=zH g6; have HBA:=zH bX; clear g5 g6 bX)
   | (go_at_call 95; (with_reducible first|refine aoA.out.mono ?_|refine aoz.out.mono ?_|refine aoy.out.mono ?_); rintro e w3 ⟨v,rfl,⟨cs,rfl,A7,n7,c7,A8,n8,c8,rfl,g7,g8⟩,kx⟩; obtain⟨d0,d1,d2,e0,e1,e2⟩:=((HK0.out.keep HBA.out).keep kx).facts3; obtain⟨d3,d4,d5,e3,e4,e5⟩:=((WG.out.keep HBA.out).keep kx).facts3; have G7:=zH g7; have G8:=zH g8; have GY:=zH kx; clear g7 g8 kx))
  all_goals go_wp2_with fail
  all_goals
   go_meet
   have b0:=(HK0.out.keep HBA.out).keep GY.out;have b1:=(WG.out.keep HBA.out).keep GY.out;have b2:=(X8.out.keep HBA.out).keep GY.out;have s1:=GV.out;have s2:=HBA.out.size;have s3:=GY.out.size;have r5:RS w3 (dM w1 w3) A5 n5 c5 (cJ qa.n):=(G5.out.below GY.out (λ_ h=>h.2)).sub (wz s3);have r6:RS w3 (dM w1 w3) A6 n6 c6 (cJ qa.d):=(G6.out.below GY.out (λ_ h=>h.2)).sub (wz s3);have r7:RS w3 (dM w1 w3) A7 n7 c7 (cJ qb.n):=G7.out.sub (tw s2);have r8:RS w3 (dM w1 w3) A8 n8 c8 (cJ qb.d):=G8.out.sub (tw s2);have kk:aw (dM w1 w3) w3 (setAll (setAll w3 w.heap.size 0 [.bool qa.neg,.slice A5 n5 c5,.slice A6 n6 c6]) (w.heap.size+1) 0 [.bool qb.neg,.slice A7 n7 c7,.slice A8 n8 c8]):=
    ((aw.refl _ _).setAll (λh=>by have:=h.1;omega) _ 0).setAll (λh=>by have:=h.1;omega) _ 0
   have ff:∀b,dM w1 w3 b->dM w1 (setAll (setAll w3 w.heap.size 0 [.bool qa.neg,.slice A5 n5 c5,.slice A6 n6 c6]) (w.heap.size+1) 0 [.bool qb.neg,.slice A7 n7 c7,.slice A8 n8 c8]) b:=λb hb=>⟨hb.1,by rw[jX,jX];exact hb.2⟩;have k0:df (setAll (setAll w3 w.heap.size 0 [.bool qa.neg,.slice A5 n5 c5,.slice A6 n6 c6]) (w.heap.size+1) 0 [.bool qb.neg,.slice A7 n7 c7,.slice A8 n8 c8]) w.heap.size 28 #[.bool qa.neg,.slice A5 n5 c5,.slice A6 n6 c6]:=
    df.farAll (df.setAll [.bool qa.neg,.slice A5 n5 c5,.slice A6 n6 c6] b0 rfl) (by omega) _ 0
   have k1:df (setAll (setAll w3 w.heap.size 0 [.bool qa.neg,.slice A5 n5 c5,.slice A6 n6 c6]) (w.heap.size+1) 0 [.bool qb.neg,.slice A7 n7 c7,.slice A8 n8 c8]) (w.heap.size+1) 28 #[.bool qb.neg,.slice A7 n7 c7,.slice A8 n8 c8]:=
    df.setAll [.bool qb.neg,.slice A7 n7 c7,.slice A8 n8 c8] (df.farAll b1 (by omega) _ 0) rfl
   have k2:df (setAll (setAll w3 w.heap.size 0 [.bool qa.neg,.slice A5 n5 c5,.slice A6 n6 c6]) (w.heap.size+1) 0 [.bool qb.neg,.slice A7 n7 c7,.slice A8 n8 c8]) (w.heap.size+1+1) 28 #[.bool false,.slice none 0 0,.slice none 0 0]:=
    df.farAll (df.farAll b2 (by omega) _ 0) (by omega) _ 0
   have k3:Below w.heap.size w (setAll (setAll w3 w.heap.size 0 [.bool qa.neg,.slice A5 n5 c5,.slice A6 n6 c6]) (w.heap.size+1) 0 [.bool qb.neg,.slice A7 n7 c7,.slice A8 n8 c8]):=
    jD (jD (au (au og.out HBA.out) GY.out) (Nat.le_refl _) _ 0) (Nat.le_succ _) _ 0
   exact⟨A5,n5,c5,A6,n6,c6,A7,n7,c7,A8,n8,c8,k0,k1,k2,r5.keep ff kk,r6.keep ff kk,r7.keep ff kk,r8.keep ff kk,k3⟩
 case rest=>
  obtain⟨A5,n5,c5,A6,n6,c6,A7,n7,c7,A8,n8,c8,b0,b1,b2,r5,r6,r7,r8,Xz⟩:=hcut;have R5:=zH r5;have R6:=zH r6;have R7:=zH r7;have R8:=zH r8;have l5:=(ly iI (by omega)).1;have l6:=(ly iI (by omega)).2;have l7:=(ly kQ (by omega)).1;have l8:=(ly kQ (by omega)).2;rw[HQA.out,r5.len] at l5;rw[HQA.out,r6.len] at l6;rw[HQB.out,r7.len] at l7;rw[HQB.out,r8.len] at l8;have HX:=zH (mX (Nat.le_of_eq r5.len) (Nat.le_of_eq r8.len));have HY:=zH (mX (Nat.le_of_eq r7.len) (Nat.le_of_eq r6.len));have hH:∀w',Up wc w'->Up wc w'/\w'.cell? ⟨w.heap.size,0,none⟩=some (.bool qa.neg)/\w'.cell? ⟨w.heap.size,1,none⟩=some (.slice A5 n5 c5)/\w'.cell? ⟨w.heap.size,2,none⟩=some (.slice A6 n6 c6)/\ w'.cell? ⟨w.heap.size+1,0,none⟩=some (.bool qb.neg)/\w'.cell? ⟨w.heap.size+1,1,none⟩=some (.slice A7 n7 c7)/\w'.cell? ⟨w.heap.size+1,2,none⟩=some (.slice A8 n8 c8):=
   λw' hu=>⟨hu,(b0.keep hu).cell 0,(b0.keep hu).cell 1,(b0.keep hu).cell 2,(b1.keep hu).cell 0,(b1.keep hu).cell 1,(b1.keep hu).cell 2⟩
  have HH:=zH hH;have B0:=zH b0;have B1:=zH b1;have B2:=zH b2;have HBX:=zH Xz;have m1:∀w',Up wc w'->Calls Tryz.prog 193 #[.slice A5 n5 c5,.slice A8 n8 c8] w' (jf w' 172 (cJ (qa.n*qb.d))):=λw' hu=>by
   have:=Aj (R5.out.below hu.out (λ_ h=>h.2)) (R8.out.below hu.out (λ_ h=>h.2)) (λb h=>Nat.lt_of_lt_of_le h.2 hu.out.size) (λb h=>Nat.lt_of_lt_of_le h.2 hu.out.size) (by omega) (by omega)
   rwa [bn,bn] at this
  have m2:∀w',Up wc w'->Calls Tryz.prog 193 #[.slice A7 n7 c7,.slice A6 n6 c6] w' (jf w' 172 (cJ (qb.n*qa.d))):=λw' hu=>by
   have:=Aj (R7.out.below hu.out (λ_ h=>h.2)) (R6.out.below hu.out (λ_ h=>h.2)) (λb h=>Nat.lt_of_lt_of_le h.2 hu.out.size) (λb h=>Nat.lt_of_lt_of_le h.2 hu.out.size) (by omega) (by omega)
   rwa [bn,bn] at this
  have m3:∀w',Up wc w'->Calls Tryz.prog 193 #[.slice A6 n6 c6,.slice A8 n8 c8] w' (jf w' 172 (cJ (qa.d*qb.d))):=λw' hu=>by
   have:=Aj (R6.out.below hu.out (λ_ h=>h.2)) (R8.out.below hu.out (λ_ h=>h.2)) (λb h=>Nat.lt_of_lt_of_le h.2 hu.out.size) (λb h=>Nat.lt_of_lt_of_le h.2 hu.out.size) (by omega) (by omega)
   rwa [bn,bn] at this
  have HD:=zH (mX (Nat.le_of_eq R6.out.len) (Nat.le_of_eq R8.out.len));obtain⟨s1,ml⟩:∃s,oQ qa.neg (qa.n*qb.d) qb.neg (qb.n*qa.d)=s:=⟨_,rfl⟩;have fm:(cJ s1.2).length<=268435457:=by
   rw[<-ml];exact Nl (Nat.le_trans HX.out (by omega)) (Nat.le_trans HY.out (by omega))
  have mA:xa qa qb=dN s1.1 s1.2 (qa.d*qb.d):=by unfold xa;rw[ml]
  have m4:∀(w':World) (S9 S0:Nat->Prop) (A9 A0:Option Addr) (n9 c9 n0 c0:Nat),n9=(cJ (qa.n*qb.d)).length->n0=(cJ (qb.n*qa.d)).length->RS w' S9 A9 n9 c9 (cJ (qa.n*qb.d))->RS w' S0 A0 n0 c0 (cJ (qb.n*qa.d))->(∀b,S9 b->b<w'.heap.size)->(∀b,S0 b->b<w'.heap.size)-> Calls Tryz.prog 192 #[.bool qa.neg,.slice A9 n9 c9,.bool qb.neg,.slice A0 n0 c0] w' (RL w' s1):=λw' S9 S0 A9 A0 n9 c9 n0 c0 e9 e0 h9 h0 hS9 hS0=>by
   have:=Yn qa.neg qb.neg h9 h0 hS9 hS0 (by have:=HX.out;omega) (by have:=HY.out;omega)
   rwa [bn,bn,ml] at this
  have M1:=zH m1;have M2:=zH m2;have M3:=zH m3;have M4:=zH m4;have HSL:=zH fm;have aoM:=zH mA;clear r5 r6 r7 r8 hH b0 b1 b2 Xz d0 d1 d2 e0 e1 e2 d3 d4 d5 e3 e4 e5 m1 m2 m3 m4 ml fm mA;go_upto_region 2 with(fail);go_region_held3 (λw'=>Up wc w'/\w'.cell? ⟨w.heap.size,0,none⟩=some (.bool qa.neg)/\w'.cell? ⟨w.heap.size,1,none⟩=some (.slice A5 n5 c5)/\w'.cell? ⟨w.heap.size,2,none⟩=some (.slice A6 n6 c6)/\ w'.cell? ⟨w.heap.size+1,0,none⟩=some (.bool qb.neg)/\w'.cell? ⟨w.heap.size+1,1,none⟩=some (.slice A7 n7 c7)/\w'.cell? ⟨w.heap.size+1,2,none⟩=some (.slice A8 n8 c8))
   (first|assumption|exact HH.out _ (Up.start wc)|exact HH.out _ (Up.more (‹Up wc _/\_›).1 ‹Below _ _ _›))
   (first
    | (go_at_call 193; (with_reducible refine(M1.out _ (‹Up wc _/\_›).1).mono ?_); rintro e w5 h9; obtain⟨A9,n9,c9,rfl,hn9,hr9,hb9⟩:=h9.slice; obtain⟨S9,afp,hS9⟩:∃S9:Nat->Prop,RS w5 S9 A9 n9 c9 (cJ (qa.n*qb.d))/\∀b,S9 b->b<w5.heap.size:=⟨_,hr9,λb h=>h.2⟩; have HR9:=zH afp; have HS9:=zH hS9; have HN9:=zH hn9; clear h9 hr9 hn9 afp hS9)
    | (go_at_call 193; (with_reducible refine(M2.out _ (‹Up wc _/\_›).1).mono ?_); rintro e w6 h9; obtain⟨A0,n0,c0,rfl,hn0,xk,hb0⟩:=h9.slice; obtain⟨S0,afu,hS0⟩:∃S0:Nat->Prop,RS w6 S0 A0 n0 c0 (cJ (qb.n*qa.d))/\∀b,S0 b->b<w6.heap.size:=⟨_,xk,λb h=>h.2⟩; have HR0:=zH afu; have HS0:=zH hS0; have HN0:=zH hn0; have aoj:=zH (HR9.out.below hb0 HS9.out); have HF9:Hid (∀b,S9 b->b<w6.heap.size):=zH (λb h=>Nat.lt_of_lt_of_le (HS9.out b h) hb0.size); clear h9 xk hn0 afu hS0)
    | (go_at_call 192; (with_reducible refine(M4.out _ _ _ _ _ _ _ _ _ HN9.out HN0.out aoj.out HR0.out HF9.out HS0.out).mono ?_); rintro e w7 ⟨A1,n1,c1,rfl,hn1,hr1,ci⟩; have HR1:=zH hr1; have HN1:=zH hn1; clear hr1 hn1))
  all_goals
   have hu:Up wc w7:=(‹Up wc w7/\_›).1;have HU:=zH hu;obtain⟨S1,afs,hS1⟩:∃S1:Nat->Prop,RS w7 S1 A1 n1 c1 (cJ s1.2)/\∀b,S1 b->b<w7.heap.size:=⟨_,HR1.out,λb h=>h.2⟩;have aom:=zH afs;have aha:=zH hS1;have BB2:=zH (B2.out.keep hu);have BX7:=zH (au HBX.out hu.out);have auf:n1<=268435457:=by have:=HN1.out;have:=HSL.out;omega
   clear afs hS1 hu;go_wp2_with fail;refine(M3.out _ HU.out).mono ?_;rintro e w8 h;obtain⟨A2',n2',c2',rfl,aly,afr,XA⟩:=h.slice;have aue:n2'<=268435457:=by have:=HD.out;omega
   have ahc:=zH (aom.out.below XA aha.out);have ag9:Hid (∀b,S1 b->b<w8.heap.size):=zH (λb h=>Nat.lt_of_lt_of_le (aha.out b h) XA.size);have aol:=zH afr;have BB3:=zH (BB2.out.keep XA);have BX8:=zH (au BX7.out XA);clear h aly afr XA;go_wp2_with fail;refine(Am s1.1 ahc.out aol.out ag9.out (λb h=>h.2) (by omega) (by omega)).mono ?_;rintro e w9 ⟨v,rfl,⟨cs,rfl,hr⟩,hb⟩;have jo:=hr;obtain⟨A5',n5',c5',A6',n6',c6',rfl,_,_⟩:=jo;rw[bn,bn,<-aoM.out] at hr ⊢;obtain⟨c0,c1,c2,f0,f1,f2⟩:=(BB3.out.keep hb).facts3;have HK4:=zH (BB3.out.keep hb);have Ev:=zH (au BX8.out hb);have oe:=zH hr;obtain⟨q,hq⟩:∃q,xa qa qb=q:=⟨_,rfl⟩;rw[hq] at oe ⊢;have HQ:=zH hq;have jb:=BB3.out.lt;clear hr hb hq;go_wp2_with fail;refine fX (x:=q) (S:=dM w8 w9) (cs:=[.bool q.neg,.slice A5' n5' c5',.slice A6' n6' c6']) rfl rfl (by omega) HK4.out rfl Tryz.underlying28 rfl (by kernel_rfl) oe.out (λb hb=>?_) Ev.out rfl (by rw[<-HQ.out];exact id);have h1:=hb.1;exact⟨⟨by omega,hb.2⟩,by omega⟩
theorem S8 {S S2:Nat->Prop} {va vb:Value} {ra rb:Raw} {w:World} (ha:SV w S va ra) (hb:SV w S2 vb rb) (hS:∀b,S b->b<w.heap.size) (gZ:∀b,S2 b->b<w.heap.size) (iI:ra.short 67108864) (kQ:rb.short 67108864) : Calls Tryz.prog 99 #[va,vb] w (iE w (xa ra.q rb.flip.q)):=by
 obtain⟨A,n,c,A2,n2,c2,rfl,h1,h2⟩:=ha.raw_cases;obtain⟨A3,n3,c3,A4,n4,c4,rfl,h3,h4⟩:=hb.raw_cases;have gp:Below w.heap.size w (((w.alloc (.cells #[.bool ra.neg,.slice A n c,.slice A2 n2 c2] 28)).alloc (.cells #[.bool (!rb.neg),.slice A3 n3 c3,.slice A4 n4 c4] 28)).alloc (.cells #[.bool false,.slice none 0 0,.slice none 0 0] 28)):=
  (((Below.refl _ _).alloc (Nat.le_refl _) _).alloc (by simp) _).alloc (by simp;omega) _
 obtain⟨w1,fE⟩:∃x,((w.alloc (.cells #[.bool ra.neg,.slice A n c,.slice A2 n2 c2] 28)).alloc (.cells #[.bool (!rb.neg),.slice A3 n3 c3,.slice A4 n4 c4] 28)).alloc (.cells #[.bool false,.slice none 0 0,.slice none 0 0] 28)=x:=⟨_,rfl⟩;have ml:w1.heap.size=w.heap.size+3:=by rw[<-fE];simp
 have gM:df w1 (w.heap.size+1+1) 28 #[.bool false,.slice none 0 0,.slice none 0 0]:=by rw[<-fE];exact df.new' (by simp) _ _
 rw[fE] at gp;have yI:SV w1 S2 (.agg #[.bool (!rb.neg),.slice A3 n3 c3,.slice A4 n4 c4]) rb.flip:=⟨_,rfl,A3,n3,c3,A4,n4,c4,rfl,h3.below gp gZ,h4.below gp gZ⟩;have HWA:=zH (ha.below gp hS);have HWB:=zH yI;have nz:=zH fE;have og:=zH gp;have X8:=zH gM;have GV:=zH ml;obtain⟨q,hq⟩:∃q,xa ra.q rb.flip.q=q:=⟨_,rfl⟩;rw[hq];have HQ:=zH hq;clear ha hb h1 h2 h3 h4 fE gp gM ml hq yI;go_enter Tryz.func99,Tryz.ntmps99;go_wp2_with fail;rw[nz.out];refine(Ws HWA.out HWB.out (λb hb=>Nat.lt_of_lt_of_le (hS b hb) og.out.size) (λb hb=>Nat.lt_of_lt_of_le (gZ b hb) og.out.size) iI kQ).mono ?_;rintro e w2 ⟨v,rfl,⟨cs,rfl,hr⟩,hb⟩;have jo:=hr;obtain⟨A5,n5,c5,A6,n6,c6,rfl,_,_⟩:=jo;obtain⟨c0,c1,c2',f0,f1,f2⟩:=(X8.out.keep hb).facts3;have HK:=zH (X8.out.keep hb);have fu:=zH (au og.out hb);rw[HQ.out] at hr ⊢;have HR:=zH hr;clear hr hb;go_wp2_with fail;refine fX (x:=q) (S:=dM w1 w2) (cs:=[.bool q.neg,.slice A5 n5 c5,.slice A6 n6 c6]) rfl rfl (by omega) HK.out rfl Tryz.underlying28 rfl (by kernel_rfl) HR.out (λb hb=>?_) fu.out rfl id;have h1:=hb.1;rw[GV.out] at h1;exact⟨⟨by omega,hb.2⟩,by omega⟩
theorem Az {n:Nat}:(cJ n).length=0↔n=0:=by rw[List.length_eq_zero_iff,gb]
theorem V3 {S S2:Nat->Prop} {va vb:Value} {ra rb:Raw} {w:World} (ha:SV w S va ra) (hb:SV w S2 vb rb) (hS:∀b,S b->b<w.heap.size) (gZ:∀b,S2 b->b<w.heap.size) (iI:ra.short 67108864) (kQ:rb.short 67108864) : Calls Tryz.prog 54 #[va,vb] w (kB w (.int .i64 (m8 ra.q rb.flip.q))):=by
 obtain⟨A,n,c,A2,n2,c2,rfl,h1,h2⟩:=ha.raw_cases;obtain⟨A3,n3,c3,A4,n4,c4,rfl,h3,h4⟩:=hb.raw_cases;have gp:Below w.heap.size w ((w.alloc (.cells #[.bool ra.neg,.slice A n c,.slice A2 n2 c2] 28)).alloc (.cells #[.bool rb.neg,.slice A3 n3 c3,.slice A4 n4 c4] 28)):=
  ((Below.refl _ _).alloc (Nat.le_refl _) _).alloc (by simp) _
 obtain⟨w1,fE⟩:∃x,(w.alloc (.cells #[.bool ra.neg,.slice A n c,.slice A2 n2 c2] 28)).alloc (.cells #[.bool rb.neg,.slice A3 n3 c3,.slice A4 n4 c4] 28)=x:=⟨_,rfl⟩;rw[fE] at gp;have HWA:=zH (ha.below gp hS);have HWB:=zH (hb.below gp gZ);have nz:=zH fE;have og:=zH gp;obtain⟨q,hq⟩:∃q,xa ra.q rb.flip.q=q:=⟨_,rfl⟩;have hc:m8 ra.q rb.flip.q=if q.neg then -1 else if q.n=0 then 0 else 1:=by unfold m8;rw[hq]
 obtain⟨z,hz⟩:∃z,m8 ra.q rb.flip.q=z:=⟨_,rfl⟩;rw[hz] at hc ⊢;have HC:=zH hc;have HQ:=zH hq;clear ha hb h1 h2 h3 h4 fE gp hq hc hz;go_enter Tryz.func54,Tryz.ntmps54;go_wp2_with fail;rw[nz.out];refine(S8 HWA.out HWB.out (λb hb=>Nat.lt_of_lt_of_le (hS b hb) og.out.size) (λb hb=>Nat.lt_of_lt_of_le (gZ b hb) og.out.size) iI kQ).mono ?_;rintro e w2 ⟨v,rfl,⟨cs,rfl,A5,n5,c5,A6,n6,c6,rfl,h5,h6⟩,hb⟩;rw[HQ.out] at h5 h6 ⊢;have fu:=zH (au og.out hb);have hn5:=h5.len;have h0:=Az (n:=q.n);rw[hn5] at h0;have H0:=zH h0;have hm:=h5.max;clear h5 h6 hb hn5 h0 HQ;obtain⟨Y3,qn,qd⟩:=q;cases Y3 with
 | true=>
  go_wp2_with fail;go_ret
  exact⟨by rw[HC.out];rfl,fu.out.alloc fu.out.size _⟩
 | false=>
  by_cases hz:n5=0
  ·have PF:qn=0:=H0.out.1 hz;subst hz;subst PF;go_wp2_with fail;go_ret
   exact⟨by rw[HC.out];rfl,fu.out.alloc fu.out.size _⟩
  ·have hb0:((n5:Int)==0)=false:=by rw[beq_eq_false_iff_ne];omega
   have PF:qn≠0:=λe=>hz (H0.out.2 e);have HQ0:=zH PF;clear PF hz;go_wp2_with fail;go_ret
   exact⟨by rw[HC.out];simp[HQ0.out],fu.out.alloc fu.out.size _⟩
theorem JU {S:Nat->Prop} {v:Value} {r:Raw} {w:World} (h:SV w S v r) (hS:∀b,S b->b<w.heap.size) (hl:r.short 536870912) : Calls Tryz.prog 43 #[v] w (kB w (.bool r.valid)):=by
 obtain⟨A,n,c,A2,n2,c2,rfl,h1,h2⟩:=h.raw_cases;have gp:Below w.heap.size w (w.alloc (.cells #[.bool r.neg,.slice A n c,.slice A2 n2 c2] 28)):=(Below.refl _ _).alloc (Nat.le_refl _) _;have wi:df (w.alloc (.cells #[.bool r.neg,.slice A n c,.slice A2 n2 c2] 28)) w.heap.size 28 #[.bool r.neg,.slice A n c,.slice A2 n2 c2]:=df.new _ _ _;obtain⟨w1,fE⟩:∃x,w.alloc (.cells #[.bool r.neg,.slice A n c,.slice A2 n2 c2] 28)=x:=⟨_,rfl⟩;rw[fE] at gp wi;have HV:=zH (h.below gp hS);have nz:=zH fE;have og:=zH gp;have WF:=zH wi;have H1:=zH (h1.below gp hS);have H2:=zH (h2.below gp hS);obtain⟨q,hq⟩:∃q,r.q=q:=⟨_,rfl⟩;obtain⟨z,hz⟩:∃z,r.valid=z:=⟨_,rfl⟩;have gD:z=(r.neg==q.neg&&(decide (r.num=cJ q.n)&&decide (r.den=cJ q.d))):=by rw[<-hz,<-hq];rfl
 rw[hz];obtain⟨neg,num,den⟩:=r;have HQ:=zH hq;have HZ:=zH gD;clear h h1 h2 fE gp wi hq hz gD;go_enter Tryz.func43,Tryz.ntmps43;go_wp2_with fail;rw[nz.out];refine(mS HV.out (λb hb=>Nat.lt_of_lt_of_le (hS b hb) og.out.size) hl).mono ?_;rintro e w2 ⟨v,rfl,⟨cs,rfl,A5,n5,c5,A6,n6,c6,rfl,h5,h6⟩,hb⟩;rw[HQ.out] at h5 h6 ⊢;obtain⟨d0,d1,d2,_,_,_⟩:=((WF.out.keep hb).alloc (.cells #[.bool q.neg,.slice A5 n5 c5,.slice A6 n6 c6] 28)).facts3;have bX:Below w.heap.size w (w2.alloc (.cells #[.bool q.neg,.slice A5 n5 c5,.slice A6 n6 c6] 28)):=(au og.out hb).alloc (au og.out hb).size _;have hn1:RS (w2.alloc (.cells #[.bool q.neg,.slice A5 n5 c5,.slice A6 n6 c6] 28)) S A n c num:=(H1.out.below hb (λb hb=>Nat.lt_of_lt_of_le (hS b hb) og.out.size)).below ((Below.refl _ _).alloc (Nat.le_refl _) _) (λb h=>Nat.lt_of_lt_of_le (hS b h) (au og.out hb).size);have hn2:RS (w2.alloc (.cells #[.bool q.neg,.slice A5 n5 c5,.slice A6 n6 c6] 28)) S A2 n2 c2 den:=(H2.out.below hb (λb hb=>Nat.lt_of_lt_of_le (hS b hb) og.out.size)).below ((Below.refl _ _).alloc (Nat.le_refl _) _) (λb h=>Nat.lt_of_lt_of_le (hS b h) (au og.out hb).size);have hn5:RS (w2.alloc (.cells #[.bool q.neg,.slice A5 n5 c5,.slice A6 n6 c6] 28)) (dM w1 w2) A5 n5 c5 (cJ q.n):=h5.below ((Below.refl _ _).alloc (Nat.le_refl _) _) (λb h=>h.2);have hn6:RS (w2.alloc (.cells #[.bool q.neg,.slice A5 n5 c5,.slice A6 n6 c6] 28)) (dM w1 w2) A6 n6 c6 (cJ q.d):=h6.below ((Below.refl _ _).alloc (Nat.le_refl _) _) (λb h=>h.2);have N1:=zH hn1;have N2:=zH hn2;have N5:=zH hn5;have N6:=zH hn6;have B2:=zH bX;clear h5 h6 hb bX hn1 hn2 hn5 hn6;by_cases he:neg=q.neg
 ·have yK:(neg==q.neg)=true:=by simpa using he
  have he2:(!neg==!q.neg)=true:=by simpa using he
  go_wp2_with fail;refine(yS N1.out N5.out).mono ?_;rintro e w' ⟨rfl,m,rfl⟩;by_cases hx:num=cJ q.n
  ·rw[decide_eq_true hx];go_wp2_with fail;refine(yS (N2.out.drewN m) (N6.out.drewN m)).mono ?_;rintro e w' ⟨rfl,m2,rfl⟩;obtain⟨y,hy⟩:∃y,decide (den=cJ q.d)=y:=⟨_,rfl⟩;have hzy:z=y:=by rw[HZ.out,decide_eq_true hx,hy];simp[he]
   rw[hy,<-hzy];clear hy hzy hx;go_wp2_with fail;go_ret
   exact⟨rfl,below_drewN B2.out _⟩
  ·have bw:z=false:=by rw[HZ.out,decide_eq_false hx];simp
   rw[decide_eq_false hx];have fa:=zH bw;clear hx bw;go_wp2_with fail;go_ret
   exact⟨by rw[fa.out];rfl,below_drewN B2.out _⟩
 ·have yK:(neg==q.neg)=false:=by simpa using he
  have bw:z=false:=by rw[HZ.out];simp[he]
  have fa:=zH bw;clear bw he;go_wp2_with fail;go_ret
  exact⟨by rw[fa.out];rfl,B2.out⟩
theorem Fa {y:ByteArray} {l:List UInt8} (h:y≠⟨l.toArray⟩):(y.toList==l)=false:=by
 rw[ByteArray.toList_eq];rw[beq_eq_false_iff_ne];intro e;apply h;apply ByteArray.ext;rw[<-e]
theorem fG (a b:List UInt8):((⟨a.toArray⟩:ByteArray)++⟨b.toArray⟩)=⟨(a++b).toArray⟩:=by
 apply ByteArray.ext;rw[ByteArray.data_append];simp
theorem Ng {S:Nat->Prop} {v:Value} {r:Raw} {w:World} (h:SV w S v r) (hS:∀b,S b->b<w.heap.size) (hl:r.short 67108864) : Calls Tryz.prog 84 #[v] w (kB w (.string ⟨(ib r.q).toArray⟩)):=by
 obtain⟨A,n,c,A2,n2,c2,rfl,h1,h2⟩:=h.raw_cases;have gp:Below w.heap.size w (w.alloc (.cells #[.bool r.neg,.slice A n c,.slice A2 n2 c2] 28)):=(Below.refl _ _).alloc (Nat.le_refl _) _;have wi:df (w.alloc (.cells #[.bool r.neg,.slice A n c,.slice A2 n2 c2] 28)) w.heap.size 28 #[.bool r.neg,.slice A n c,.slice A2 n2 c2]:=df.new _ _ _;obtain⟨w1,fE⟩:∃x,w.alloc (.cells #[.bool r.neg,.slice A n c,.slice A2 n2 c2] 28)=x:=⟨_,rfl⟩;rw[fE] at gp wi;have ml:w1.heap.size=w.heap.size+1:=by rw[<-fE];simp
 have HV:=zH (h.below gp hS);have nz:=zH fE;have og:=zH gp;have WF:=zH wi;have GV:=zH ml;have PE:=(ly hl (by omega)).1;have Lh:=(ly hl (by omega)).2;obtain⟨q,hq⟩:∃q,r.q=q:=⟨_,rfl⟩;rw[hq] at PE Lh;rw[hq];obtain⟨neg,num,den⟩:=r;have HQ:=zH hq;have HQ1:=zH PE;have HQ2:=zH Lh;obtain⟨T,hT⟩:∃T:ByteArray,⟨(ib q).toArray⟩=T:=⟨_,rfl⟩;rw[hT];have HT:=zH hT;clear h h1 h2 fE gp wi hq PE Lh ml hT;go_enter Tryz.func84,Tryz.ntmps84;go_wp2_with fail;rw[nz.out];refine(mS HV.out (λb hb=>Nat.lt_of_lt_of_le (hS b hb) og.out.size) ⟨Nat.le_trans hl.1 (by omega),Nat.le_trans hl.2 (by omega)⟩).mono ?_;rintro e w2 ⟨v,rfl,⟨cs,rfl,A5,n5,c5,A6,n6,c6,rfl,h5,h6⟩,hb⟩;rw[HQ.out] at h5 h6 ⊢;obtain⟨c0,c1,c2',f0,f1,f2⟩:=(WF.out.keep hb).facts3;have b3:Below w.heap.size w (setAll w2 w.heap.size 0 [.bool q.neg,.slice A5 n5 c5,.slice A6 n6 c6]):=jD (au og.out hb) (Nat.le_refl _) _ 0;have k3:df (setAll w2 w.heap.size 0 [.bool q.neg,.slice A5 n5 c5,.slice A6 n6 c6]) w.heap.size 28 #[.bool q.neg,.slice A5 n5 c5,.slice A6 n6 c6]:=(WF.out.keep hb).setAll [.bool q.neg,.slice A5 n5 c5,.slice A6 n6 c6] rfl;have kp:aw (dM w1 w2) w2 (setAll w2 w.heap.size 0 [.bool q.neg,.slice A5 n5 c5,.slice A6 n6 c6]):=(aw.refl _ _).setAll (λh=>by have:=h.1;have:=GV.out;omega) _ 0;have r5:=h5.keep (λ_ h=>h) kp;have r6:=h6.keep (λ_ h=>h) kp;have z3:(setAll w2 w.heap.size 0 [.bool q.neg,.slice A5 n5 c5,.slice A6 n6 c6]).heap.size=w2.heap.size:=jX _ _ _;obtain⟨w3,hw3⟩:∃x,setAll w2 w.heap.size 0 [.bool q.neg,.slice A5 n5 c5,.slice A6 n6 c6]=x:=⟨_,rfl⟩;rw[hw3] at b3 k3 r5 r6 z3;have hl5:n5<=67108864:=by have:=HQ1.out;have:=r5.len;omega
 have hl6:n6<=67108864:=by have:=HQ2.out;have:=r6.len;omega
 have HW3:Hid (((w2.setCell ⟨w.heap.size,0,none⟩ (.bool q.neg)).setCell ⟨w.heap.size,1,none⟩ (.slice A5 n5 c5)).setCell ⟨w.heap.size,2,none⟩ (.slice A6 n6 c6)=w3):=zH hw3;have B3:=zH b3;have K3:=zH k3;have R5:=zH r5;have R6:=zH r6;have Z3:=zH z3;clear h5 h6 hb b3 k3 kp r5 r6 hw3 z3;go_wp2_with fail;rw[HW3.out];have t5:=Hg R5.out (λb h=>by rw[Z3.out];exact h.2) (by omega);rw[bn] at t5;obtain⟨x,hx⟩:∃x:ByteArray,⟨(bq q.n).toArray⟩=x:=⟨_,rfl⟩;rw[hx] at t5;have Lb:x.size<=1000000000:=by
  have:=ke HQ1.out;rw[<-hx];show(bq q.n).toArray.size<=_;rw[List.size_toArray];omega
 have HX:=zH hx;have T5:=zH t5;clear hx t5;refine T5.out.mono ?_;rintro e w4 ⟨rfl,qw⟩;obtain⟨d0,d1,d2,_,_,_⟩:=(K3.out.keep qw).facts3;have R64:=zH (R6.out.below qw (λb h=>by rw[Z3.out];exact h.2));have hz4:=qw.size;have t6:=Hg R64.out (λb h=>Nat.lt_of_lt_of_le h.2 (by rw[<-Z3.out];exact hz4)) (by omega);rw[bn] at t6;obtain⟨y,hy⟩:∃y:ByteArray,⟨(bq q.d).toArray⟩=y:=⟨_,rfl⟩;rw[hy] at t6;have hys:y.size<=1000000000:=by
  have:=ke HQ2.out;rw[<-hy];show(bq q.d).toArray.size<=_;rw[List.size_toArray];omega
 have HY:=zH hy;have T6:=zH t6;have B4:=zH (au B3.out qw);clear hy t6 qw hz4;have Xj:(y=⟨#[49]⟩)↔bq q.d=[49]:=by
  rw[<-HY.out];constructor
  ·intro e;have:=congrArg (λb=>b.data.toList) e;simpa using this
  ·intro e;rw[e]
 have HY1:=zH Xj;clear Xj;obtain⟨Y3,qn,qd⟩:=q;cases Y3 with
 | true=>
  go_wp2_with fail;refine T6.out.mono ?_;rintro e w5 ⟨rfl,EH⟩;have B5:=zH (au B4.out EH);clear EH;by_cases h1:y=⟨#[49]⟩
  ·have hT:(⟨#[45]⟩:ByteArray)++x=T:=by
    rw[<-HT.out,<-HX.out];unfold ib;rw[if_pos rfl,if_pos (HY1.out.1 h1),List.append_nil];exact fG [45] _
   have JH:=zH hT;clear hT;go_wp2_with fail;go_ret
   exact⟨congrArg (λt=>Ending.returned (.string t)) JH.out,B5.out⟩
  ·have fR:(y.toList==[49])=false:=Fa h1;have hT:(⟨#[45]⟩:ByteArray)++x++(⟨#[47]⟩++y)=T:=by
    rw[<-HT.out,<-HX.out,<-HY.out];unfold ib;rw[if_pos rfl,if_neg (λe=>h1 (HY1.out.2 e))];exact(congr (congrArg HAppend.hAppend (fG [45] _)) (fG [47] _)).trans (fG _ _)
   have JH:=zH hT;clear hT h1;have atx:((⟨#[45]⟩:ByteArray)++x).size<=1000000001:=by rw[ByteArray.size_append];show 1+_<=_;omega
   have atu:((⟨#[47]⟩:ByteArray)++y).size<=1000000001:=by rw[ByteArray.size_append];show 1+_<=_;omega
   go_wp2_with fail;go_ret
   exact⟨congrArg (λt=>Ending.returned (.string t)) JH.out,B5.out⟩
 | false=>
  go_wp2_with fail;refine T6.out.mono ?_;rintro e w5 ⟨rfl,EH⟩;have B5:=zH (au B4.out EH);clear EH;by_cases h1:y=⟨#[49]⟩
  ·have hT:x=T:=by
    rw[<-HT.out,<-HX.out];unfold ib;rw[if_neg (by simp),if_pos (HY1.out.1 h1),List.append_nil,List.nil_append]
   have JH:=zH hT;clear hT;go_wp2_with fail;go_ret
   exact⟨congrArg (λt=>Ending.returned (.string t)) JH.out,B5.out⟩
  ·have fR:(y.toList==[49])=false:=Fa h1;have hT:x++((⟨#[47]⟩:ByteArray)++y)=T:=by
    rw[<-HT.out,<-HX.out,<-HY.out];unfold ib;rw[if_neg (by simp),if_neg (λe=>h1 (HY1.out.2 e)),List.nil_append];exact(congrArg _ (fG [47] _)).trans (fG _ _)
   have JH:=zH hT;clear hT h1;go_wp2_with fail;go_ret
   exact⟨congrArg (λt=>Ending.returned (.string t)) JH.out,B5.out⟩
theorem nh {a b:Bool} (h:a=true↔b=true):Ending.returned (.bool a)=.returned (.bool b):=by rw[Bool.eq_iff_iff.2 h]
theorem agS (c:UInt8):(c==45)=decide (c.toNat=45):=by
 rw[Bool.eq_iff_iff,beq_iff_eq,decide_eq_true_iff];exact⟨λh=>by rw[h];rfl,λh=>UInt8.toNat_inj.1 (by rw[h];rfl)⟩
theorem km {p:UInt8->Bool}:∀{l:List UInt8} {n:Nat},(∀i x,i<n->l[i]?=some x->p x=true)->n<=l.length->(n=l.length\/∃x,l[n]?=some x/\p x=false)->(l.takeWhile p).length=n
 | [],n,_,hn,_=>by simp at hn;subst hn;rfl
 | y::l,0,_,_,hx=>by
  rcases hx with hx|⟨x,hx,hp⟩
  ·simp at hx
  ·simp at hx;subst hx;simp[hp]
 | y::l,n+1,h,hn,hx=>by
  have hy:p y=true:=h 0 y (by omega) rfl;simp only[List.length_cons] at hn hx;rw[List.takeWhile_cons,if_pos hy,List.length_cons,km (n:=n) (λi x hi hx=>h (i+1) x (by omega) (by simpa using hx)) (by omega)];rcases hx with hx|⟨x,hx,hp⟩
  ·exact .inl (by omega)
  ·exact .inr ⟨x,by simpa using hx,hp⟩
theorem str_at {s:ByteArray} {k:Nat} (h:k<s.size):s.data.toList[k]?=some s[k]:=by
 have:k<s.data.toList.length:=by simpa using h
 rw[List.getElem?_eq_getElem this];rfl
theorem lw (s:ByteArray):s.data.toList.length=s.size:=by simp
end Go.Proofs.YtdbpbfglhbiadaaGreatDoor
