/- Rat3 Rat4 Rat5 Lex1 Lex2 Lex3 -/
import Derived.Test.YtdbpbfglhbiadaaGreatDoorF01
import Derived.Test.YtdbpbfglhbiadaaGreatDoorF12
import Derived.Deep.RegionWith
import Derived.Deep.RegionHeld3
import Derived.Deep.DeepCutAuto
import Derived.Lib.IndexLaws
set_option maxHeartbeats 8000000
set_option maxRecDepth 100000
namespace Go.Proofs.YtdbpbfglhbiadaaGreatDoor
open Go.RowKit
def Po (w:World) (r:Bool×Nat) (e:Ending) (w':World):Prop:=∃A n c,e=.returned (.tuple #[.bool r.1,.slice A n c])/\n=(cF r.2).length/\RS w' (bZ w w') A n c (cF r.2)/\Below w.heap.size w w'
theorem VA {S S2:Nat->Prop} {A A2:Option Addr} {n c n2 c2:Nat} {xs ys:List (BitVec 32)} {w:World} (a b:Bool) (h:RS w S A n c xs) (h2:RS w S2 A2 n2 c2 ys) (hS:∀b,S b->b<w.heap.size) (gL:∀b,S2 b->b<w.heap.size) (hn:n<=536870912) (hn2:n2<=536870912) : Calls Tryz.prog 192 #[.bool a,.slice A n c,.bool b,.slice A2 n2 c2] w (Po w (nX a (val xs) b (val ys))):=by
 have H:=zH h;have H2:=zH h2;obtain⟨X,hX⟩:∃X,val xs=X:=⟨_,rfl⟩;obtain⟨Y,hY⟩:∃Y,val ys=Y:=⟨_,rfl⟩;have HX:=zH hX;have HY:=zH hY;rw[hX,hY];clear h h2 hX hY;by_cases N9:a=b
 ·have hq:nX a X b Y=(a,X+Y):=by unfold nX;rw[if_pos N9]
  rw[hq];have aiq:(a==b)=true:=by simpa using N9
  have ap2:(!a==!b)=true:=by simpa using N9
  clear hq N9;go_enter Tryz.func192,Tryz.ntmps192;go_wp2_with fail;refine(TE H.out H2.out hS gL (by omega) (by omega)).mono ?_;rintro e w2 h;rw[HX.out,HY.out] at h;obtain⟨A3,n3,c3,rfl,hn3,hr,hb⟩:=h.slice;have HN:=zH hn3;have HR:=zH hr;have HB:=zH hb;clear h hr hb hn3;go_wp2_with fail;go_ret2
  exact⟨A3,n3,c3,rfl,HN.out,HR.out,HB.out⟩
 ·have aiq:(a==b)=false:=by simpa using N9
  by_cases wn:Y<=X
  ·have hq:nX a X b Y=(a,X-Y):=by unfold nX;rw[if_neg N9,if_pos wn]
   rw[hq];have HLE:=zH wn;clear hq N9 wn;go_enter Tryz.func192,Tryz.ntmps192;go_wp2_with fail;refine(FC H.out H2.out hS gL (by omega) (by rw[HX.out,HY.out];exact HLE.out)).mono ?_;rintro e w2 ⟨v,rfl,ho,hb⟩;rw[HX.out,HY.out] at ho;obtain⟨A3,n3,c3,rfl,hn3⟩:=ho.slice;have HN:=zH hn3;have HR:=zH (ho.fresh (Nat.le_refl _));have HB:=zH hb;clear ho hb hn3;go_wp2_with fail;go_ret2
   exact⟨A3,n3,c3,rfl,HN.out,HR.out,HB.out⟩
  ·have hq:nX a X b Y=(b,Y-X):=by unfold nX;rw[if_neg N9,if_neg wn]
   rw[hq];have hlt:X<Y:=by omega
   have HLT:=zH hlt;clear hq N9 wn hlt;go_enter Tryz.func192,Tryz.ntmps192;go_wp2_with fail;refine(Qn H.out H2.out (by rw[HX.out,HY.out];exact HLT.out)).mono ?_;rintro e w2 ⟨v,rfl,ho,hb⟩;have HR1:=zH (H.out.below hb hS);have Hq:=zH (H2.out.below hb gL);have HB:=zH hb;clear ho hb;go_wp2_with fail;refine(FC Hq.out HR1.out (λb h=>Nat.lt_of_lt_of_le (gL b h) HB.out.size) (λb h=>Nat.lt_of_lt_of_le (hS b h) HB.out.size) (by omega) (by rw[HX.out,HY.out];exact Nat.le_of_lt HLT.out)).mono ?_;rintro e w3 ⟨v,rfl,ho,hb⟩;rw[HX.out,HY.out] at ho;obtain⟨A3,n3,c3,rfl,hn3⟩:=ho.slice;have HN:=zH hn3;have HR:=zH (ho.fresh HB.out.size);have kR:=zH (ak HB.out hb);clear ho hb hn3;go_wp2_with fail;go_ret2
   exact⟨A3,n3,c3,rfl,HN.out,HR.out,kR.out⟩
theorem mw {a b j k:Nat} (ha:(cF a).length<=j) (hb:(cF b).length<=k):(cF (a*b)).length<=j+k:=by
 have h1:=dL (cF a);have h2:=dL (cF b);rw[bi] at h1 h2;have h3:=Nat.lt_of_lt_of_le h1 (Nat.pow_le_pow_right (by omega) ha);have h4:=Nat.lt_of_lt_of_le h2 (Nat.pow_le_pow_right (by omega) hb);refine fl ?_;rw[Nat.pow_add];exact Nat.mul_lt_mul'' h3 h4
theorem Bd {a b k:Nat} (ha:(cF a).length<=k) (hb:(cF b).length<=k):(cF (a+b)).length<=k+1:=by
 have h1:=dL (cF a);have h2:=dL (cF b);rw[bi] at h1 h2;have h3:=Nat.lt_of_lt_of_le h1 (Nat.pow_le_pow_right (by omega) ha);have h4:=Nat.lt_of_lt_of_le h2 (Nat.pow_le_pow_right (by omega) hb);refine fl ?_;rw[Nat.pow_succ];omega
theorem K8 {a b:Bool} {X Y k:Nat} (hx:(cF X).length<=k) (hy:(cF Y).length<=k):(cF (nX a X b Y).2).length<=k+1:=by
 unfold nX;split
 ·exact Bd hx hy
 ·split
  ·exact Nat.le_succ_of_le (jk hx (Nat.sub_le _ _))
  ·exact Nat.le_succ_of_le (jk hy (Nat.sub_le _ _))
theorem TC {S S2:Nat->Prop} {va vb:Value} {ra rb:Raw} {w:World} (ha:SV w S va ra) (hb:SV w S2 vb rb) (hS:∀b,S b->b<w.heap.size) (gL:∀b,S2 b->b<w.heap.size) (gO:ra.short 67108864) (jT:rb.short 67108864) : Calls Tryz.prog 139 #[va,vb] w (gI w (vh ra.q rb.q)):=by
 obtain⟨A,n,c,A2,n2,c2,rfl,h1,h2⟩:=ha.raw_cases;obtain⟨A3,n3,c3,A4,n4,c4,rfl,h3,h4⟩:=hb.raw_cases;have fF:Below w.heap.size w (((w.alloc (.cells #[.bool ra.neg,.slice A n c,.slice A2 n2 c2] 28)).alloc (.cells #[.bool rb.neg,.slice A3 n3 c3,.slice A4 n4 c4] 28)).alloc (.cells #[.bool false,.slice none 0 0,.slice none 0 0] 28)):=
  (((Below.refl _ _).alloc (Nat.le_refl _) _).alloc (by simp) _).alloc (by simp;omega) _
 obtain⟨w1,fm⟩:∃x,((w.alloc (.cells #[.bool ra.neg,.slice A n c,.slice A2 n2 c2] 28)).alloc (.cells #[.bool rb.neg,.slice A3 n3 c3,.slice A4 n4 c4] 28)).alloc (.cells #[.bool false,.slice none 0 0,.slice none 0 0] 28)=x:=⟨_,rfl⟩;have lJ:w1.heap.size=w.heap.size+3:=by rw[<-fm];simp
 have ND:cO w1 w.heap.size 28 #[.bool ra.neg,.slice A n c,.slice A2 n2 c2]:=by rw[<-fm];exact((cO.new _ _ _).alloc _).alloc _
 have mC:cO w1 (w.heap.size+1) 28 #[.bool rb.neg,.slice A3 n3 c3,.slice A4 n4 c4]:=by rw[<-fm];exact(cO.new' (by simp) _ _).alloc _
 have gr:cO w1 (w.heap.size+2) 28 #[.bool false,.slice none 0 0,.slice none 0 0]:=by rw[<-fm];exact cO.new' (by simp) _ _
 rw[fm] at fF;have HWA:=zH (ha.below fF hS);have HWB:=zH (hb.below fF gL);have mQ:=zH fm;have np:=zH fF;have HK0:=zH ND;have TX:=zH mC;have Pw:=zH gr;have Ff:=zH lJ;obtain⟨qa,hqa⟩:∃q,ra.q=q:=⟨_,rfl⟩;obtain⟨qb,Xw⟩:∃q,rb.q=q:=⟨_,rfl⟩;rw[hqa,Xw];have HQA:=zH hqa;have HQB:=zH Xw;clear ha hb h1 h2 h3 h4 fm fF ND mC gr lJ hqa Xw;go_enter Tryz.func139,Tryz.ntmps139;go_upto_region 1 with(fail);rw[mQ.out];obtain⟨d0,d1,d2,e0,e1,e2⟩:=HK0.out.facts3;obtain⟨d3,d4,d5,e3,e4,e5⟩:=TX.out.facts3;go_cut [8] (λ_ wx=>∃A5 n5 c5 A6 n6 c6 A7 n7 c7 A8 n8 c8,cO wx w.heap.size 28 #[.bool qa.neg,.slice A5 n5 c5,.slice A6 n6 c6]/\cO wx (w.heap.size+1) 28 #[.bool qb.neg,.slice A7 n7 c7,.slice A8 n8 c8]/\ cO wx (w.heap.size+1+1) 28 #[.bool false,.slice none 0 0,.slice none 0 0]/\RS wx (bZ w1 wx) A5 n5 c5 (cF qa.n)/\RS wx (bZ w1 wx) A6 n6 c6 (cF qa.d)/\RS wx (bZ w1 wx) A7 n7 c7 (cF qb.n)/\RS wx (bZ w1 wx) A8 n8 c8 (cF qb.d)/\Below w.heap.size w wx)
 case first=>
  have NA0:Calls Tryz.prog 95 #[.agg #[.bool ra.neg,.slice A n c,.slice A2 n2 c2]] w1.drew (gI w1 qa):=by
   rw[<-HQA.out];exact u3 (mi (w:=w1.drew) (r:=ra) HWA.out.drew (λb hb=>Nat.lt_of_lt_of_le (hS b hb) np.out.size) ⟨Nat.le_trans gO.1 (by omega),Nat.le_trans gO.2 (by omega)⟩)
  have NA1:Calls Tryz.prog 95 #[.agg #[.bool ra.neg,.slice A n c,.slice A2 n2 c2]] w1.drew.drew (gI w1 qa):=by
   rw[<-HQA.out];exact rH (mi (w:=w1.drew.drew) (r:=ra) HWA.out.drew.drew (λb hb=>Nat.lt_of_lt_of_le (hS b hb) np.out.size) ⟨Nat.le_trans gO.1 (by omega),Nat.le_trans gO.2 (by omega)⟩)
  have NB:∀w2:World,Below w1.heap.size w1 w2->Calls Tryz.prog 95 #[.agg #[.bool rb.neg,.slice A3 n3 c3,.slice A4 n4 c4]] w2 (gI w2 qb):=λw2 bH=>by
   rw[<-HQB.out];exact mi (r:=rb) (HWB.out.below bH (λb hb=>Nat.lt_of_lt_of_le (gL b hb) np.out.size)) (λb hb=>Nat.lt_of_lt_of_le (gL b hb) (Nat.le_trans np.out.size bH.size)) ⟨Nat.le_trans jT.1 (by omega),Nat.le_trans jT.2 (by omega)⟩
  have akI:=zH NA0;have akH:=zH NA1;have Vn:=zH NB;clear NA0 NA1 NB;go_region_with (first
   | (go_at_call 95; (with_reducible first|refine akI.out.mono ?_|refine akH.out.mono ?_); rintro e w2 ⟨v,rfl,⟨cs,rfl,A5,n5,c5,A6,n6,c6,rfl,g5,g6⟩,bH⟩; obtain⟨d3,d4,d5,e3,e4,e5⟩:=(TX.out.keep bH).facts3; have akG:=zH (Vn.out w2 bH); have akF:Hid (Calls Tryz.prog 95 #[.agg #[.bool rb.neg,.slice A3 n3 c3,.slice A4 n4 c4]] w2.drew (gI w2 qb)):=zH (u3 (Vn.out w2.drew (below_drewN bH 1))); have akE:Hid (Calls Tryz.prog 95 #[.agg #[.bool rb.neg,.slice A3 n3 c3,.slice A4 n4 c4]] w2.drew.drew (gI w2 qb)):=zH (rH (Vn.out w2.drew.drew (below_drewN bH 2))); have G5:=zH g5; have G6:=zH g6; have ZD:=zH bH; clear g5 g6 bH)
   | (go_at_call 95; (with_reducible first|refine akG.out.mono ?_|refine akF.out.mono ?_|refine akE.out.mono ?_); rintro e w3 ⟨v,rfl,⟨cs,rfl,A7,n7,c7,A8,n8,c8,rfl,g7,g8⟩,jF⟩; obtain⟨d0,d1,d2,e0,e1,e2⟩:=((HK0.out.keep ZD.out).keep jF).facts3; obtain⟨d3,d4,d5,e3,e4,e5⟩:=((TX.out.keep ZD.out).keep jF).facts3; have G7:=zH g7; have G8:=zH g8; have Fi:=zH jF; clear g7 g8 jF))
  all_goals go_wp2_with fail
  all_goals
   go_meet
   have b0:=(HK0.out.keep ZD.out).keep Fi.out;have b1:=(TX.out.keep ZD.out).keep Fi.out;have b2:=(Pw.out.keep ZD.out).keep Fi.out;have s1:=Ff.out;have s2:=ZD.out.size;have s3:=Fi.out.size;have r5:RS w3 (bZ w1 w3) A5 n5 c5 (cF qa.n):=(G5.out.below Fi.out (λ_ h=>h.2)).sub (uJ s3);have r6:RS w3 (bZ w1 w3) A6 n6 c6 (cF qa.d):=(G6.out.below Fi.out (λ_ h=>h.2)).sub (uJ s3);have r7:RS w3 (bZ w1 w3) A7 n7 c7 (cF qb.n):=G7.out.sub (rE s2);have r8:RS w3 (bZ w1 w3) A8 n8 c8 (cF qb.d):=G8.out.sub (rE s2);have kk:aw (bZ w1 w3) w3 (setAll (setAll w3 w.heap.size 0 [.bool qa.neg,.slice A5 n5 c5,.slice A6 n6 c6]) (w.heap.size+1) 0 [.bool qb.neg,.slice A7 n7 c7,.slice A8 n8 c8]):=
    ((aw.refl _ _).setAll (λh=>by have:=h.1;omega) _ 0).setAll (λh=>by have:=h.1;omega) _ 0
   have ff:∀b,bZ w1 w3 b->bZ w1 (setAll (setAll w3 w.heap.size 0 [.bool qa.neg,.slice A5 n5 c5,.slice A6 n6 c6]) (w.heap.size+1) 0 [.bool qb.neg,.slice A7 n7 c7,.slice A8 n8 c8]) b:=λb hb=>⟨hb.1,by rw[jK,jK];exact hb.2⟩;have k0:cO (setAll (setAll w3 w.heap.size 0 [.bool qa.neg,.slice A5 n5 c5,.slice A6 n6 c6]) (w.heap.size+1) 0 [.bool qb.neg,.slice A7 n7 c7,.slice A8 n8 c8]) w.heap.size 28 #[.bool qa.neg,.slice A5 n5 c5,.slice A6 n6 c6]:=
    cO.farAll (cO.setAll [.bool qa.neg,.slice A5 n5 c5,.slice A6 n6 c6] b0 rfl) (by omega) _ 0
   have k1:cO (setAll (setAll w3 w.heap.size 0 [.bool qa.neg,.slice A5 n5 c5,.slice A6 n6 c6]) (w.heap.size+1) 0 [.bool qb.neg,.slice A7 n7 c7,.slice A8 n8 c8]) (w.heap.size+1) 28 #[.bool qb.neg,.slice A7 n7 c7,.slice A8 n8 c8]:=
    cO.setAll [.bool qb.neg,.slice A7 n7 c7,.slice A8 n8 c8] (cO.farAll b1 (by omega) _ 0) rfl
   have k2:cO (setAll (setAll w3 w.heap.size 0 [.bool qa.neg,.slice A5 n5 c5,.slice A6 n6 c6]) (w.heap.size+1) 0 [.bool qb.neg,.slice A7 n7 c7,.slice A8 n8 c8]) (w.heap.size+1+1) 28 #[.bool false,.slice none 0 0,.slice none 0 0]:=
    cO.farAll (cO.farAll b2 (by omega) _ 0) (by omega) _ 0
   have k3:Below w.heap.size w (setAll (setAll w3 w.heap.size 0 [.bool qa.neg,.slice A5 n5 c5,.slice A6 n6 c6]) (w.heap.size+1) 0 [.bool qb.neg,.slice A7 n7 c7,.slice A8 n8 c8]):=
    ji (ji (ak (ak np.out ZD.out) Fi.out) (Nat.le_refl _) _ 0) (Nat.le_succ _) _ 0
   exact⟨A5,n5,c5,A6,n6,c6,A7,n7,c7,A8,n8,c8,k0,k1,k2,r5.keep ff kk,r6.keep ff kk,r7.keep ff kk,r8.keep ff kk,k3⟩
 case rest=>
  obtain⟨A5,n5,c5,A6,n6,c6,A7,n7,c7,A8,n8,c8,b0,b1,b2,r5,r6,r7,r8,UX⟩:=hcut;have R5:=zH r5;have R6:=zH r6;have R7:=zH r7;have R8:=zH r8;have l5:=(kZ gO (by omega)).1;have l6:=(kZ gO (by omega)).2;have l7:=(kZ jT (by omega)).1;have l8:=(kZ jT (by omega)).2;rw[HQA.out,r5.len] at l5;rw[HQA.out,r6.len] at l6;rw[HQB.out,r7.len] at l7;rw[HQB.out,r8.len] at l8;have HX:=zH (mw (Nat.le_of_eq r5.len) (Nat.le_of_eq r8.len));have HY:=zH (mw (Nat.le_of_eq r7.len) (Nat.le_of_eq r6.len));have hH:∀w',Up wc w'->Up wc w'/\w'.cell? ⟨w.heap.size,0,none⟩=some (.bool qa.neg)/\w'.cell? ⟨w.heap.size,1,none⟩=some (.slice A5 n5 c5)/\w'.cell? ⟨w.heap.size,2,none⟩=some (.slice A6 n6 c6)/\ w'.cell? ⟨w.heap.size+1,0,none⟩=some (.bool qb.neg)/\w'.cell? ⟨w.heap.size+1,1,none⟩=some (.slice A7 n7 c7)/\w'.cell? ⟨w.heap.size+1,2,none⟩=some (.slice A8 n8 c8):=
   λw' hu=>⟨hu,(b0.keep hu).cell 0,(b0.keep hu).cell 1,(b0.keep hu).cell 2,(b1.keep hu).cell 0,(b1.keep hu).cell 1,(b1.keep hu).cell 2⟩
  have HH:=zH hH;have B0:=zH b0;have B1:=zH b1;have B2:=zH b2;have HBX:=zH UX;have m1:∀w',Up wc w'->Calls Tryz.prog 193 #[.slice A5 n5 c5,.slice A8 n8 c8] w' (iP w' 172 (cF (qa.n*qb.d))):=λw' hu=>by
   have:=yE (R5.out.below hu.out (λ_ h=>h.2)) (R8.out.below hu.out (λ_ h=>h.2)) (λb h=>Nat.lt_of_lt_of_le h.2 hu.out.size) (λb h=>Nat.lt_of_lt_of_le h.2 hu.out.size) (by omega) (by omega)
   rwa [bi,bi] at this
  have m2:∀w',Up wc w'->Calls Tryz.prog 193 #[.slice A7 n7 c7,.slice A6 n6 c6] w' (iP w' 172 (cF (qb.n*qa.d))):=λw' hu=>by
   have:=yE (R7.out.below hu.out (λ_ h=>h.2)) (R6.out.below hu.out (λ_ h=>h.2)) (λb h=>Nat.lt_of_lt_of_le h.2 hu.out.size) (λb h=>Nat.lt_of_lt_of_le h.2 hu.out.size) (by omega) (by omega)
   rwa [bi,bi] at this
  have m3:∀w',Up wc w'->Calls Tryz.prog 193 #[.slice A6 n6 c6,.slice A8 n8 c8] w' (iP w' 172 (cF (qa.d*qb.d))):=λw' hu=>by
   have:=yE (R6.out.below hu.out (λ_ h=>h.2)) (R8.out.below hu.out (λ_ h=>h.2)) (λb h=>Nat.lt_of_lt_of_le h.2 hu.out.size) (λb h=>Nat.lt_of_lt_of_le h.2 hu.out.size) (by omega) (by omega)
   rwa [bi,bi] at this
  have HD:=zH (mw (Nat.le_of_eq R6.out.len) (Nat.le_of_eq R8.out.len));obtain⟨s1,lJ⟩:∃s,nX qa.neg (qa.n*qb.d) qb.neg (qb.n*qa.d)=s:=⟨_,rfl⟩;have eX:(cF s1.2).length<=268435457:=by
   rw[<-lJ];exact K8 (Nat.le_trans HX.out (by omega)) (Nat.le_trans HY.out (by omega))
  have lO:vh qa qb=dE s1.1 s1.2 (qa.d*qb.d):=by unfold vh;rw[lJ]
  have m4:∀(w':World) (S9 S0:Nat->Prop) (A9 A0:Option Addr) (n9 c9 n0 c0:Nat),n9=(cF (qa.n*qb.d)).length->n0=(cF (qb.n*qa.d)).length->RS w' S9 A9 n9 c9 (cF (qa.n*qb.d))->RS w' S0 A0 n0 c0 (cF (qb.n*qa.d))->(∀b,S9 b->b<w'.heap.size)->(∀b,S0 b->b<w'.heap.size)-> Calls Tryz.prog 192 #[.bool qa.neg,.slice A9 n9 c9,.bool qb.neg,.slice A0 n0 c0] w' (Po w' s1):=λw' S9 S0 A9 A0 n9 c9 n0 c0 e9 e0 h9 h0 hS9 hS0=>by
   have:=VA qa.neg qb.neg h9 h0 hS9 hS0 (by have:=HX.out;omega) (by have:=HY.out;omega)
   rwa [bi,bi,lJ] at this
  have M1:=zH m1;have M2:=zH m2;have M3:=zH m3;have M4:=zH m4;have HSL:=zH eX;have akU:=zH lO;clear r5 r6 r7 r8 hH b0 b1 b2 UX d0 d1 d2 e0 e1 e2 d3 d4 d5 e3 e4 e5 m1 m2 m3 m4 lJ eX lO;go_upto_region 2 with(fail);go_region_held3 (λw'=>Up wc w'/\w'.cell? ⟨w.heap.size,0,none⟩=some (.bool qa.neg)/\w'.cell? ⟨w.heap.size,1,none⟩=some (.slice A5 n5 c5)/\w'.cell? ⟨w.heap.size,2,none⟩=some (.slice A6 n6 c6)/\ w'.cell? ⟨w.heap.size+1,0,none⟩=some (.bool qb.neg)/\w'.cell? ⟨w.heap.size+1,1,none⟩=some (.slice A7 n7 c7)/\w'.cell? ⟨w.heap.size+1,2,none⟩=some (.slice A8 n8 c8))
   (first|assumption|exact HH.out _ (Up.start wc)|exact HH.out _ (Up.more (‹Up wc _/\_›).1 ‹Below _ _ _›))
   (first
    | (go_at_call 193; (with_reducible refine(M1.out _ (‹Up wc _/\_›).1).mono ?_); rintro e w5 h9; obtain⟨A9,n9,c9,rfl,hn9,hr9,hb9⟩:=h9.slice; obtain⟨S9,acr,hS9⟩:∃S9:Nat->Prop,RS w5 S9 A9 n9 c9 (cF (qa.n*qb.d))/\∀b,S9 b->b<w5.heap.size:=⟨_,hr9,λb h=>h.2⟩; have HR9:=zH acr; have HS9:=zH hS9; have HN9:=zH hn9; clear h9 hr9 hn9 acr hS9)
    | (go_at_call 193; (with_reducible refine(M2.out _ (‹Up wc _/\_›).1).mono ?_); rintro e w6 h9; obtain⟨A0,n0,c0,rfl,hn0,zK,hb0⟩:=h9.slice; obtain⟨S0,acx,hS0⟩:∃S0:Nat->Prop,RS w6 S0 A0 n0 c0 (cF (qb.n*qa.d))/\∀b,S0 b->b<w6.heap.size:=⟨_,zK,λb h=>h.2⟩; have HR0:=zH acx; have HS0:=zH hS0; have HN0:=zH hn0; have akp:=zH (HR9.out.below hb0 HS9.out); have HF9:Hid (∀b,S9 b->b<w6.heap.size):=zH (λb h=>Nat.lt_of_lt_of_le (HS9.out b h) hb0.size); clear h9 zK hn0 acx hS0)
    | (go_at_call 192; (with_reducible refine(M4.out _ _ _ _ _ _ _ _ _ HN9.out HN0.out akp.out HR0.out HF9.out HS0.out).mono ?_); rintro e w7 ⟨A1,n1,c1,rfl,hn1,hr1,bS⟩; have HR1:=zH hr1; have HN1:=zH hn1; clear hr1 hn1))
  all_goals
   have hu:Up wc w7:=(‹Up wc w7/\_›).1;have HU:=zH hu;obtain⟨S1,acv,hS1⟩:∃S1:Nat->Prop,RS w7 S1 A1 n1 c1 (cF s1.2)/\∀b,S1 b->b<w7.heap.size:=⟨_,HR1.out,λb h=>h.2⟩;have aks:=zH acv;have ad4:=zH hS1;have BB2:=zH (B2.out.keep hu);have BX7:=zH (ak HBX.out hu.out);have apD:n1<=268435457:=by have:=HN1.out;have:=HSL.out;omega
   clear acv hS1 hu;go_wp2_with fail;refine(M3.out _ HU.out).mono ?_;rintro e w8 h;obtain⟨A2',n2',c2',rfl,ahS,acu,UY⟩:=h.slice;have apC:n2'<=268435457:=by have:=HD.out;omega
   have ad6:=zH (aks.out.below UY ad4.out);have ad3:Hid (∀b,S1 b->b<w8.heap.size):=zH (λb h=>Nat.lt_of_lt_of_le (ad4.out b h) UY.size);have akr:=zH acu;have BB3:=zH (BB2.out.keep UY);have BX8:=zH (ak BX7.out UY);clear h ahS acu UY;go_wp2_with fail;refine(yH s1.1 ad6.out akr.out ad3.out (λb h=>h.2) (by omega) (by omega)).mono ?_;rintro e w9 ⟨v,rfl,⟨cs,rfl,hr⟩,hb⟩;have iV:=hr;obtain⟨A5',n5',c5',A6',n6',c6',rfl,_,_⟩:=iV;rw[bi,bi,<-akU.out] at hr ⊢;obtain⟨c0,c1,c2,f0,f1,f2⟩:=(BB3.out.keep hb).facts3;have HK4:=zH (BB3.out.keep hb);have vz:=zH (ak BX8.out hb);have nl:=zH hr;obtain⟨q,hq⟩:∃q,vh qa qb=q:=⟨_,rfl⟩;rw[hq] at nl ⊢;have HQ:=zH hq;have iL:=BB3.out.lt;clear hr hb hq;go_wp2_with fail;refine fJ (x:=q) (S:=bZ w8 w9) (cs:=[.bool q.neg,.slice A5' n5' c5',.slice A6' n6' c6']) rfl rfl (by omega) HK4.out rfl Tryz.underlying28 rfl (by kernel_rfl) nl.out (λb hb=>?_) vz.out rfl (by rw[<-HQ.out];exact id);have h1:=hb.1;exact⟨⟨by omega,hb.2⟩,by omega⟩
theorem Qm {S S2:Nat->Prop} {va vb:Value} {ra rb:Raw} {w:World} (ha:SV w S va ra) (hb:SV w S2 vb rb) (hS:∀b,S b->b<w.heap.size) (gL:∀b,S2 b->b<w.heap.size) (gO:ra.short 67108864) (jT:rb.short 67108864) : Calls Tryz.prog 99 #[va,vb] w (gI w (vh ra.q rb.flip.q)):=by
 obtain⟨A,n,c,A2,n2,c2,rfl,h1,h2⟩:=ha.raw_cases;obtain⟨A3,n3,c3,A4,n4,c4,rfl,h3,h4⟩:=hb.raw_cases;have fF:Below w.heap.size w (((w.alloc (.cells #[.bool ra.neg,.slice A n c,.slice A2 n2 c2] 28)).alloc (.cells #[.bool (!rb.neg),.slice A3 n3 c3,.slice A4 n4 c4] 28)).alloc (.cells #[.bool false,.slice none 0 0,.slice none 0 0] 28)):=
  (((Below.refl _ _).alloc (Nat.le_refl _) _).alloc (by simp) _).alloc (by simp;omega) _
 obtain⟨w1,fm⟩:∃x,((w.alloc (.cells #[.bool ra.neg,.slice A n c,.slice A2 n2 c2] 28)).alloc (.cells #[.bool (!rb.neg),.slice A3 n3 c3,.slice A4 n4 c4] 28)).alloc (.cells #[.bool false,.slice none 0 0,.slice none 0 0] 28)=x:=⟨_,rfl⟩;have lJ:w1.heap.size=w.heap.size+3:=by rw[<-fm];simp
 have gr:cO w1 (w.heap.size+1+1) 28 #[.bool false,.slice none 0 0,.slice none 0 0]:=by rw[<-fm];exact cO.new' (by simp) _ _
 rw[fm] at fF;have xv:SV w1 S2 (.agg #[.bool (!rb.neg),.slice A3 n3 c3,.slice A4 n4 c4]) rb.flip:=⟨_,rfl,A3,n3,c3,A4,n4,c4,rfl,h3.below fF gL,h4.below fF gL⟩;have HWA:=zH (ha.below fF hS);have HWB:=zH xv;have mQ:=zH fm;have np:=zH fF;have Pw:=zH gr;have Ff:=zH lJ;obtain⟨q,hq⟩:∃q,vh ra.q rb.flip.q=q:=⟨_,rfl⟩;rw[hq];have HQ:=zH hq;clear ha hb h1 h2 h3 h4 fm fF gr lJ hq xv;go_enter Tryz.func99,Tryz.ntmps99;go_wp2_with fail;rw[mQ.out];refine(TC HWA.out HWB.out (λb hb=>Nat.lt_of_lt_of_le (hS b hb) np.out.size) (λb hb=>Nat.lt_of_lt_of_le (gL b hb) np.out.size) gO jT).mono ?_;rintro e w2 ⟨v,rfl,⟨cs,rfl,hr⟩,hb⟩;have iV:=hr;obtain⟨A5,n5,c5,A6,n6,c6,rfl,_,_⟩:=iV;obtain⟨c0,c1,c2',f0,f1,f2⟩:=(Pw.out.keep hb).facts3;have HK:=zH (Pw.out.keep hb);have ek:=zH (ak np.out hb);rw[HQ.out] at hr ⊢;have HR:=zH hr;clear hr hb;go_wp2_with fail;refine fJ (x:=q) (S:=bZ w1 w2) (cs:=[.bool q.neg,.slice A5 n5 c5,.slice A6 n6 c6]) rfl rfl (by omega) HK.out rfl Tryz.underlying28 rfl (by kernel_rfl) HR.out (λb hb=>?_) ek.out rfl id;have h1:=hb.1;rw[Ff.out] at h1;exact⟨⟨by omega,hb.2⟩,by omega⟩
theorem yL {n:Nat}:(cF n).length=0↔n=0:=by rw[List.length_eq_zero_iff,fN]
theorem Ti {S S2:Nat->Prop} {va vb:Value} {ra rb:Raw} {w:World} (ha:SV w S va ra) (hb:SV w S2 vb rb) (hS:∀b,S b->b<w.heap.size) (gL:∀b,S2 b->b<w.heap.size) (gO:ra.short 67108864) (jT:rb.short 67108864) : Calls Tryz.prog 54 #[va,vb] w (iT w (.int .i64 (mG ra.q rb.flip.q))):=by
 obtain⟨A,n,c,A2,n2,c2,rfl,h1,h2⟩:=ha.raw_cases;obtain⟨A3,n3,c3,A4,n4,c4,rfl,h3,h4⟩:=hb.raw_cases;have fF:Below w.heap.size w ((w.alloc (.cells #[.bool ra.neg,.slice A n c,.slice A2 n2 c2] 28)).alloc (.cells #[.bool rb.neg,.slice A3 n3 c3,.slice A4 n4 c4] 28)):=
  ((Below.refl _ _).alloc (Nat.le_refl _) _).alloc (by simp) _
 obtain⟨w1,fm⟩:∃x,(w.alloc (.cells #[.bool ra.neg,.slice A n c,.slice A2 n2 c2] 28)).alloc (.cells #[.bool rb.neg,.slice A3 n3 c3,.slice A4 n4 c4] 28)=x:=⟨_,rfl⟩;rw[fm] at fF;have HWA:=zH (ha.below fF hS);have HWB:=zH (hb.below fF gL);have mQ:=zH fm;have np:=zH fF;obtain⟨q,hq⟩:∃q,vh ra.q rb.flip.q=q:=⟨_,rfl⟩;have hc:mG ra.q rb.flip.q=if q.neg then -1 else if q.n=0 then 0 else 1:=by unfold mG;rw[hq]
 obtain⟨z,hz⟩:∃z,mG ra.q rb.flip.q=z:=⟨_,rfl⟩;rw[hz] at hc ⊢;have HC:=zH hc;have HQ:=zH hq;clear ha hb h1 h2 h3 h4 fm fF hq hc hz;go_enter Tryz.func54,Tryz.ntmps54;go_wp2_with fail;rw[mQ.out];refine(Qm HWA.out HWB.out (λb hb=>Nat.lt_of_lt_of_le (hS b hb) np.out.size) (λb hb=>Nat.lt_of_lt_of_le (gL b hb) np.out.size) gO jT).mono ?_;rintro e w2 ⟨v,rfl,⟨cs,rfl,A5,n5,c5,A6,n6,c6,rfl,h5,h6⟩,hb⟩;rw[HQ.out] at h5 h6 ⊢;have ek:=zH (ak np.out hb);have hn5:=h5.len;have h0:=yL (n:=q.n);rw[hn5] at h0;have H0:=zH h0;have hm:=h5.max;clear h5 h6 hb hn5 h0 HQ;obtain⟨Wb,qn,qd⟩:=q;cases Wb with
 | true=>
  go_wp2_with fail;go_ret
  exact⟨by rw[HC.out];rfl,ek.out.alloc ek.out.size _⟩
 | false=>
  by_cases hz:n5=0
  ·have Nn:qn=0:=H0.out.1 hz;subst hz;subst Nn;go_wp2_with fail;go_ret
   exact⟨by rw[HC.out];rfl,ek.out.alloc ek.out.size _⟩
  ·have hb0:((n5:Int)==0)=false:=by rw[beq_eq_false_iff_ne];omega
   have Nn:qn≠0:=λe=>hz (H0.out.2 e);have HQ0:=zH Nn;clear Nn hz;go_wp2_with fail;go_ret
   exact⟨by rw[HC.out];simp[HQ0.out],ek.out.alloc ek.out.size _⟩
theorem H9 {S:Nat->Prop} {v:Value} {r:Raw} {w:World} (h:SV w S v r) (hS:∀b,S b->b<w.heap.size) (hl:r.short 536870912) : Calls Tryz.prog 43 #[v] w (iT w (.bool r.valid)):=by
 obtain⟨A,n,c,A2,n2,c2,rfl,h1,h2⟩:=h.raw_cases;have fF:Below w.heap.size w (w.alloc (.cells #[.bool r.neg,.slice A n c,.slice A2 n2 c2] 28)):=(Below.refl _ _).alloc (Nat.le_refl _) _;have uy:cO (w.alloc (.cells #[.bool r.neg,.slice A n c,.slice A2 n2 c2] 28)) w.heap.size 28 #[.bool r.neg,.slice A n c,.slice A2 n2 c2]:=cO.new _ _ _;obtain⟨w1,fm⟩:∃x,w.alloc (.cells #[.bool r.neg,.slice A n c,.slice A2 n2 c2] 28)=x:=⟨_,rfl⟩;rw[fm] at fF uy;have HV:=zH (h.below fF hS);have mQ:=zH fm;have np:=zH fF;have TV:=zH uy;have H1:=zH (h1.below fF hS);have H2:=zH (h2.below fF hS);obtain⟨q,hq⟩:∃q,r.q=q:=⟨_,rfl⟩;obtain⟨z,hz⟩:∃z,r.valid=z:=⟨_,rfl⟩;have eQ:z=(r.neg==q.neg&&(decide (r.num=cF q.n)&&decide (r.den=cF q.d))):=by rw[<-hz,<-hq];rfl
 rw[hz];obtain⟨neg,num,den⟩:=r;have HQ:=zH hq;have HZ:=zH eQ;clear h h1 h2 fm fF uy hq hz eQ;go_enter Tryz.func43,Tryz.ntmps43;go_wp2_with fail;rw[mQ.out];refine(mi HV.out (λb hb=>Nat.lt_of_lt_of_le (hS b hb) np.out.size) hl).mono ?_;rintro e w2 ⟨v,rfl,⟨cs,rfl,A5,n5,c5,A6,n6,c6,rfl,h5,h6⟩,hb⟩;rw[HQ.out] at h5 h6 ⊢;obtain⟨d0,d1,d2,_,_,_⟩:=((TV.out.keep hb).alloc (.cells #[.bool q.neg,.slice A5 n5 c5,.slice A6 n6 c6] 28)).facts3;have bH:Below w.heap.size w (w2.alloc (.cells #[.bool q.neg,.slice A5 n5 c5,.slice A6 n6 c6] 28)):=(ak np.out hb).alloc (ak np.out hb).size _;have hn1:RS (w2.alloc (.cells #[.bool q.neg,.slice A5 n5 c5,.slice A6 n6 c6] 28)) S A n c num:=(H1.out.below hb (λb hb=>Nat.lt_of_lt_of_le (hS b hb) np.out.size)).below ((Below.refl _ _).alloc (Nat.le_refl _) _) (λb h=>Nat.lt_of_lt_of_le (hS b h) (ak np.out hb).size);have hn2:RS (w2.alloc (.cells #[.bool q.neg,.slice A5 n5 c5,.slice A6 n6 c6] 28)) S A2 n2 c2 den:=(H2.out.below hb (λb hb=>Nat.lt_of_lt_of_le (hS b hb) np.out.size)).below ((Below.refl _ _).alloc (Nat.le_refl _) _) (λb h=>Nat.lt_of_lt_of_le (hS b h) (ak np.out hb).size);have hn5:RS (w2.alloc (.cells #[.bool q.neg,.slice A5 n5 c5,.slice A6 n6 c6] 28)) (bZ w1 w2) A5 n5 c5 (cF q.n):=h5.below ((Below.refl _ _).alloc (Nat.le_refl _) _) (λb h=>h.2);have hn6:RS (w2.alloc (.cells #[.bool q.neg,.slice A5 n5 c5,.slice A6 n6 c6] 28)) (bZ w1 w2) A6 n6 c6 (cF q.d):=h6.below ((Below.refl _ _).alloc (Nat.le_refl _) _) (λb h=>h.2);have N1:=zH hn1;have N2:=zH hn2;have N5:=zH hn5;have N6:=zH hn6;have B2:=zH bH;clear h5 h6 hb bH hn1 hn2 hn5 hn6;by_cases he:neg=q.neg
 ·have xw:(neg==q.neg)=true:=by simpa using he
  have Z9:(!neg==!q.neg)=true:=by simpa using he
  go_wp2_with fail;refine(xD N1.out N5.out).mono ?_;rintro e w' ⟨rfl,m,rfl⟩;by_cases hx:num=cF q.n
  ·rw[decide_eq_true hx];go_wp2_with fail;refine(xD (N2.out.drewN m) (N6.out.drewN m)).mono ?_;rintro e w' ⟨rfl,m2,rfl⟩;obtain⟨y,hy⟩:∃y,decide (den=cF q.d)=y:=⟨_,rfl⟩;have hzy:z=y:=by rw[HZ.out,decide_eq_true hx,hy];simp[he]
   rw[hy,<-hzy];clear hy hzy hx;go_wp2_with fail;go_ret
   exact⟨rfl,below_drewN B2.out _⟩
  ·have aW:z=false:=by rw[HZ.out,decide_eq_false hx];simp
   rw[decide_eq_false hx];have db:=zH aW;clear hx aW;go_wp2_with fail;go_ret
   exact⟨by rw[db.out];rfl,below_drewN B2.out _⟩
 ·have xw:(neg==q.neg)=false:=by simpa using he
  have aW:z=false:=by rw[HZ.out];simp[he]
  have db:=zH aW;clear aW he;go_wp2_with fail;go_ret
  exact⟨by rw[db.out];rfl,B2.out⟩
theorem nY {y:ByteArray} {l:List UInt8} (h:y≠⟨l.toArray⟩):(y.toList==l)=false:=by
 rw[ByteArray.toList_eq];rw[beq_eq_false_iff_ne];intro e;apply h;apply ByteArray.ext;rw[<-e]
theorem fo (a b:List UInt8):((⟨a.toArray⟩:ByteArray)++⟨b.toArray⟩)=⟨(a++b).toArray⟩:=by
 apply ByteArray.ext;rw[ByteArray.data_append];simp
theorem K2 {S:Nat->Prop} {v:Value} {r:Raw} {w:World} (h:SV w S v r) (hS:∀b,S b->b<w.heap.size) (hl:r.short 67108864) : Calls Tryz.prog 84 #[v] w (iT w (.string ⟨(gD r.q).toArray⟩)):=by
 obtain⟨A,n,c,A2,n2,c2,rfl,h1,h2⟩:=h.raw_cases;have fF:Below w.heap.size w (w.alloc (.cells #[.bool r.neg,.slice A n c,.slice A2 n2 c2] 28)):=(Below.refl _ _).alloc (Nat.le_refl _) _;have uy:cO (w.alloc (.cells #[.bool r.neg,.slice A n c,.slice A2 n2 c2] 28)) w.heap.size 28 #[.bool r.neg,.slice A n c,.slice A2 n2 c2]:=cO.new _ _ _;obtain⟨w1,fm⟩:∃x,w.alloc (.cells #[.bool r.neg,.slice A n c,.slice A2 n2 c2] 28)=x:=⟨_,rfl⟩;rw[fm] at fF uy;have lJ:w1.heap.size=w.heap.size+1:=by rw[<-fm];simp
 have HV:=zH (h.below fF hS);have mQ:=zH fm;have np:=zH fF;have TV:=zH uy;have Ff:=zH lJ;have PU:=(kZ hl (by omega)).1;have GA:=(kZ hl (by omega)).2;obtain⟨q,hq⟩:∃q,r.q=q:=⟨_,rfl⟩;rw[hq] at PU GA;rw[hq];obtain⟨neg,num,den⟩:=r;have HQ:=zH hq;have HQ1:=zH PU;have HQ2:=zH GA;obtain⟨T,hT⟩:∃T:ByteArray,⟨(gD q).toArray⟩=T:=⟨_,rfl⟩;rw[hT];have HT:=zH hT;clear h h1 h2 fm fF uy hq PU GA lJ hT;go_enter Tryz.func84,Tryz.ntmps84;go_wp2_with fail;rw[mQ.out];refine(mi HV.out (λb hb=>Nat.lt_of_lt_of_le (hS b hb) np.out.size) ⟨Nat.le_trans hl.1 (by omega),Nat.le_trans hl.2 (by omega)⟩).mono ?_;rintro e w2 ⟨v,rfl,⟨cs,rfl,A5,n5,c5,A6,n6,c6,rfl,h5,h6⟩,hb⟩;rw[HQ.out] at h5 h6 ⊢;obtain⟨c0,c1,c2',f0,f1,f2⟩:=(TV.out.keep hb).facts3;have b3:Below w.heap.size w (setAll w2 w.heap.size 0 [.bool q.neg,.slice A5 n5 c5,.slice A6 n6 c6]):=ji (ak np.out hb) (Nat.le_refl _) _ 0;have k3:cO (setAll w2 w.heap.size 0 [.bool q.neg,.slice A5 n5 c5,.slice A6 n6 c6]) w.heap.size 28 #[.bool q.neg,.slice A5 n5 c5,.slice A6 n6 c6]:=(TV.out.keep hb).setAll [.bool q.neg,.slice A5 n5 c5,.slice A6 n6 c6] rfl;have kp:aw (bZ w1 w2) w2 (setAll w2 w.heap.size 0 [.bool q.neg,.slice A5 n5 c5,.slice A6 n6 c6]):=(aw.refl _ _).setAll (λh=>by have:=h.1;have:=Ff.out;omega) _ 0;have r5:=h5.keep (λ_ h=>h) kp;have r6:=h6.keep (λ_ h=>h) kp;have z3:(setAll w2 w.heap.size 0 [.bool q.neg,.slice A5 n5 c5,.slice A6 n6 c6]).heap.size=w2.heap.size:=jK _ _ _;obtain⟨w3,hw3⟩:∃x,setAll w2 w.heap.size 0 [.bool q.neg,.slice A5 n5 c5,.slice A6 n6 c6]=x:=⟨_,rfl⟩;rw[hw3] at b3 k3 r5 r6 z3;have hl5:n5<=67108864:=by have:=HQ1.out;have:=r5.len;omega
 have hl6:n6<=67108864:=by have:=HQ2.out;have:=r6.len;omega
 have HW3:Hid (((w2.setCell ⟨w.heap.size,0,none⟩ (.bool q.neg)).setCell ⟨w.heap.size,1,none⟩ (.slice A5 n5 c5)).setCell ⟨w.heap.size,2,none⟩ (.slice A6 n6 c6)=w3):=zH hw3;have B3:=zH b3;have K3:=zH k3;have R5:=zH r5;have R6:=zH r6;have Z3:=zH z3;clear h5 h6 hb b3 k3 kp r5 r6 hw3 z3;go_wp2_with fail;rw[HW3.out];have t5:=Fy R5.out (λb h=>by rw[Z3.out];exact h.2) (by omega);rw[bi] at t5;obtain⟨x,hx⟩:∃x:ByteArray,⟨(bj q.n).toArray⟩=x:=⟨_,rfl⟩;rw[hx] at t5;have Ng:x.size<=1000000000:=by
  have:=jY HQ1.out;rw[<-hx];show(bj q.n).toArray.size<=_;rw[List.size_toArray];omega
 have HX:=zH hx;have T5:=zH t5;clear hx t5;refine T5.out.mono ?_;rintro e w4 ⟨rfl,iY⟩;obtain⟨d0,d1,d2,_,_,_⟩:=(K3.out.keep iY).facts3;have R64:=zH (R6.out.below iY (λb h=>by rw[Z3.out];exact h.2));have hz4:=iY.size;have t6:=Fy R64.out (λb h=>Nat.lt_of_lt_of_le h.2 (by rw[<-Z3.out];exact hz4)) (by omega);rw[bi] at t6;obtain⟨y,hy⟩:∃y:ByteArray,⟨(bj q.d).toArray⟩=y:=⟨_,rfl⟩;rw[hy] at t6;have hys:y.size<=1000000000:=by
  have:=jY HQ2.out;rw[<-hy];show(bj q.d).toArray.size<=_;rw[List.size_toArray];omega
 have HY:=zH hy;have T6:=zH t6;have B4:=zH (ak B3.out iY);clear hy t6 iY hz4;have UE:(y=⟨#[49]⟩)↔bj q.d=[49]:=by
  rw[<-HY.out];constructor
  ·intro e;have:=congrArg (λb=>b.data.toList) e;simpa using this
  ·intro e;rw[e]
 have HY1:=zH UE;clear UE;obtain⟨Wb,qn,qd⟩:=q;cases Wb with
 | true=>
  go_wp2_with fail;refine T6.out.mono ?_;rintro e w5 ⟨rfl,zN⟩;have B5:=zH (ak B4.out zN);clear zN;by_cases h1:y=⟨#[49]⟩
  ·have hT:(⟨#[45]⟩:ByteArray)++x=T:=by
    rw[<-HT.out,<-HX.out];unfold gD;rw[if_pos rfl,if_pos (HY1.out.1 h1),List.append_nil];exact fo [45] _
   have Da:=zH hT;clear hT;go_wp2_with fail;go_ret
   exact⟨congrArg (λt=>Ending.returned (.string t)) Da.out,B5.out⟩
  ·have eM:(y.toList==[49])=false:=nY h1;have hT:(⟨#[45]⟩:ByteArray)++x++(⟨#[47]⟩++y)=T:=by
    rw[<-HT.out,<-HX.out,<-HY.out];unfold gD;rw[if_pos rfl,if_neg (λe=>h1 (HY1.out.2 e))];exact(congr (congrArg HAppend.hAppend (fo [45] _)) (fo [47] _)).trans (fo _ _)
   have Da:=zH hT;clear hT h1;have ao1:((⟨#[45]⟩:ByteArray)++x).size<=1000000001:=by rw[ByteArray.size_append];show 1+_<=_;omega
   have aoY:((⟨#[47]⟩:ByteArray)++y).size<=1000000001:=by rw[ByteArray.size_append];show 1+_<=_;omega
   go_wp2_with fail;go_ret
   exact⟨congrArg (λt=>Ending.returned (.string t)) Da.out,B5.out⟩
 | false=>
  go_wp2_with fail;refine T6.out.mono ?_;rintro e w5 ⟨rfl,zN⟩;have B5:=zH (ak B4.out zN);clear zN;by_cases h1:y=⟨#[49]⟩
  ·have hT:x=T:=by
    rw[<-HT.out,<-HX.out];unfold gD;rw[if_neg (by simp),if_pos (HY1.out.1 h1),List.append_nil,List.nil_append]
   have Da:=zH hT;clear hT;go_wp2_with fail;go_ret
   exact⟨congrArg (λt=>Ending.returned (.string t)) Da.out,B5.out⟩
  ·have eM:(y.toList==[49])=false:=nY h1;have hT:x++((⟨#[47]⟩:ByteArray)++y)=T:=by
    rw[<-HT.out,<-HX.out,<-HY.out];unfold gD;rw[if_neg (by simp),if_neg (λe=>h1 (HY1.out.2 e)),List.nil_append];exact(congrArg _ (fo [47] _)).trans (fo _ _)
   have Da:=zH hT;clear hT h1;go_wp2_with fail;go_ret
   exact⟨congrArg (λt=>Ending.returned (.string t)) Da.out,B5.out⟩
theorem fP {a b:Bool} (h:a=true↔b=true):Ending.returned (.bool a)=.returned (.bool b):=by rw[Bool.eq_iff_iff.2 h]
theorem xc (c:UInt8) (w:World):Calls Tryz.prog 214 #[.int .u8 (c.toNat:Int)] w (ga w (.bool (fB c))):=by
 have hc:=c.toNat_lt;obtain⟨n,hn⟩:∃n,c.toNat=n:=⟨_,rfl⟩;unfold fB;rw[hn] at hc ⊢;go_enter Tryz.func214,Tryz.ntmps214;go_wp2_with fail
 all_goals
  go_ret
  exact⟨fP (by simp;omega),rfl⟩
theorem BN (c:UInt8) (w:World):Calls Tryz.prog 216 #[.int .u8 (c.toNat:Int)] w (ga w (.bool (digitB c))):=by
 have hc:=c.toNat_lt;obtain⟨n,hn⟩:∃n,c.toNat=n:=⟨_,rfl⟩;unfold digitB;rw[hn] at hc ⊢;go_enter Tryz.func216,Tryz.ntmps216;go_wp2_with fail
 all_goals
  go_ret
  exact⟨fP (by simp;omega),rfl⟩
theorem yv (c:UInt8) (w:World):Calls Tryz.prog 140 #[.int .u8 (c.toNat:Int)] w (ga w (.bool (jt c))):=by
 have hc:=c.toNat_lt;obtain⟨n,hn⟩:∃n,c.toNat=n:=⟨_,rfl⟩;unfold jt;rw[hn] at hc ⊢;go_enter Tryz.func140,Tryz.ntmps140;go_wp2_with fail
 all_goals
  go_ret
  exact⟨fP (by simp;omega),rfl⟩
theorem Vd (c:UInt8):(c==45)=decide (c.toNat=45):=by
 rw[Bool.eq_iff_iff,beq_iff_eq,decide_eq_true_iff];exact⟨λh=>by rw[h];rfl,λh=>UInt8.toNat_inj.1 (by rw[h];rfl)⟩
theorem xo (c:UInt8) (w:World):Calls Tryz.prog 215 #[.int .u8 (c.toNat:Int)] w (ga w (.bool (gC c))):=by
 have hl:=xc c w;have hd:=BN c w;obtain⟨a,ha⟩:∃a,fB c=a:=⟨_,rfl⟩;obtain⟨b,hb⟩:∃a,digitB c=a:=⟨_,rfl⟩;unfold gC;rw[Vd,ha,hb];rw[ha] at hl;rw[hb] at hd;have hc:=c.toNat_lt;obtain⟨n,hn⟩:∃n,c.toNat=n:=⟨_,rfl⟩;rw[hn] at hc hl hd ⊢;have HL:=zH hl;have HD:=zH hd;clear hl hd ha hb hn;go_enter Tryz.func215,Tryz.ntmps215;go_wp2_with fail;refine HL.out.mono ?_;rintro e w' ⟨rfl,rfl⟩;cases a with
 | true=>
  go_wp2_with fail;go_ret
  exact⟨fP (by simp),rfl⟩
 | false=>
  go_wp2_with fail;refine HD.out.mono ?_;rintro e w' ⟨rfl,rfl⟩;cases b with
  | true=>
   go_wp2_with fail;go_ret
   exact⟨fP (by simp),rfl⟩
  | false=>
   go_wp2_with fail;go_ret
   exact⟨fP (by simp;omega),rfl⟩
theorem ey {p:UInt8->Bool}:∀{l:List UInt8} {n:Nat},(∀i x,i<n->l[i]?=some x->p x=true)->n<=l.length->(n=l.length\/∃x,l[n]?=some x/\p x=false)->(l.takeWhile p).length=n
 | [],n,_,hn,_=>by simp at hn;subst hn;rfl
 | y::l,0,_,_,hx=>by
  rcases hx with hx|⟨x,hx,hp⟩
  ·simp at hx
  ·simp at hx;subst hx;simp[hp]
 | y::l,n+1,h,hn,hx=>by
  have hy:p y=true:=h 0 y (by omega) rfl;simp only[List.length_cons] at hn hx;rw[List.takeWhile_cons,if_pos hy,List.length_cons,ey (n:=n) (λi x hi hx=>h (i+1) x (by omega) (by simpa using hx)) (by omega)];rcases hx with hx|⟨x,hx,hp⟩
  ·exact .inl (by omega)
  ·exact .inr ⟨x,by simpa using hx,hp⟩
theorem str_at {s:ByteArray} {k:Nat} (h:k<s.size):s.data.toList[k]?=some s[k]:=by
 have:k<s.data.toList.length:=by simpa using h
 rw[List.getElem?_eq_getElem this];rfl
theorem cJ (s:ByteArray):s.data.toList.length=s.size:=by simp
theorem Lm (s:ByteArray) (w:World) (hs:s.size<=9223372036854775807):Calls Tryz.prog 178 #[.string s,.func (.func 215) #[] #[]] w (ga w (.int .i64 ((s.data.toList.takeWhile gC).length:Nat))):=by
 obtain⟨z,hz⟩:∃z,(s.data.toList.takeWhile gC).length=z:=⟨_,rfl⟩;rw[hz];have HZ:=zH hz;clear hz;go_enter Tryz.func178,Tryz.ntmps178;go_wp2_with fail;go_loopw [5] (λv wr=>∃n:Nat,v=.int .i64 n/\n<=s.size/\(∀i x,i<n->s.data.toList[i]?=some x->gC x=true)/\wr=w) (λv _=>s.size-(intOf v).toNat)
 case atStart=>exact⟨0,rfl,Nat.zero_le _,λi x hi=>absurd hi (Nat.not_lt_zero _),rfl⟩
 case round=>
  obtain⟨n,rfl,hn,dW,rfl⟩:=hrel;have HA:=zH dW;clear dW;by_cases hlt:n<s.size
  ·have iR:(n:Int)<(s.size:Int):=by omega
   have hx:=str_at hlt;have hw:=xo s[n] wr;obtain⟨x,lP⟩:∃x,s[n]=x:=⟨_,rfl⟩;rw[lP] at hx hw;obtain⟨b,hb⟩:∃b,gC x=b:=⟨_,rfl⟩;rw[hb] at hw;have HX:=zH hx;have HW:=zH hw;have HB:=zH hb;clear hx hw hb;go_wp2_with fail;refine HW.out.mono ?_;rintro e w' ⟨rfl,rfl⟩;cases b with
   | true=>
    go_wp2_with fail;go_roundw
    case rel=>
     refine⟨n+1,by go_num,by omega,λi y hi hy=>?_,trivial⟩;rcases(show i<n\/i=n by omega) with h|h
     ·exact HA.out i y h hy
     ·subst h;rw[HX.out] at hy;injection hy with hy
      rw[<-hy];exact HB.out
    case measure=>simp[intOf];omega
   | false=>
    have oK:z=n:=by rw[<-HZ.out];exact ey HA.out (by rw[cJ];exact hn) (.inr ⟨x,HX.out,HB.out⟩)
    have HN:=zH oK;clear oK;go_wp2_with fail;go_ret
    exact⟨by rw[HN.out];rfl,rfl⟩
  ·have eM:n=s.size:=by omega
   have oK:z=n:=by rw[<-HZ.out];exact ey HA.out (by rw[cJ];exact hn) (.inl (by rw[cJ];exact eM))
   have HN:=zH oK;clear oK eM;go_wp2_with fail;go_ret
   exact⟨by rw[HN.out];rfl,rfl⟩
theorem Ln (s:ByteArray) (w:World) (hs:s.size<=9223372036854775807):Calls Tryz.prog 178 #[.string s,.func (.func 216) #[] #[]] w (ga w (.int .i64 ((s.data.toList.takeWhile digitB).length:Nat))):=by
 obtain⟨z,hz⟩:∃z,(s.data.toList.takeWhile digitB).length=z:=⟨_,rfl⟩;rw[hz];have HZ:=zH hz;clear hz;go_enter Tryz.func178,Tryz.ntmps178;go_wp2_with fail;go_loopw [5] (λv wr=>∃n:Nat,v=.int .i64 n/\n<=s.size/\(∀i x,i<n->s.data.toList[i]?=some x->digitB x=true)/\wr=w) (λv _=>s.size-(intOf v).toNat)
 case atStart=>exact⟨0,rfl,Nat.zero_le _,λi x hi=>absurd hi (Nat.not_lt_zero _),rfl⟩
 case round=>
  obtain⟨n,rfl,hn,dW,rfl⟩:=hrel;have HA:=zH dW;clear dW;by_cases hlt:n<s.size
  ·have iR:(n:Int)<(s.size:Int):=by omega
   have hx:=str_at hlt;have hw:=BN s[n] wr;obtain⟨x,lP⟩:∃x,s[n]=x:=⟨_,rfl⟩;rw[lP] at hx hw;obtain⟨b,hb⟩:∃b,digitB x=b:=⟨_,rfl⟩;rw[hb] at hw;have HX:=zH hx;have HW:=zH hw;have HB:=zH hb;clear hx hw hb;go_wp2_with fail;refine HW.out.mono ?_;rintro e w' ⟨rfl,rfl⟩;cases b with
   | true=>
    go_wp2_with fail;go_roundw
    case rel=>
     refine⟨n+1,by go_num,by omega,λi y hi hy=>?_,trivial⟩;rcases(show i<n\/i=n by omega) with h|h
     ·exact HA.out i y h hy
     ·subst h;rw[HX.out] at hy;injection hy with hy
      rw[<-hy];exact HB.out
    case measure=>simp[intOf];omega
   | false=>
    have oK:z=n:=by rw[<-HZ.out];exact ey HA.out (by rw[cJ];exact hn) (.inr ⟨x,HX.out,HB.out⟩)
    have HN:=zH oK;clear oK;go_wp2_with fail;go_ret
    exact⟨by rw[HN.out];rfl,rfl⟩
  ·have eM:n=s.size:=by omega
   have oK:z=n:=by rw[<-HZ.out];exact ey HA.out (by rw[cJ];exact hn) (.inl (by rw[cJ];exact eM))
   have HN:=zH oK;clear oK eM;go_wp2_with fail;go_ret
   exact⟨by rw[HN.out];rfl,rfl⟩
theorem KG (s:ByteArray) (w:World) (hs:s.size<=9223372036854775807):Calls Tryz.prog 183 #[.string s] w (ga w (.int .i64 (jc s.data.toList:Nat))):=by
 by_cases h:s=⟨#[]⟩
 ·subst h;go_enter Tryz.func183,Tryz.ntmps183;go_wp2_with fail;go_ret
  exact⟨rfl,rfl⟩
 ·have eM:(s.toList==[])=false:=nY (l:=[]) h;have h0:0<s.size:=by
   rcases Nat.eq_zero_or_pos s.size with h0|h0
   ·exact absurd (ByteArray.ext (Array.eq_empty_of_size_eq_zero h0)) h
   ·exact h0
  have Xr:=Lm s w hs;have hl:=xc s[0] w;have hx:=str_at h0;obtain⟨x,lP⟩:∃x,s[0]=x:=⟨_,rfl⟩;rw[lP] at hl hx;obtain⟨b,hb⟩:∃b,fB x=b:=⟨_,rfl⟩;obtain⟨z,hz⟩:∃z,(s.data.toList.takeWhile gC).length=z:=⟨_,rfl⟩;have hw:jc s.data.toList=if b then z else 0:=by
   unfold jc;cases hd:s.data.toList with
   | nil=>rw[hd] at hx;cases hx
   | cons y l=>
    rw[hd] at hx;simp at hx;subst hx;simp only[hb];rw[<-hd,hz]
  rw[hz] at Xr;rw[hb] at hl;have HS:=zH Xr;have HL:=zH hl;rw[hw];clear Xr hl hb hz hw hx h;cases b with
  | true=>
   rw[if_pos rfl];go_enter Tryz.func183,Tryz.ntmps183;go_wp2_with fail;refine HL.out.mono ?_;rintro e w' ⟨rfl,rfl⟩;go_wp2_with fail;refine HS.out.mono ?_;rintro e w' ⟨rfl,rfl⟩;go_wp2_with fail;go_ret
   exact⟨rfl,rfl⟩
  | false=>
   rw[if_neg (by simp)];go_enter Tryz.func183,Tryz.ntmps183;go_wp2_with fail;refine HL.out.mono ?_;rintro e w' ⟨rfl,rfl⟩;go_wp2_with fail;go_ret
   exact⟨rfl,rfl⟩
theorem aaM (p:UInt8->Bool) (l:List UInt8):(l.takeWhile p).length<=l.length:=(List.takeWhile_sublist p).length_le
theorem oi (s:ByteArray) (w:World) (hs:s.size<=9223372036854775807):Calls Tryz.prog 184 #[.string s] w (ga w (.int .i64 (fL s.data.toList:Nat))):=by
 have Xr:=Ln s w hs;have wn:=aaM digitB s.data.toList;rw[cJ] at wn;have ac1:fL s.data.toList=fL s.data.toList:=rfl;unfold fL at ac1;obtain⟨z,hz⟩:∃z,fL s.data.toList=z:=⟨_,rfl⟩;obtain⟨n,hn⟩:∃n,(s.data.toList.takeWhile digitB).length=n:=⟨_,rfl⟩;rw[hn] at Xr wn;have eQ:z=if n=0\/6<n\/(s.data.toList.head?=some 48/\1<n)\/((s.data.toList[n]?.map gC).getD false=true) then 0 else n:=by rw[<-hz];unfold fL;rw[hn]
 rw[hz];have HS:=zH Xr;have HZ:=zH eQ;clear Xr hz hn eQ ac1;go_enter Tryz.func184,Tryz.ntmps184;go_wp2_with fail;refine HS.out.mono ?_;rintro e w' ⟨rfl,rfl⟩;by_cases h0:n=0
 ·have jw:z=0:=by rw[HZ.out,if_pos (.inl h0)]
  have oG:=zH jw;subst h0;clear jw;go_wp2_with fail;go_ret
  exact⟨by rw[oG.out];rfl,rfl⟩
 ·have hb0:((n:Int)==0)=false:=by rw[beq_eq_false_iff_ne];omega
  have No:0<s.size:=by omega
  by_cases h6:6<n
  ·have jw:z=0:=by rw[HZ.out,if_pos (.inr (.inl h6))]
   have oG:=zH jw;have hb6:(6<(n:Int))=True:=eq_true (by omega);clear jw h0;go_wp2_with fail;go_ret
   exact⟨by rw[oG.out];rfl,rfl⟩
  ·have hb6:(6<(n:Int))=False:=eq_false (by omega);have hx:=str_at No;have NH:s.data.toList.head?=some s[0]:=by rw[List.head?_eq_getElem?];exact hx
   obtain⟨x,lP⟩:∃x,s[0]=x:=⟨_,rfl⟩;rw[lP] at hx NH;have Xk:((x.toNat:Int)==48)=decide (x=48):=by
    rw[Bool.eq_iff_iff,beq_iff_eq,decide_eq_true_iff];exact⟨λh=>UInt8.toNat_inj.1 (by
     have:x.toNat=48:=by omega
     rw[this];rfl),λh=>by rw[h];rfl⟩
   have HH:=zH NH;clear hx NH;by_cases h48:x=48/\1<n
   ·have jw:z=0:=by rw[HZ.out,if_pos (.inr (.inr (.inl ⟨by rw[HH.out,h48.1],h48.2⟩)))]
    have oG:=zH jw;rw[decide_eq_true h48.1] at Xk;have bS:(1<(n:Int))=True:=eq_true (by omega);clear jw h0 h6 h48;go_wp2_with fail;go_ret
    exact⟨by rw[oG.out];rfl,rfl⟩
   ·have jx:∀b,(s.data.toList[n]?.map gC).getD false=b->z=if b then 0 else n:=λb hb=>by
     rw[HZ.out];cases b with
     | true=>rw[if_pos (.inr (.inr (.inr hb))),if_pos rfl]
     | false=>
      rw[if_neg,if_neg (by simp)];rintro(h|h|h|h)
      ·exact h0 h
      ·exact h6 h
      ·rw[HH.out] at h;exact h48 ⟨by simpa using h.1,h.2⟩
      ·rw[hb] at h;cases h
    have Vo:=zH jx;have dG:∀(c:Bool),((x.toNat:Int)==48)=c->(c=true->¬1<n):=λc hc h h1=>h48 ⟨by rw[Xk] at hc;simpa[h] using hc,h1⟩;obtain⟨c,hc⟩:∃c,((x.toNat:Int)==48)=c:=⟨_,rfl⟩;have hc1:=dG c hc;clear jx dG Xk h48;by_cases hlt:n<s.size
    ·have iR:((n:Int)<(s.size:Int))=True:=eq_true (by omega);have hy:=str_at hlt;have hiw:=xo s[n] w;obtain⟨y,Nc⟩:∃y,s[n]=y:=⟨_,rfl⟩;rw[Nc] at hy hiw;obtain⟨b,hb⟩:∃b,gC y=b:=⟨_,rfl⟩;rw[hb] at hiw;have gN:=Vo.out b (by rw[hy];simpa using hb);have j1:=zH gN;have HI:=zH hiw;clear hy hiw hb gN;cases c with
     | true=>
      have bS:(1<(n:Int))=False:=eq_false (by have:=hc1 rfl;omega);go_wp2_with fail;refine HI.out.mono ?_;rintro e w' ⟨rfl,rfl⟩;cases b with
      | true=>go_wp2_with fail;go_ret;exact⟨by rw[j1.out];rfl,rfl⟩
      | false=>go_wp2_with fail;go_ret;exact⟨by rw[j1.out];rfl,rfl⟩
     | false=>
      go_wp2_with fail;refine HI.out.mono ?_;rintro e w' ⟨rfl,rfl⟩;cases b with
      | true=>go_wp2_with fail;go_ret;exact⟨by rw[j1.out];rfl,rfl⟩
      | false=>go_wp2_with fail;go_ret;exact⟨by rw[j1.out];rfl,rfl⟩
    ·have iR:((n:Int)<(s.size:Int))=False:=eq_false (by omega);have gN:=Vo.out false (by rw[List.getElem?_eq_none (by rw[cJ];omega)];rfl);have j1:=zH gN;clear gN;cases c with
     | true=>
      have bS:(1<(n:Int))=False:=eq_false (by have:=hc1 rfl;omega);go_wp2_with fail;go_ret
      exact⟨by rw[j1.out];rfl,rfl⟩
     | false=>
      go_wp2_with fail;go_ret
      exact⟨by rw[j1.out];rfl,rfl⟩
theorem Cq {s:ByteArray} {l:List UInt8} (h:s.data.toList=l):s=⟨l.toArray⟩:=by
 apply ByteArray.ext;rw[<-h]
theorem pw (s:ByteArray) (k:Nat):s.extract 0 k=⟨(s.data.toList.take k).toArray⟩:=by
 apply Cq;rw[ByteArray.data_extract];simp
theorem extract_drop (s:ByteArray) (k:Nat):s.extract k s.size=⟨(s.data.toList.drop k).toArray⟩:=by
 apply Cq;rw[ByteArray.data_extract,Array.toList_extract];have:s.size=s.data.toList.length:=by simp
 rw[this];simp[List.extract_eq_take_drop];rw[List.take_of_length_le (by simp)]
theorem Ta (s:ByteArray) (w:World) (hs:s.size<=9223372036854775807):Calls Tryz.prog 229 #[.string s,.string ⟨#[47]⟩] w (vj w (.tuple #[.string ⟨(dn s.data.toList).toArray⟩,.string ⟨(cY s.data.toList).toArray⟩,.bool (ij s.data.toList)])):=by
 have hi:=Tryz.stringslite_Index_one s 47 w;rcases iQ s.data.toList with h|⟨k,hk,h1,h2,h3⟩
 ·rw[h] at hi;obtain⟨c1,c2,c3⟩:=uS h;rw[c1,c2,c3];have Xq:(⟨s.data.toList.toArray⟩:ByteArray)=s:=rfl;rw[Xq];have HI:=zH hi;clear hi h c1 c2 c3 Xq;go_enter Tryz.func229,Tryz.ntmps229;go_wp2_with fail;refine HI.out.mono ?_;rintro e w' ⟨rfl,rfl⟩;go_wp2_with fail
  go_ret3
  exact⟨rfl,0,rfl⟩
 ·rw[hk] at hi;obtain⟨c1,c2,c3⟩:=pD h1 h2;rw[c1,c2,c3,<-pw,<-extract_drop];rw[cJ] at h3;have HI:=zH hi;have mC:(k:Int)<=(s.size:Int):=by omega
  have gr:(k:Int)+1<=(s.size:Int):=by omega
  clear hi hk c1 c2 c3 h1 h2;go_enter Tryz.func229,Tryz.ntmps229;go_wp2_with fail;refine HI.out.mono ?_;rintro e w' ⟨rfl,rfl⟩;go_wp2_with fail;go_quiet (fail)
  go_wp2_with fail
  go_ret3
  exact⟨rfl,_,rfl⟩
theorem OE (s:ByteArray) (w:World) (hs:s.size<=9223372036854775807):Calls Tryz.prog 194 #[.string s,.string ⟨#[47]⟩] w (vj w (.tuple #[.string ⟨(dn s.data.toList).toArray⟩,.string ⟨(cY s.data.toList).toArray⟩,.bool (ij s.data.toList)])):=by
 have h:=Ta s w hs;obtain⟨a,ha⟩:∃a:ByteArray,⟨(dn s.data.toList).toArray⟩=a:=⟨_,rfl⟩;obtain⟨b,hb⟩:∃a:ByteArray,⟨(cY s.data.toList).toArray⟩=a:=⟨_,rfl⟩;obtain⟨c,hc⟩:∃a,ij s.data.toList=a:=⟨_,rfl⟩;rw[ha,hb,hc] at h ⊢;have H:=zH h;clear h ha hb hc;go_enter Tryz.func194,Tryz.ntmps194;go_wp2_with fail;refine H.out.mono ?_;rintro e w' ⟨rfl,n,rfl⟩;go_wp2_with fail
 go_ret3
 exact⟨rfl,n,rfl⟩
theorem JQ (s:ByteArray):(⟨(dn s.data.toList).toArray⟩:ByteArray).size<=s.size:=by
 show(dn s.data.toList).toArray.size<=_;rw[List.size_toArray,<-cJ];exact(List.takeWhile_sublist _).length_le
theorem JP (s:ByteArray):(⟨(cY s.data.toList).toArray⟩:ByteArray).size<=s.size:=by
 show(cY s.data.toList).toArray.size<=_;rw[List.size_toArray,<-cJ];have h:=(List.dropWhile_sublist (l:=s.data.toList) (· !=47)).length_le;unfold cY;rw[List.length_drop];omega
theorem He (s:ByteArray) (w:World) (hs:s.size<=9223372036854775807):Calls Tryz.prog 143 #[.string s] w (iT w (.bool (gH s.data.toList))):=by
 by_cases h:s=⟨#[]⟩
 ·subst h;go_enter Tryz.func143,Tryz.ntmps143;go_wp2_with fail;go_ret
  exact⟨rfl,Below.refl _ _⟩
 ·have eM:(s.toList==[])=false:=nY (l:=[]) h;have hl0:s.data.toList≠[]:=λe=>h (Cq e);have hw:=KG s w hs;have hn:=oi s w hs;have hcut:=OE s w hs;obtain⟨x,hx⟩:∃x,jc s.data.toList=x:=⟨_,rfl⟩;obtain⟨y,hy⟩:∃x,fL s.data.toList=x:=⟨_,rfl⟩;obtain⟨z,hz⟩:∃z,gH s.data.toList=z:=⟨_,rfl⟩;have eQ:=hz;unfold gH at eQ;rw[if_neg hl0,hx,hy,cJ] at eQ;rw[hx] at hw;rw[hy] at hn;rw[hz];have HW:=zH hw;have HN:=zH hn;have HZ:=zH eQ;clear hw hn hx hy hz hl0 eQ;go_enter Tryz.func143,Tryz.ntmps143;go_wp2_with fail;refine HW.out.mono ?_;rintro e w' ⟨rfl,rfl⟩;by_cases h1:x=s.size
  ·have bS:((x:Int)==(s.size:Int))=true:=by rw[beq_iff_eq];omega
   have eL:z=true:=by rw[<-HZ.out,if_pos (.inl h1)]
   have jm:=zH eL;clear h1 eL;go_wp2_with fail;go_ret
   exact⟨by rw[jm.out];rfl,Below.refl _ _⟩
  ·have bS:((x:Int)==(s.size:Int))=false:=by rw[beq_eq_false_iff_ne];omega
   go_wp2_with fail;refine HN.out.mono ?_;rintro e w' ⟨rfl,rfl⟩;by_cases h2:y=s.size
   ·have bH:((y:Int)==(s.size:Int))=true:=by rw[beq_iff_eq];omega
    have eL:z=true:=by rw[<-HZ.out,if_pos (.inr h2)]
    have jm:=zH eL;clear h2 h1 eL;go_wp2_with fail;go_ret
    exact⟨by rw[jm.out];rfl,Below.refl _ _⟩
   ·have bH:((y:Int)==(s.size:Int))=false:=by rw[beq_eq_false_iff_ne];omega
    have eL:=HZ.out;rw[if_neg (λh=>h.elim h1 h2)] at eL;have ha:=JQ s;have hb:=JP s;have PV:=λw=>oi ⟨(dn s.data.toList).toArray⟩ w (Nat.le_trans ha hs);have Km:=λw=>oi ⟨(cY s.data.toList).toArray⟩ w (Nat.le_trans hb hs);obtain⟨a,UQ⟩:∃a:ByteArray,⟨(dn s.data.toList).toArray⟩=a:=⟨_,rfl⟩;obtain⟨b,heb⟩:∃a:ByteArray,⟨(cY s.data.toList).toArray⟩=a:=⟨_,rfl⟩;obtain⟨c,hec⟩:∃a,ij s.data.toList=a:=⟨_,rfl⟩;have gO:dn s.data.toList=a.data.toList:=by rw[<-UQ]
    have jT:cY s.data.toList=b.data.toList:=by rw[<-heb]
    rw[UQ,heb,hec] at hcut;rw[UQ] at PV ha;rw[heb] at Km hb;rw[gO,jT,hec] at eL;obtain⟨na,XT⟩:∃n,fL a.data.toList=n:=⟨_,rfl⟩;obtain⟨nb,XS⟩:∃n,fL b.data.toList=n:=⟨_,rfl⟩;rw[XT,XS,cJ,cJ] at eL;rw[XT] at PV;rw[XS] at Km;have akP:=zH hcut;have HNA:=zH PV;have Vn:=zH Km;have jm:=zH eL;clear h1 h2 eL UQ heb hec gO jT XT XS hcut PV Km;go_wp2_with fail;refine akP.out.mono ?_;rintro e w2 ⟨rfl,m,rfl⟩;cases c with
    | false=>
     have aW:z=false:=by rw[<-jm.out];rfl
     have db:=zH aW;clear aW;go_wp2_with fail;go_ret
     exact⟨by rw[db.out];rfl,below_drewN (Below.refl _ _) m⟩
    | true=>
     by_cases h3:a=⟨#[]⟩
     ·have aW:z=false:=by rw[<-jm.out,h3];rfl
      have db:=zH aW;clear aW;subst h3;go_wp2_with fail;go_ret
      exact⟨by rw[db.out];rfl,below_drewN (Below.refl _ _) m⟩
     ·have apV:(a.toList==[])=false:=nY (l:=[]) h3;have ha4:a.data.toList≠[]:=λe=>h3 (Cq e);by_cases h4:b=⟨#[]⟩
      ·have aW:z=false:=by rw[<-jm.out,h4];simp
       have db:=zH aW;clear aW h3 ha4;subst h4;go_wp2_with fail;go_ret
       exact⟨by rw[db.out];rfl,below_drewN (Below.refl _ _) m⟩
      ·have apU:(b.toList==[])=false:=nY (l:=[]) h4;have iY:b.data.toList≠[]:=λe=>h4 (Cq e);have gN:=jm.out;rw[decide_eq_true ha4,decide_eq_true iY] at gN;have j1:=zH gN;clear gN h3 h4 ha4 iY;go_wp2_with fail;refine(HNA.out _).mono ?_;rintro e w' ⟨rfl,rfl⟩;by_cases h5:na=a.size
       ·have zN:((na:Int)==(a.size:Int))=true:=by rw[beq_iff_eq];omega
        go_wp2_with fail;refine(Vn.out _).mono ?_;rintro e w' ⟨rfl,rfl⟩;have aW:z=((nb:Int)==(b.size:Int)):=by
         rw[<-j1.out,decide_eq_true h5];rw[Bool.eq_iff_iff];simp;omega
        have db:=zH aW;clear aW h5;go_wp2_with fail;go_ret
        exact⟨by rw[db.out];rfl,below_drewN (Below.refl _ _) m⟩
       ·have zN:((na:Int)==(a.size:Int))=false:=by rw[beq_eq_false_iff_ne];omega
        have aW:z=false:=by rw[<-j1.out,decide_eq_false h5];simp
        have db:=zH aW;clear aW h5;go_wp2_with fail;go_ret
        exact⟨by rw[db.out];rfl,below_drewN (Below.refl _ _) m⟩
def wu (c:UInt8):List UInt8:=if c.toNat=34\/c.toNat=92 then[92,c] else[c]
def px (l:List UInt8):List UInt8:=l.flatMap wu
def yt (l:List UInt8):List UInt8:=34::px l++[34]
theorem Jz (l:List UInt8) (c:UInt8):px (l++[c])=px l++wu c:=by simp[px]
theorem On (l:List UInt8):(px l).length<=2*l.length:=by
 induction l with
 | nil=>simp[px]
 | cons x l ih=>
  have:px (x::l)=wu x++px l:=rfl;rw[this,List.length_append,List.length_cons];have:(wu x).length<=2:=by unfold wu;split<;>simp
  omega
theorem oP {l:List UInt8} {k:Nat} {x:UInt8} (h:l[k]?=some x):l.take (k+1)=l.take k++[x]:=by rw[List.take_add_one,h];rfl
theorem Cy {p:UInt8->Bool} {l:List UInt8} {k:Nat} {x:UInt8} (h:l[k]?=some x):(l.take (k+1)).all p=((l.take k).all p&&p x):=by rw[oP h];simp
theorem zu {p:UInt8->Bool} {l:List UInt8} {k:Nat} {x:UInt8} (h:l[k]?=some x) (hp:p x=false):l.all p=false:=by
 rw[List.all_eq_false];exact⟨x,List.mem_of_getElem? h,by simp[hp]⟩
theorem Own.lit {α:Type} [ay α] (w:World) (e:TypeId) (vs:List Value) (xs:List α) (hl:vs.length=xs.length) (h1:ay.sz α=1) (hx:xs.length<=maxLen) (hf:Flat (w.alloc (.cells vs.toArray e)) bb vs xs) : Own (w.alloc (.cells vs.toArray e)) bb w.heap.size e (.slice (some ⟨w.heap.size,0,none⟩) xs.length xs.length) xs:=
 ⟨vs,⟨by rw[h1,Nat.mul_one];exact hl,.inr ⟨w.heap.size,xs.length,vs.toArray,rfl,Nat.le_refl _,heap_alloc_new _ _,Nat.le_refl _,hx,by rw[h1,Nat.mul_one];simpa using hl,by rw[h1,Nat.mul_one,<-hl];simp⟩⟩,hf,λ_ h=>h.elim⟩
theorem LR (s:ByteArray) (w:World) (hs:s.size<=17592186044416):Calls Tryz.prog 101 #[.string s] w (iT w (.tuple #[.string (if eW s.data.toList then⟨(yt s.data.toList).toArray⟩ else⟨#[]⟩),.bool (eW s.data.toList)])):=by
 obtain⟨l,hl⟩:∃l,s.data.toList=l:=⟨_,rfl⟩;have PY:l.length=s.size:=by rw[<-hl];exact cJ s
 have km:∀k (h:k<s.size),l[k]?=some s[k]:=λk h=>by rw[<-hl];exact str_at h
 rw[hl];obtain⟨b,hb⟩:∃b,eW l=b:=⟨_,rfl⟩;obtain⟨t,ht⟩:∃t:ByteArray,(if b then⟨(yt l).toArray⟩ else⟨#[]⟩)=t:=⟨_,rfl⟩;rw[hb,ht];have HAT:=zH km;have HLL:=zH PY;have HB:=zH hb;have HT:=zH ht;clear hl PY km hb ht;go_enter Tryz.func101,Tryz.ntmps101;go_wp2_with fail;go_loopw [4,9] (λvo iv wr=>∃k:Nat,iv=.int .i64 k/\k<=s.size/\(l.take k).all jt=true/\Own wr bb w.heap.size 5 vo (34::px (l.take k))/\Below w.heap.size w wr) (λ_ iv _=>s.size-(intOf iv).toNat)
 case atStart=>
  exact⟨0,rfl,Nat.zero_le _,rfl,Own.lit w 5 [.int .u8 34] [34] rfl rfl (by decide) (Flat.bytes [34]),(Below.refl _ _).alloc (Nat.le_refl _) _⟩
 case round=>
  obtain⟨k,rfl,hk,dW,ho,vJ⟩:=hrel;obtain⟨Ao,no,co,rfl,Jm⟩:=ho.slice;have bm:(34::px (l.take k)).length<=2*k+1:=by
   have:=On (l.take k);rw[List.length_take] at this;rw[List.length_cons];omega
  have ael:=zH dW;have HO:=zH ho;have Px:=zH vJ;have kQ:=zH bm;clear dW ho vJ Jm bm;by_cases hlt:k<s.size
  ·have iR:(k:Int)<(s.size:Int):=by omega
   have hx:=HAT.out k hlt;have hp:=yv s[k] wr;obtain⟨x,lP⟩:∃x,s[k]=x:=⟨_,rfl⟩;rw[lP] at hx hp;obtain⟨c,hc⟩:∃c,jt x=c:=⟨_,rfl⟩;rw[hc] at hp;have HX:=zH hx;have HP:=zH hp;have HC:=zH hc;clear hx hp hc;go_wp2_with fail;refine HP.out.mono ?_;rintro e w' ⟨rfl,rfl⟩;cases c with
   | false=>
    have N4:b=false:=by rw[<-HB.out];exact zu HX.out HC.out
    have HBF:=zH N4;have htf:t=⟨#[]⟩:=by rw[<-HT.out,N4];rfl
    have HTF:=zH htf;clear N4 htf;go_wp2_with fail;go_ret2
    exact⟨by rw[HBF.out,HTF.out];rfl,Px.out⟩
   | true=>
    obtain⟨n,hn⟩:∃n,x.toNat=n:=⟨_,rfl⟩;have hxn:n<256:=by rw[<-hn];exact x.toNat_lt
    have acm:(l.take (k+1)).all jt=true:=by rw[Cy HX.out,ael.out,HC.out];rfl
    have Zv:=zH acm;have Z8:34::px (l.take (k+1))=(34::px (l.take k))++wu x:=by rw[oP HX.out,Jz];rfl
    clear acm;by_cases hq:n=34\/n=92
    ·have he:wu x=[92,x]:=by unfold wu;rw[hn,if_pos hq]
     rw[he] at Z8;have HES:=zH Z8;have HN:=zH hn;clear he Z8;have Zw:Hid ([Value.int .u8 (n:Int)]=[Value.int .u8 (x.toNat:Int)]):=zH (by rw[HN.out]);rcases hq with rfl|rfl
     ·go_wp2_with (first | (at_builtin; refine cI (α:=UInt8) (w0:=w) (B:=w.heap.size) (base:=w.heap.size) rfl _ _ 61 rfl 1 Tryz.bytesTy rfl HO.out Px.out (Nat.le_refl _) Px.out.size [.int .u8 92] 92 1 rfl rfl 5 (by simp[Value.oneCell']) (by have:=kQ.out;omega) ?_; intro v4 w4 hown4 iY hg4 hl4; obtain⟨A4,n4,c4,rfl,hn4⟩:=hown4.slice; have CI:=zH hown4; have vz:=zH iY; clear hown4 iY hg4 hl4 hn4) | (at_builtin; refine cI (α:=UInt8) (w0:=w) (B:=w.heap.size) (base:=w.heap.size) rfl _ _ 61 rfl 1 Tryz.bytesTy rfl CI.out vz.out (Nat.le_refl _) vz.out.size [.int .u8 34] x 1 rfl Zw.out 5 (by simp[Value.oneCell']) (by have:=kQ.out;rw[List.length_append];simp only[List.length_singleton];omega) ?_; intro v5 w5 hown4 iY hg4 hl4; obtain⟨A5,n5,c5,rfl,hn4⟩:=hown4.slice; have Ku:=zH hown4; have Hs:=zH iY; clear hown4 iY hg4 hl4 hn4));go_roundw
      case rel=>exact⟨k+1,by go_num,by omega,Zv.out,by rw[HES.out];simpa using Ku.out,Hs.out⟩
      case measure=>simp[intOf];omega
     ·go_wp2_with (first | (at_builtin; refine cI (α:=UInt8) (w0:=w) (B:=w.heap.size) (base:=w.heap.size) rfl _ _ 61 rfl 1 Tryz.bytesTy rfl HO.out Px.out (Nat.le_refl _) Px.out.size [.int .u8 92] 92 1 rfl rfl 5 (by simp[Value.oneCell']) (by have:=kQ.out;omega) ?_; intro v4 w4 hown4 iY hg4 hl4; obtain⟨A4,n4,c4,rfl,hn4⟩:=hown4.slice; have CI:=zH hown4; have vz:=zH iY; clear hown4 iY hg4 hl4 hn4) | (at_builtin; refine cI (α:=UInt8) (w0:=w) (B:=w.heap.size) (base:=w.heap.size) rfl _ _ 61 rfl 1 Tryz.bytesTy rfl CI.out vz.out (Nat.le_refl _) vz.out.size [.int .u8 92] x 1 rfl Zw.out 5 (by simp[Value.oneCell']) (by have:=kQ.out;rw[List.length_append];simp only[List.length_singleton];omega) ?_; intro v5 w5 hown4 iY hg4 hl4; obtain⟨A5,n5,c5,rfl,hn4⟩:=hown4.slice; have Ku:=zH hown4; have Hs:=zH iY; clear hown4 iY hg4 hl4 hn4));go_roundw
      case rel=>exact⟨k+1,by go_num,by omega,Zv.out,by rw[HES.out];simpa using Ku.out,Hs.out⟩
      case measure=>simp[intOf];omega
    ·have he:wu x=[x]:=by unfold wu;rw[hn,if_neg hq]
     rw[he] at Z8;have HES:=zH Z8;have HN:=zH hn;have Zw:Hid ([Value.int .u8 (n:Int)]=[Value.int .u8 (x.toNat:Int)]):=zH (by rw[HN.out]);have PU:((n:Int)==34)=false:=by rw[beq_eq_false_iff_ne];omega
     have GA:((n:Int)==92)=false:=by rw[beq_eq_false_iff_ne];omega
     clear he Z8 hq;go_wp2_with (first | (at_builtin; refine cI (α:=UInt8) (w0:=w) (B:=w.heap.size) (base:=w.heap.size) rfl _ _ 61 rfl 1 Tryz.bytesTy rfl HO.out Px.out (Nat.le_refl _) Px.out.size [.int .u8 (n:Int)] x 1 rfl Zw.out 5 (by simp[Value.oneCell']) (by have:=kQ.out;omega) ?_; intro v5 w5 hown4 iY hg4 hl4; obtain⟨A5,n5,c5,rfl,hn4⟩:=hown4.slice; have Ku:=zH hown4; have Hs:=zH iY; clear hown4 iY hg4 hl4 hn4));go_roundw
     case rel=>exact⟨k+1,by go_num,by omega,Zv.out,by rw[HES.out];exact Ku.out,Hs.out⟩
     case measure=>simp[intOf];omega
  ·have hke:k=s.size:=by omega
   have hbt:b=true:=by
    have h1:=ael.out;rw[hke,List.take_of_length_le (by rw[HLL.out];exact Nat.le_refl _)] at h1;rw[<-HB.out];exact h1
   have PQ:t=⟨(yt l).toArray⟩:=by rw[<-HT.out,hbt];rfl
   have wl:34::px (l.take k)=34::px l:=by rw[hke,List.take_of_length_le (by rw[HLL.out];exact Nat.le_refl _)]
   have HBT:=zH hbt;have Da:=zH PQ;have Zz:=zH wl;clear hke hbt PQ wl;go_wp2_with (first | (at_builtin; refine cI (α:=UInt8) (w0:=w) (B:=w.heap.size) (base:=w.heap.size) rfl _ _ 61 rfl 1 Tryz.bytesTy rfl HO.out Px.out (Nat.le_refl _) Px.out.size [.int .u8 34] 34 1 rfl rfl 5 (by simp[Value.oneCell']) (by have:=kQ.out;omega) ?_; intro v5 w5 hown4 iY hg4 hl4; obtain⟨A5,n5,c5,rfl,hn4⟩:=hown4.slice; have Ku:=zH hown4; have Hs:=zH iY; have P1:=yc hown4.rs8; rw[Zz.out] at P1; have apX:(convert 61 9 (.slice A5 n5 c5)).run Tryz.prog w5=.ok (.string t) w5:=(by rw[P1,Da.out];rfl); clear hown4 iY hg4 hl4 hn4 P1));go_ret2
   exact⟨by rw[HBT.out];rfl,Hs.out⟩
end Go.Proofs.YtdbpbfglhbiadaaGreatDoor
