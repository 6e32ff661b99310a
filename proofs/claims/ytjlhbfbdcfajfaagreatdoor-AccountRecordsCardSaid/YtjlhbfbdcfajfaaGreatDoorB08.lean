/- Nat10 Nat11 NatT Sl -/
import Derived.Test.YtjlhbfbdcfajfaaGreatDoorB06
import Derived.Test.YtjlhbfbdcfajfaaGreatDoorB07
import Derived.Deep.LoopGhost
import Derived.Lib.TrimByte
import Derived.Test.YtjlhbfbdcfajfaaGreatDoorChecked
import Derived.Test.YtjlhbfbdcfajfaaGreatDoorB02
import Derived.Test.YtjlhbfbdcfajfaaGreatDoorB03
namespace Go.Proofs.YtjlhbfbdcfajfaaGreatDoor
open Go.RowKit
def aeY (w:World) (X V:Nat) (en:Ending) (w':World):Prop:=
 ∃vq vr,en=.returned (.tuple #[vq,vr,.bool (decide (V≠0))])∧Own w' aA w.heap.size 98 vq (fC (if V=0 then 0 else X/V))∧Own w' aA w.heap.size 98 vr (fC (if V=0 then 0 else X%V))∧Below w.heap.size w w'
theorem RS.nil_of' {α:Type} [bG α] {w:World} {S:Nat→Prop} {A:Option Addr} {c:Nat} {xs:List α} (h:RS w S A 0 c xs):xs=[]:=List.length_eq_zero_iff.1 h.len
theorem Own.shape {w:World} {base:Nat} {e:TypeId} {v:Value} {xs:List (BitVec 32)} (h:Own w aA base e v xs) (hx:0<xs.length):∃g c,v=.slice (some ⟨g,0,none⟩) xs.length c∧base≤g∧g<w.heap.size:=by
 obtain⟨A,n,c,rfl,rfl⟩:=h.slice;obtain⟨g,u,rfl,hg,hg2,_⟩:=h.get1 rfl (List.getElem?_eq_getElem hx);exact⟨g,c,rfl,hg,hg2⟩
theorem MX {a b:Value} {x y:Bool} (h:x=y):Ending.returned (.tuple #[a,b,.bool x])=.returned (.tuple #[a,b,.bool y]):=by rw[h]
theorem Tj {l:List (BitVec 32)} {n:Nat} (h:(eO l).length=n) (hn:0<n):val l≠0:=by
 intro h0;rw[Il h0] at h;simp at h;omega
set_option maxRecDepth 20000 in
set_option maxHeartbeats 2000000 in
theorem Oi {S S2:Nat→Prop} {A A2:Option Addr} {n c n2 c2:Nat} {xs ys:List (BitVec 32)} {w:World} (h:RS w S A n c xs) (h2:RS w S2 A2 n2 c2 ys) (hS:∀b,S b→b<w.heap.size) (eF:∀b,S2 b→b<w.heap.size) (hn:n≤536870912) (hn2:n2≤536870912) : Calls Tryz.prog 136 #[.slice A n c,.slice A2 n2 c2] w (aeY w (val xs) (val ys)):=by
 have H:=zH h;have H2:=zH h2;have HL:=zH h.len;have ua:=zH h2.len;have hvx:=jl xs;have hvy:=jl ys;clear h h2;obtain⟨X,hX⟩:∃X,val xs=X:=⟨_,rfl⟩;obtain⟨V,hV⟩:∃V,val ys=V:=⟨_,rfl⟩;have dT:=fH xs;have qB:=fH ys;rw[hX] at hvx dT;rw[hV] at hvy qB;rw[hX,hV];clear hX hV;obtain⟨la,adn⟩:∃l,eO xs=l:=⟨_,rfl⟩;obtain⟨lb,adl⟩:∃l,eO ys=l:=⟨_,rfl⟩;rw[adn] at hvx dT;rw[adl] at hvy qB;have Fu:=zH hvx;have Ft:=zH hvy;have C6:=zH dT;have HLB:=zH qB;have HTA:=zH adn;have Ba:=zH adl;clear hvx hvy dT qB adn adl;go_enter Tryz.func136,Tryz.ntmps136;go_wp2_with fail;refine(js H.out).mono ?_;rintro e w' ⟨A3,n3,c3,rfl,hr,rfl⟩;have hl3:n3≤536870912:=by have:=ej xs;have:=hr.len;have:=HL.out;omega
 have HR:=zH hr;clear hr;go_wp2_with fail;refine(js H2.out).mono ?_;rintro e w' ⟨A4,n4,c4,rfl,hr,rfl⟩;have hl4:n4≤536870912:=by have:=ej ys;have:=hr.len;have:=ua.out;omega
 have px:=zH hr;clear hr;rw[HTA.out] at HR;rw[Ba.out] at px;have vt:=zH HR.out.len;have Ic:=zH px.out.len;clear H H2 HL ua;rcases Nat.eq_zero_or_pos n4 with h0|h0
 ·subst h0;have hV0:V=0:=by rw[←Ft.out,RS.nil_of' px.out];rfl
  have PF:=zH hV0;clear hV0;go_wp2_with fail
  go_ret3
  refine⟨_,_,MX (decide_eq_false (fun h=>h PF.out)).symm,?_,?_,Below.refl _ _⟩<;>rw[if_pos PF.out,fD]<;>exact Own.nil _ _ _
 ·have hV0:V≠0:=by
   intro h;have h1:=HLB.out;rw[h,fD] at h1;have:=Ic.out;rw[←h1] at this;simp at this;omega
  have PF:=zH hV0;have hb0:((n4:Int)==0)=false:=by rw[beq_eq_false_iff_ne];omega
  clear hV0;go_wp2_with fail;refine(On HR.out px.out).mono ?_;rintro e w' ⟨rfl,mm,rfl⟩;have HR':=zH (HR.out.drewN mm);have ZC:=zH (px.out.drewN mm);obtain⟨wd,yH⟩:∃x,w.drewN mm=x:=⟨_,rfl⟩;have HB:=zH (show Below w.heap.size w wd by rw[←yH];exact below_drewN (Below.refl _ _) mm);have HWS:=zH (show wd.heap.size=w.heap.size by rw[←yH];rfl);rw[yH] at HR' ZC;rw[yH,Fu.out,Ft.out];clear yH HR px;rcases Nat.lt_or_ge X V with hc|hc
  ·rw[rz hc];have hq:X/V=0:=Nat.div_eq_of_lt hc;have hr:X%V=X:=Nat.mod_eq_of_lt hc;have HQ:=zH hq;have kU:=zH hr;clear hq hr hc;go_wp2_with fail;refine(Hr HR'.out (by omega)).mono ?_;rintro e w2 ⟨v,rfl,ho,hb⟩;rw[HWS.out] at ho;have HO:=zH ho;have bX:=zH (ae HB.out (show Below wd.heap.size wd w2 from hb));clear ho hb;go_wp2_with fail
   go_ret3
   refine⟨_,_,MX (decide_eq_true PF.out).symm,?_,?_,bX.out⟩
   ·rw[if_neg PF.out,HQ.out,fD];exact Own.nil _ _ _
   ·rw[if_neg PF.out,kU.out,C6.out];exact HO.out
  ·have sC:decide (oo X V<0)=false:=by
    rcases Nat.lt_or_ge V X with h|h
    ·rw[rD h];rfl
    ·rw[Nat.le_antisymm h hc,zj];rfl
   have HC:=zH hc;obtain⟨cc,adR⟩:∃cc,oo X V=cc:=⟨_,rfl⟩;rw[adR] at sC;rw[adR];have hcf:(cc<0)=False:=by simpa using sC
   clear hc adR;by_cases h1:n4=1
   ·subst h1;obtain⟨b,o,y,rfl,_,hy,e1⟩:=ZC.out.limb_at (k:=0) (by omega);rw[Nat.add_zero] at e1;have hyV:y.toNat=V:=by
     have hs:=Ft.out;have hl:=Ic.out
     match lb,hl,hy with
     | [z],_,hy=>
      simp at hy;subst hy;simpa[val] using hs
    have Ma:=y.isLt;have hyw:IntKind.u64.wrap (y.toNat:Int)=(y.toNat:Int):=by rw[IntKind.wrap_u64];omega
    obtain⟨yn,hyn⟩:∃yn,y.toNat=yn:=⟨_,rfl⟩;rw[hyn] at hyV Ma hyw e1;subst hyV;clear hyn hy;go_wp2_with fail;refine(Gy yn HR'.out (fun b hb=>by rw[HWS.out];exact hS b hb) (by omega) (by have:=PF.out;omega) Ma).mono ?_;rintro e w2 ⟨s,qs,rfl,ho,hq,Ea,hb⟩;rw[Fu.out];rw[Fu.out] at hq;obtain⟨As,ns,cs,rfl,Yt⟩:=ho.slice;have HO:=zH ho;have bX:=zH (ae HB.out (show Below wd.heap.size wd w2 from hb));have HQ:=zH hq;have hnl:ns≤1073741824:=by omega
    have CN:X%yn<18446744073709551616:=by have:=Nat.mod_lt X (show 0<yn by have:=PF.out;omega);omega
    clear ho hb hq Ea Yt;go_wp2_with fail;refine(pX HO.out.rsAll (by omega)).mono ?_;rintro e w3 ⟨v3,rfl,dl,ey⟩;rw[HQ.out] at dl;have fN:=zH dl;have iT:=zH (ae bX.out ey);clear dl ey;go_wp2_with fail;refine(Iw (X%yn) w3 CN).mono ?_;rintro e w4 ⟨v4,rfl,Sp,fa⟩;have qL:=zH (Sp.base_le (Nat.le_trans iT.out.size (Nat.le_refl _)));have lH:=zH (ae iT.out fa);have zw:=zH ((fN.out.below fa).base_le (Nat.le_trans bX.out.size (Nat.le_refl _)));clear Sp fa;go_wp2_with fail
    go_ret3
    refine⟨_,_,MX (decide_eq_true PF.out).symm,?_,?_,lH.out⟩
    ·rw[if_neg PF.out];exact zw.out
    ·rw[if_neg PF.out];exact qL.out
   ·have bd:((n4:Int)==1)=false:=by rw[beq_eq_false_iff_ne];omega
    obtain⟨k,hk⟩:∃k,n4=k+1:=⟨n4-1,by omega⟩;subst hk;obtain⟨b,o,y,rfl,_,hy,e1⟩:=ZC.out.limb_at (k:=k) (by omega);obtain⟨t,ht⟩:∃t,y.toNat=t:=⟨_,rfl⟩;have Pj:t<4294967296:=by rw[←ht];exact y.isLt
    have Xa:0<t:=by
     rcases Nat.eq_zero_or_pos t with h|h
     ·exfalso
      have sx:lb.getLast?=some y:=by rw[List.getLast?_eq_getElem?,Ic.out];simpa using hy
      have arA:eO lb=lb:=by rw[←HLB.out,Gu]
      rw[←arA] at sx;exact Dd sx (tQ.2 (by omega))
     ·exact h
    have Co:(lb.getD k 0#32).toNat=t:=by rw[List.getD_eq_getElem?_getD,hy];exact ht
    rw[ht] at e1;obtain⟨z1,z2,z3,z4⟩:=O8 Xa Pj;obtain⟨sh,Xb⟩:∃sh,32-Lib.bitLen t=sh:=⟨_,rfl⟩;rw[Xb] at z3 z4;have aiu:32-(Lib.bitLen t:Int)=(sh:Int):=by omega
    have acR:sh<32:=by omega
    obtain⟨w1,w2,w3⟩:=Rf (s:=sh) Ic.out Ft.out Co z3 z4;have KZ:(k:Int)+1-1=(k:Int):=by omega
    have UR:k<n3:=by
     rcases Nat.lt_or_ge k n3 with h|h
     ·exact h
     ·exfalso
      have a1:=kt HC.out;rw[C6.out,HLB.out,vt.out,Ic.out] at a1;omega
    have W1:=zH w1;have W2:=zH w2;have W3:=zH w3;have au5:=zH aiu;clear hy ht Co z1 z2 z3 z4 Xb w1 w2 w3 aiu;have HLZ:Hid (Calls Tryz.prog 162 #[.int .u32 (t:Int)] wd (gq wd (.int .i64 (sh:Int)))):=zH (by
     refine(Tryz.bits_LeadingZeros32 (t:Int) wd (by omega) (by omega)).mono fun e w' h=>⟨?_,h.2.symm⟩;rw[h.1,Int.toNat_natCast,au5.out])
    go_wp2_with fail;refine HLZ.out.mono ?_;rintro e w' ⟨rfl,rfl⟩;go_wp2_with fail;refine(Pb sh HR'.out (fun b hb=>by rw[HWS.out];exact hS b hb) (by omega) acR).mono ?_;rintro e w1 ⟨vu,us,rfl,QD,huv,W7,bd⟩;rw[Fu.out] at huv;obtain⟨gu,cu,rfl,hg1,hg2⟩:=QD.shape (by omega);rw[W7] at QD;have EX:=zH QD;have HUV:=zH huv;have HUL:=zH W7;have bS:=zH (ae HB.out bd);have HRW:=zH (ZC.out.below bd (fun b hb=>by rw[HWS.out];exact eF b hb));clear QD huv bd;rw[W7];go_wp2_with fail;have jF:w.heap.size≤w1.heap.size:=bS.out.size;refine(Pb sh HRW.out (fun b hb=>Nat.lt_of_lt_of_le (eF b hb) jF) (by omega) acR).mono ?_;rintro e w2 ⟨vv,vs,rfl,QC,hvv,Qy,bY⟩;rw[Ft.out] at hvv;obtain⟨Av,nv,cv,rfl,hnv⟩:=QC.slice;rw[Qy] at hnv;subst hnv;have HRV:=zH (QC.rs (S':=fun b=>w1.heap.size≤b∧b<w2.heap.size) (fun _ h=>h.elim) (fun _ h1 h2=>⟨h1,h2⟩));have HVV:=zH hvv;have bX:=zH (ae bS.out bY);have Wv:=zH (EX.out.below bY);have kq:=zH bY;clear QC hvv bY EX;go_wp2_with fail;refine(js HRV.out).mono ?_;rintro e w' ⟨A5,n5,c5,rfl,KW,rfl⟩;rw[←fH,HVV.out] at KW;have hn5:n5=k+1:=by rw[←KW.len];exact W1.out
    subst hn5;have Fv:=zH KW;clear KW;go_wp2_with fail;refine(X6 Wv.out Fv.out (fun b hb=>⟨hb.2,fun e=>by have:=hb.1;omega⟩) (by omega) (by omega) (by omega) (by rw[Nat.add_sub_cancel];exact W2.out)
     (Y4 HUL.out vt.out (by rw[HUV.out,Fu.out]) (by omega) (by omega) (by rw[dj];exact W3.out))).mono ?_
    rintro e w3 ⟨sq,qs,rs,rfl,FR,hqv,Ea,Fi,hrv,CN,ey⟩;rw[dj,HUV.out,XP] at hqv;rw[dj,HUV.out] at hrv;obtain⟨Aq,nq,cq,rfl,zG⟩:=FR.slice;have Sl:nq≤1073741825:=by omega
    clear zG;have mg:=zH FR;have C4:=zH Fi;have HQV:=zH hqv;have ave:=zH hrv;have iT:Hid (Below w.heap.size w w3):=zH (bX.out.trans (by rw[←HWS.out];exact ey));have Si:w2.heap.size≤w3.heap.size:=ey.size;have xO:w.heap.size≤w2.heap.size:=bX.out.size;clear FR Fi hqv hrv CN ey;go_wp2_with fail;refine(pX mg.out.rsAll (by omega)).mono ?_;rintro e w4 ⟨v4,rfl,Sp,fa⟩;rw[HQV.out] at Sp;have qL:=zH Sp;have lH:=zH (ae iT.out fa);have avt:=zH (C4.out.below fa);clear Sp fa;go_wp2_with fail;refine(TC sh avt.out.rsAll (fun b hb=>hb) (by omega) acR).mono ?_;rintro e w5 ⟨v5,zs,rfl,NI,hz5,L9,mE⟩;rw[ave.out,XO] at hz5;obtain⟨A6,n6,c6,rfl,hn6⟩:=NI.slice;have h6b:n6≤1073741825:=by omega
    clear hn6;have zw:=zH NI;have HZ5:=zH hz5;have qM:=zH (ae lH.out mE);have avA:=zH (qL.out.below mE);clear NI hz5 mE L9;go_wp2_with fail;refine(pX zw.out.rsAll (by omega)).mono ?_;rintro e w6 ⟨v6,rfl,ho6,kC⟩;rw[HZ5.out] at ho6;have Mx:=zH (ho6.base_le qM.out.size);have avz:=zH ((avA.out.below kC).base_le iT.out.size);have zz:=zH (ae qM.out kC);clear ho6 kC;go_wp2_with fail
    go_ret3
    refine⟨v4,v6,?_,?_,?_,zz.out⟩
    ·rw[decide_eq_true PF.out];rfl
    ·rw[if_neg PF.out];exact avz.out
    ·rw[if_neg PF.out];exact Mx.out
theorem qj {n k:Nat} (h:(fC n).length≤k) {m:Nat} (hm:m≤n):(fC m).length≤k:=Nat.le_trans (kt hm) h
set_option maxRecDepth 20000 in
set_option maxHeartbeats 2000000 in
theorem aeh {S S2:Nat→Prop} {A A2:Option Addr} {n c n2 c2:Nat} {xs ys:List (BitVec 32)} {w:World} (h:RS w S A n c xs) (h2:RS w S2 A2 n2 c2 ys) (_hS:∀b,S b→b<w.heap.size) (eF:∀b,S2 b→b<w.heap.size) (hn:n≤536870912) (hn2:n2≤536870912) : Calls Tryz.prog 135 #[.slice A n c,.slice A2 n2 c2] w (od w 98 (fC (Nat.gcd (val xs) (val ys)))):=by
 have H:=zH h;have H2:=zH h2;obtain⟨X,hX⟩:∃X,val xs=X:=⟨_,rfl⟩;obtain⟨V,hV⟩:∃V,val ys=V:=⟨_,rfl⟩;have h3:(fC X).length≤536870912:=by rw[←hX,fH];have:=ej xs;have:=h.len;omega
 have h4:(fC V).length≤536870912:=by rw[←hV,fH];have:=ej ys;have:=h2.len;omega
 have HX:=zH hX;have HV:=zH hV;obtain⟨G,hG⟩:∃G,Nat.gcd (val xs) (val ys)=G:=⟨_,rfl⟩;rw[hG];rw[hX,hV] at hG;have HG:=zH hG;have vw:=zH h3;have ua:=zH h4;clear h h2 hX hV hG h3 h4;go_enter Tryz.func135,Tryz.ntmps135;go_wp2_with fail;refine(pX H.out (by omega)).mono ?_;rintro e w1 ⟨v1,rfl,zF,bd⟩;rw[HX.out] at zF;have jd:=zH zF;have bS:=zH bd;have sW:=zH (H2.out.below bd eF);clear zF bd;go_wp2_with fail;refine(pX sW.out (by omega)).mono ?_;rintro e w2 ⟨v2,rfl,fK,bY⟩;rw[HV.out] at fK;have eX:=zH (fK.base_le bS.out.size);have alV:=zH (jd.out.below bY);have bX:=zH (ae bS.out bY);clear fK bY;go_wp2_with fail;go_loopg [0,1] V (fun k va vb wr=>∃a,k≤V∧(fC a).length≤536870912∧Nat.gcd a k=G∧Own wr aA w.heap.size 98 va (fC a)∧Own wr aA w.heap.size 98 vb (fC k)∧Below w.heap.size w wr)
 case atStart=>exact⟨X,Nat.le_refl _,vw.out,HG.out,alV.out,eX.out,bX.out⟩
 case round=>
  clear jd bS sW eX alV bX;obtain⟨a,hk,dT,hg,hoa,hob,hb⟩:=hrel;obtain⟨Aa,na,ca,rfl,Pm⟩:=hoa.slice;obtain⟨Ab,nb,cb,rfl,rj⟩:=hob.slice;have aBO:na≤536870912:=by omega
  have aBN:nb≤536870912:=by have:=qj ua.out hk;omega
  have HOA:=zH hoa;have HOB:=zH hob;have HB:=zH hb;have ZO:=zH hg;have LR:=zH rj;have C6:=zH dT;clear hoa hob hb hg Pm rj dT;rcases Nat.eq_zero_or_pos nb with h0|h0
  ·subst h0;have By:gk=0:=li.1 (List.length_eq_zero_iff.1 LR.out.symm);have hga:a=G:=by have:=ZO.out;rw[By,Nat.gcd_zero_right] at this;exact this
   have HGA:=zH hga;clear By hga;go_wp2_with fail;go_ret
   exact⟨_,rfl,by rw[←HGA.out];exact HOA.out,HB.out⟩
  ·have NP:0<gk:=by
    rcases Nat.eq_zero_or_pos gk with h|h
    ·exfalso
     have:=LR.out;rw[h,fD] at this;simp at this;omega
    ·exact h
   go_wp2_with fail;refine(Oi HOA.out.rsAll HOB.out.rsAll (fun _ h=>h) (fun _ h=>h) (by omega) (by omega)).mono ?_;rintro e w3 ⟨vq,vr,rfl,ho,hr,ey⟩;rw[dj,dj,if_neg (by omega)] at hr;have kU:=zH (hr.base_le HB.out.size);have avx:=zH (HOB.out.below ey);have iT:=zH (ae HB.out ey);clear ho hr ey;go_wp2_with fail
   go_roundg (a%gk)
   case measure=>exact Nat.mod_lt _ NP
   case rel=>exact⟨gk,by have:=Nat.mod_lt a NP;omega,qj ua.out hk,((Nat.gcd_comm _ _).trans ((Nat.gcd_rec gk a).symm.trans (Nat.gcd_comm _ _))).trans ZO.out,avx.out,kU.out,iT.out⟩
def sJ (n:Nat):Nat:=if n=0 then 0 else 32*((fC n).length-1)+Lib.bitLen (((fC n).getD ((fC n).length-1) 0#32).toNat)
theorem tR {n:Nat}:sJ n=0↔n=0:=by
 unfold sJ;split
 ·rename_i h;simp[h]
 ·rename_i h;have hl:fC n≠[]:=fun e=>h (li.1 e);have hp:0<(fC n).length:=List.length_pos_iff.2 hl;have sx:(eO (fC n)).getLast?=some ((fC n).getD ((fC n).length-1) 0#32):=by
   rw[Gu,List.getLast?_eq_getElem?,List.getD_eq_getElem?_getD,List.getElem?_eq_getElem (by omega)];rfl
  have dA:=Dd sx;have h0:0<((fC n).getD ((fC n).length-1) 0#32).toNat:=by
   rcases Nat.eq_zero_or_pos ((fC n).getD ((fC n).length-1) 0#32).toNat with h|h
   ·exact absurd (tQ.2 h) dA
   ·exact h
  have h1:=O8 h0 ((fC n).getD ((fC n).length-1) 0#32).isLt;constructor
  ·intro e;omega
  ·intro e;exact absurd e h
set_option maxHeartbeats 1000000 in
theorem Px {S:Nat→Prop} {A:Option Addr} {n c:Nat} {xs:List (BitVec 32)} {w:World} (h:RS w S A n c xs) (hn:n≤1073741824) : Calls Tryz.prog 133 #[.slice A n c] w (gq w (.int .i64 (sJ (val xs):Nat))):=by
 have hl:=fH xs;have fL:=ej xs;have sR:=h.len;have H:=zH h;obtain⟨l,hl'⟩:∃l,eO xs=l:=⟨_,rfl⟩;obtain⟨X,hX⟩:∃X,val xs=X:=⟨_,rfl⟩;rw[hl'] at hl fL;rw[hX] at hl;rw[hX];have HT:=zH hl';have HL:=zH hl;clear h hl hl' hX;go_enter Tryz.func133,Tryz.ntmps133;go_wp2_with fail;refine(js H.out).mono ?_;rintro e w' ⟨A3,n3,c3,rfl,hr,rfl⟩;rw[HT.out] at hr;have hl3:=hr.len;have ey:n3≤1073741824:=by omega
 have HR:=zH hr;have vt:=zH hl3;clear hr hl3 fL sR;rcases Nat.eq_zero_or_pos n3 with h0|h0
 ·subst h0;have lJ:X=0:=li.1 (by rw[HL.out];exact RS.nil_of' HR.out);subst lJ;go_wp2_with fail;go_ret
  exact⟨rfl,rfl⟩
 ·have lJ:X≠0:=by
   intro e;have:=vt.out;rw[←HL.out,e,fD] at this;simp at this;omega
  obtain⟨k,rfl⟩:∃k,n3=k+1:=⟨n3-1,by omega⟩;obtain⟨b,o,y,rfl,_,hy,e1⟩:=HR.out.limb_at (k:=k) (by omega);have hb0:((k:Int)+1==0)=false:=by rw[beq_eq_false_iff_ne];omega
  have Ma:=y.isLt;have cJ:sJ X=32*k+Lib.bitLen y.toNat:=by
   unfold sJ;rw[if_neg lJ,HL.out,vt.out,List.getD_eq_getElem?_getD,Nat.add_sub_cancel,hy];rfl
  have xt:Lib.bitLen y.toNat≤32:=bitLen_le (by simpa using Ma) (by omega);have HF:=zH cJ;obtain⟨z,hz⟩:∃z,Lib.bitLen y.toNat=z:=⟨_,rfl⟩;rw[hz] at xt;have HLZ:Hid (Calls Tryz.prog 157 #[.int .u32 (y.toNat:Int)] w (gq w (.int .i64 (z:Int)))):=zH (by
   refine(Tryz.bits_Len32 (y.toNat:Int) w (by omega) (by omega)).mono fun e w' h=>⟨?_,h.2.symm⟩;rw[h.1,Int.toNat_natCast,hz])
  have HZ:=zH hz;clear hy cJ hz lJ;go_wp2_with fail;refine HLZ.out.mono ?_;rintro e w' ⟨rfl,rfl⟩;go_wp2_with fail;go_ret
  refine⟨bT ?_,rfl⟩;rw[HF.out,HZ.out];go_num
def Mj (n:Nat):UInt8:=UInt8.ofNat (48+n%10)
def kO (n:Nat):List UInt8:=if h:n=0 then[] else Mj n::kO (n/10)
 termination_by n
 decreasing_by omega
def pad:Nat→Nat→List UInt8
 | 0,_=>[]
 | k+1,n=>Mj n::pad k (n/10)
def ek (n:Nat):List UInt8:=if n=0 then[48] else(kO n).reverse
theorem xc (k n:Nat):(pad k n).length=k:=by
 induction k generalizing n with
 | zero=>rfl
 | succ k ih=>simp[pad,ih]
theorem TW (k n:Nat):pad (k+1) n=pad k n++[Mj (n/10^k)]:=by
 induction k generalizing n with
 | zero=>simp[pad]
 | succ k ih=>
  rw[pad,ih,pad,List.cons_append,Nat.div_div_eq_div_mul,Nat.pow_succ']
theorem lA:kO 0=[]:=by unfold kO;simp
theorem TX (k n:Nat) (h:n<10^k):pad k n=kO n++List.replicate (k-(kO n).length) 48:=by
 induction k generalizing n with
 | zero=>
  have:n=0:=by simpa using h
  subst this;simp[pad,lA]
 | succ k ih=>
  by_cases hn:n=0
  ·subst hn;rw[lA,pad,ih 0 (Nat.pow_pos (by omega)),lA];simp[Mj,List.replicate_succ]
  ·rw[pad,kO,dif_neg hn,ih (n/10) (by rw[Nat.pow_succ'] at h;omega)];simp
theorem aeM {n:Nat} (h:n%10≠0):Mj n≠48:=by
 intro e;have:=congrArg UInt8.toNat e;simp[Mj] at this;omega
theorem Ri {n:Nat} {c:UInt8} (h:(kO n).getLast?=some c):c≠48:=by
 induction n using Nat.strongRecOn with
 | ind n ih=>
  rw[kO] at h;split at h
  ·simp at h
  ·rename_i hn;rw[List.getLast?_cons] at h;by_cases h10:n/10=0
   ·rw[h10,lA] at h;simp at h;subst h;exact aeM (by omega)
   ·have:kO (n/10)≠[]:=by rw[kO,dif_neg h10];simp
    obtain⟨z,hz⟩:∃z,(kO (n/10)).getLast?=some z:=by
     cases hh:(kO (n/10)).getLast? with
     | none=>rw[List.getLast?_eq_none_iff] at hh;exact absurd hh this
     | some z=>exact⟨z,rfl⟩
    rw[hz] at h;simp at h;subst h;exact ih (n/10) (by omega) hz
theorem wV (k:Nat) (l:List UInt8) (h:l.head?≠some 48):Lib.trimLeftB (List.replicate k 48++l) 48=l:=by
 induction k with
 | zero=>
  cases l with
  | nil=>rfl
  | cons x l=>
   have hx:x≠48:=fun e=>h (by rw[e];rfl);simp[Lib.trimLeftB,hx]
 | succ k ih=>
  rw[List.replicate_succ,List.cons_append];simp only[Lib.trimLeftB] at ih ⊢;simpa using ih
theorem PU {k n:Nat} (h:n<10^k):Lib.trimLeftB (pad k n).reverse 48=(kO n).reverse:=by
 rw[TX k n h,List.reverse_append,List.reverse_replicate];apply wV;rw[List.head?_reverse];intro e;exact Ri e rfl
theorem LA (X k i:Nat) (hi:i<9):Mj (X/10^k%1000000000/10^i)=Mj (X/10^(k+i)):=by
 have e:X/10^(k+i)=X/10^k/10^i:=by rw[Nat.pow_add,Nat.div_div_eq_div_mul]
 rw[e];obtain⟨Y,hY⟩:∃Y,X/10^k=Y:=⟨_,rfl⟩;rw[hY];unfold Mj;congr 2
 have h9:1000000000=10^i*10^(9-i):=by rw[←Nat.pow_add,show i+(9-i)=9 by omega]
 rw[h9,Nat.mod_mul_right_div_self];have h10:10∣10^(9-i):=⟨10^(8-i),by rw[←Nat.pow_succ',show(8-i).succ=9-i by omega]⟩;exact Nat.mod_mod_of_dvd _ h10
theorem yZ {X k n:Nat} (h:10^k≤X) (hX:X<4294967296^n):3*k<32*n:=by
 have h1:(2:Nat)^(3*k)≤10^k:=by rw[Nat.pow_mul];exact Nat.pow_le_pow_left (by omega) k
 have h2:4294967296^n=2^(32*n):=by rw[Nat.pow_mul]
 rw[h2] at hX;exact(Nat.pow_lt_pow_iff_right (a:=2) (by omega)).1 (by omega)
theorem Lo {n:Nat} (h:n≠0):10^((kO n).length-1)≤n:=by
 induction n using Nat.strongRecOn with
 | ind n ih=>
  rw[kO,dif_neg h];by_cases h10:n/10=0
  ·rw[h10,lA];simp;omega
  ·have h1:=ih (n/10) (by omega) h10;have hp:0<(kO (n/10)).length:=by rw[kO,dif_neg h10];simp
   rw[List.length_cons,Nat.add_sub_cancel];obtain⟨k,hk⟩:∃k,(kO (n/10)).length=k+1:=⟨_,(Nat.sub_add_cancel hp).symm⟩;rw[hk,Nat.add_sub_cancel] at h1;rw[hk,Nat.pow_succ'];omega
theorem rq {n k:Nat} (h:(fC n).length≤k):(ek n).length≤11*k+2:=by
 unfold ek;split
 ·simp
 ·rename_i hn;have h1:=Lo hn;have h2:=iU (fC n);rw[dj] at h2;have h3:=yZ h1 (Nat.lt_of_lt_of_le h2 (Nat.pow_le_pow_right (by omega) h));rw[List.length_reverse];omega
section
variable {S S2:Nat→Prop} {A A2:Option Addr} {n c n2 c2:Nat} {w:World}
theorem RS.strCells {xs:List ByteArray} {b o:Nat} (h:RS w S (some ⟨b,o,none⟩) n c xs):∀j,j<xs.length→w.cell? ⟨b,o+j,none⟩=some (.string (xs.getD j ByteArray.empty)):=by
 intro j hj;obtain⟨b',o',x,e,_,hx,hc⟩:=h.str_at (k:=j) (by rw[←h.len];exact hj);injection e with e;injection e with e1 e2
 subst e1 e2;rw[List.getD_eq_getElem?_getD,hx];exact hc
theorem RS.intCells {xs:List Int} {b o:Nat} (h:RS w S (some ⟨b,o,none⟩) n c xs):∀j,j<xs.length→w.cell? ⟨b,o+j,none⟩=some (.int .i64 (xs.getD j 0)):=by
 intro j hj;obtain⟨b',o',x,e,_,hx,hc⟩:=h.int_at (k:=j) (by rw[←h.len];exact hj);injection e with e;injection e with e1 e2
 subst e1 e2;rw[List.getD_eq_getElem?_getD,hx];exact hc
theorem RS.some_of {α:Type} [bG α] {xs:List α} (h:RS w S A n c xs) (hn:0<n):∃b o,A=some ⟨b,o,none⟩:=by
 obtain⟨_,_,_,h3⟩:=h;obtain⟨b,o,e,_⟩:=h3 hn;exact⟨b,o,e⟩
theorem RS.nil_of {α:Type} [bG α] {xs:List α} (h:RS w S A 0 c xs):xs=[]:=List.length_eq_zero_iff.1 h.len
theorem Pd {xs:List ByteArray} (h:RS w S A n c xs) (x:ByteArray):Calls Tryz.prog 98 #[.slice A n c,.string x] w (gq w (.int .i64 (Lib.idxOfS xs x))):=by
 rcases Nat.eq_zero_or_pos n with rfl|hn
 ·rw[h.nil_of];exact(Tryz.slices_Index_string_empty A c x w).mono fun e w' h=>⟨h.1,h.2.symm⟩
 ·obtain⟨b,o,rfl⟩:=h.some_of hn;have:=Tryz.slices_Index_string b o n c xs x w (by rw[h.len];exact Nat.le_refl _) h.max h.strCells;rw[List.take_of_length_le (by rw[h.len];exact Nat.le_refl _)] at this;exact this.mono fun e w' h=>⟨h.1,h.2.symm⟩
theorem tI {xs:List ByteArray} (h:RS w S A n c xs) (x:ByteArray):Calls Tryz.prog 121 #[.slice A n c,.string x] w (gq w (.bool (Lib.containsS xs x))):=by
 rcases Nat.eq_zero_or_pos n with rfl|hn
 ·rw[h.nil_of];exact(Tryz.slices_Contains_string_empty A c x w).mono fun e w' h=>⟨by rw[h.1];rfl,h.2.symm⟩
 ·obtain⟨b,o,rfl⟩:=h.some_of hn;have:=Tryz.slices_Contains_string b o n c xs x w (by rw[h.len];exact Nat.le_refl _) h.max h.strCells;rw[List.take_of_length_le (by rw[h.len];exact Nat.le_refl _)] at this;exact this.mono fun e w' h=>⟨h.1,h.2.symm⟩
theorem Hf {xs ys:List ByteArray} (h:RS w S A n c xs) (h2:RS w S2 A2 n2 c2 ys):Calls Tryz.prog 76 #[.slice A n c,.slice A2 n2 c2] w (zt w (.bool (decide (xs=ys)))):=by
 rcases Nat.eq_zero_or_pos n with rfl|hn
 ·rw[h.nil_of];refine(Tryz.slices_Equal_string_empty A A2 c n2 c2 w h2.max).mono fun e w' q=>⟨?_,0,q.2⟩;rw[q.1];congr 2
  rw[decide_eq_decide,←h2.len,List.length_eq_zero_iff];exact eq_comm
 ·obtain⟨b,o,rfl⟩:=h.some_of hn;rcases Nat.eq_zero_or_pos n2 with rfl|hn2
  ·have dA:xs≠[]:=fun e=>by have:=h.len;rw[e] at this;simp at this;omega
   rw[h2.nil_of,decide_eq_false dA];go_enter Tryz.func76,Tryz.ntmps76;have hd:((n:Int) !=((0:Nat):Int))=true:=by simp;omega
   go_wp2_with fail;go_ret
   exact⟨rfl,0,rfl⟩
  ·obtain⟨b2,o2,rfl⟩:=h2.some_of hn2;have:=Tryz.slices_Equal_string b o n c b2 o2 n2 c2 xs ys w (by rw[h.len];exact Nat.le_refl _) (by rw[h2.len];exact Nat.le_refl _) h.max h2.max h.strCells h2.strCells;rw[List.take_of_length_le (by rw[h.len];exact Nat.le_refl _),List.take_of_length_le (by rw[h2.len];exact Nat.le_refl _)] at this;exact this
theorem Hh {xs ys:List Int} (h:RS w S A n c xs) (h2:RS w S2 A2 n2 c2 ys):Calls Tryz.prog 62 #[.slice A n c,.slice A2 n2 c2] w (zt w (.bool (decide (xs=ys)))):=by
 rcases Nat.eq_zero_or_pos n with rfl|hn
 ·rw[h.nil_of];refine(Tryz.slices_Equal_int_empty A A2 c n2 c2 w h2.max).mono fun e w' q=>⟨?_,0,q.2⟩;rw[q.1];congr 2
  rw[decide_eq_decide,←h2.len,List.length_eq_zero_iff];exact eq_comm
 ·obtain⟨b,o,rfl⟩:=h.some_of hn;rcases Nat.eq_zero_or_pos n2 with rfl|hn2
  ·have dA:xs≠[]:=fun e=>by have:=h.len;rw[e] at this;simp at this;omega
   rw[h2.nil_of,decide_eq_false dA];go_enter Tryz.func62,Tryz.ntmps62;have hd:((n:Int) !=((0:Nat):Int))=true:=by simp;omega
   go_wp2_with fail;go_ret
   exact⟨rfl,0,rfl⟩
  ·obtain⟨b2,o2,rfl⟩:=h2.some_of hn2;have:=Tryz.slices_Equal_int b o n c b2 o2 n2 c2 xs ys w (by rw[h.len];exact Nat.le_refl _) (by rw[h2.len];exact Nat.le_refl _) h.max h2.max h.intCells h2.intCells;rw[List.take_of_length_le (by rw[h.len];exact Nat.le_refl _),List.take_of_length_le (by rw[h2.len];exact Nat.le_refl _)] at this;refine this.mono fun e w' q=>⟨?_,q.2⟩;rw[q.1];congr 2
   rw[Bool.eq_iff_iff,beq_iff_eq,decide_eq_true_iff]
theorem TZ {w:World} {base:Nat} {v:Value} {xs:List ByteArray} (h:w.ownsRow base 9 1 v xs.length (xs.map Value.string)):Own w aA base 9 v xs:=
 ⟨_,h,Flat.strs xs,fun _ h=>h.elim⟩
theorem T9 {w:World} {base:Nat} {v:Value} {xs:List Int} (h:w.ownsRow base 3 1 v xs.length (xs.map (Value.int .i64))):Own w aA base 3 v xs:=
 ⟨_,h,Flat.ints xs,fun _ h=>h.elim⟩
theorem vQ {xs:List ByteArray} (h:RS w S A n c xs) (hn:n≤1099511627776):Calls Tryz.prog 69 #[.slice A n c] w (od w 9 xs):=by
 rcases Nat.eq_zero_or_pos n with rfl|hn0
 ·rw[h.nil_of];cases A with
  | none=>exact(Tryz.slices_Clone_string_nil 0 c w).mono fun e w' q=>⟨_,q.1,Own.nil _ _ _,by rw[q.2];exact Below.refl _ _⟩
  | some a=>exact(Tryz.slices_Clone_string_zero a c w).mono fun e w' ⟨v,q1,q2,_,q4⟩=>⟨v,q1,TZ (xs:=[]) q2,q4⟩
 ·obtain⟨b,o,rfl⟩:=h.some_of hn0;have:=Tryz.slices_Clone_string b o n c xs w (by rw[h.len];exact Nat.le_refl _) (by omega) h.strCells;rw[List.take_of_length_le (by rw[h.len];exact Nat.le_refl _)] at this;refine this.mono fun e w' ⟨v,q1,q2,_,q4⟩=>⟨v,q1,TZ ?_,q4⟩;rw[h.len];exact q2
theorem agR {xs:List Int} (h:RS w S A n c xs) (hn:n≤1099511627776):Calls Tryz.prog 63 #[.slice A n c] w (od w 3 xs):=by
 rcases Nat.eq_zero_or_pos n with rfl|hn0
 ·rw[h.nil_of];cases A with
  | none=>exact(Tryz.slices_Clone_int_nil 0 c w).mono fun e w' q=>⟨_,q.1,Own.nil _ _ _,by rw[q.2];exact Below.refl _ _⟩
  | some a=>exact(Tryz.slices_Clone_int_zero a c w).mono fun e w' ⟨v,q1,q2,_,q4⟩=>⟨v,q1,T9 (xs:=[]) q2,q4⟩
 ·obtain⟨b,o,rfl⟩:=h.some_of hn0;have:=Tryz.slices_Clone_int b o n c xs w (by rw[h.len];exact Nat.le_refl _) (by omega) h.intCells;rw[List.take_of_length_le (by rw[h.len];exact Nat.le_refl _)] at this;refine this.mono fun e w' ⟨v,q1,q2,_,q4⟩=>⟨v,q1,T9 ?_,q4⟩;rw[h.len];exact q2
end
end Go.Proofs.YtjlhbfbdcfajfaaGreatDoor
