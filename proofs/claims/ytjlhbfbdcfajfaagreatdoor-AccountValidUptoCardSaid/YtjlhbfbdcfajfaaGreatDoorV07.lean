/- Nat10 -/
import Derived.Test.YtjlhbfbdcfajfaaGreatDoorV04
import Derived.Test.YtjlhbfbdcfajfaaGreatDoorV05
import Derived.Test.YtjlhbfbdcfajfaaGreatDoorV06
set_option maxHeartbeats 8000000
set_option maxRecDepth 100000
namespace Go.Proofs.YtjlhbfbdcfajfaaGreatDoor
open Go.RowKit
def YB (w:World) (X V:Nat) (en:Ending) (w':World):Prop:=
 ∃vq vr,en=.returned (.tuple #[vq,vr,.bool (decide (V≠0))])∧Own w' bq w.heap.size 98 vq (dc (if V=0 then 0 else X/V))∧Own w' bq w.heap.size 98 vr (dc (if V=0 then 0 else X%V))∧Below w.heap.size w w'
theorem RS.nil_of' {α:Type} [aK α] {w:World} {S:Nat→Prop} {A:Option Addr} {c:Nat} {xs:List α} (h:RS w S A 0 c xs):xs=[]:=List.length_eq_zero_iff.1 h.len
theorem Own.shape {w:World} {base:Nat} {e:TypeId} {v:Value} {xs:List (BitVec 32)} (h:Own w bq base e v xs) (hx:0<xs.length):∃g c,v=.slice (some ⟨g,0,none⟩) xs.length c∧base≤g∧g<w.heap.size:=by
 obtain⟨A,n,c,rfl,rfl⟩:=h.slice;obtain⟨g,u,rfl,hg,hg2,_⟩:=h.get1 rfl (List.getElem?_eq_getElem hx);exact⟨g,c,rfl,hg,hg2⟩
theorem EM {a b:Value} {x y:Bool} (h:x=y):Ending.returned (.tuple #[a,b,.bool x])=.returned (.tuple #[a,b,.bool y]):=by rw[h]
theorem FB {S S2:Nat→Prop} {A A2:Option Addr} {n c n2 c2:Nat} {xs ys:List (BitVec 32)} {w:World} (h:RS w S A n c xs) (h2:RS w S2 A2 n2 c2 ys) (hS:∀b,S b→b<w.heap.size) (iC:∀b,S2 b→b<w.heap.size) (hn:n≤536870912) (hn2:n2≤536870912) : Calls Tryz.prog 136 #[.slice A n c,.slice A2 n2 c2] w (YB w (val xs) (val ys)):=by
 have H:=zH h;have H2:=zH h2;have HL:=zH h.len;have o0:=zH h2.len;have WU:=eN xs;have WT:=eN ys;clear h h2;obtain⟨X,hX⟩:∃X,val xs=X:=⟨_,rfl⟩;obtain⟨V,hV⟩:∃V,val ys=V:=⟨_,rfl⟩;have iF:=dN xs;have kV:=dN ys;rw[hX] at WU iF;rw[hV] at WT kV;rw[hX,hV];clear hX hV;obtain⟨la,Xf⟩:∃l,dh xs=l:=⟨_,rfl⟩;obtain⟨lb,Xe⟩:∃l,dh ys=l:=⟨_,rfl⟩;rw[Xf] at WU iF;rw[Xe] at WT kV;have xn:=zH WU;have xm:=zH WT;have Vp:=zH iF;have HLB:=zH kV;have HTA:=zH Xf;have HTB:=zH Xe;clear WU WT iF kV Xf Xe;go_enter Tryz.func136,Tryz.ntmps136;go_wp2_with fail;refine(eR H.out).mono ?_;rintro e w' ⟨A3,n3,c3,rfl,hr,rfl⟩;have hl3:n3≤536870912:=by have:=bQ xs;have:=hr.len;have:=HL.out;omega
 have HR:=zH hr;clear hr;go_wp2_with fail;refine(eR H2.out).mono ?_;rintro e w' ⟨A4,n4,c4,rfl,hr,rfl⟩;have hl4:n4≤536870912:=by have:=bQ ys;have:=hr.len;have:=o0.out;omega
 have oM:=zH hr;clear hr;rw[HTA.out] at HR;rw[HTB.out] at oM;have zi:=zH HR.out.len;have Eb:=zH oM.out.len;clear H H2 HL o0;rcases Nat.eq_zero_or_pos n4 with h0|h0
 ·subst h0;have XJ:V=0:=by rw[←xm.out,RS.nil_of' oM.out];rfl
  have ID:=zH XJ;clear XJ;go_wp2_with fail
  go_ret3
  refine⟨_,_,EM (decide_eq_false (fun h=>h ID.out)).symm,?_,?_,Below.refl _ _⟩<;>rw[if_pos ID.out,dt]<;>exact Own.nil _ _ _
 ·have XJ:V≠0:=by
   intro h;have h1:=HLB.out;rw[h,dt] at h1;have:=Eb.out;rw[←h1] at this;simp at this;omega
  have ID:=zH XJ;have hb0:((n4:Int)==0)=false:=by rw[beq_eq_false_iff_ne];omega
  clear XJ;go_wp2_with fail;refine(FG HR.out oM.out).mono ?_;rintro e w' ⟨rfl,mm,rfl⟩;have HR':=zH (HR.out.drewN mm);have Ub:=zH (oM.out.drewN mm);obtain⟨wd,Cv⟩:∃x,w.drewN mm=x:=⟨_,rfl⟩;have HB:=zH (show Below w.heap.size w wd by rw[←Cv];exact below_drewN (Below.refl _ _) mm);have HWS:=zH (show wd.heap.size=w.heap.size by rw[←Cv];rfl);rw[Cv] at HR' Ub;rw[Cv,xn.out,xm.out];clear Cv HR oM;rcases Nat.lt_or_ge X V with hc|hc
  ·rw[oI hc];have hq:X/V=0:=Nat.div_eq_of_lt hc;have hr:X%V=X:=Nat.mod_eq_of_lt hc;have HQ:=zH hq;have DU:=zH hr;clear hq hr hc;go_wp2_with fail;refine(yW HR'.out (by omega)).mono ?_;rintro e w2 ⟨v,rfl,ho,hb⟩;rw[HWS.out] at ho;have HO:=zH ho;have eP:=zH (ak HB.out (show Below wd.heap.size wd w2 from hb));clear ho hb;go_wp2_with fail
   go_ret3
   refine⟨_,_,EM (decide_eq_true ID.out).symm,?_,?_,eP.out⟩
   ·rw[if_neg ID.out,HQ.out,dt];exact Own.nil _ _ _
   ·rw[if_neg ID.out,DU.out,Vp.out];exact HO.out
  ·have hcc:decide (kA X V<0)=false:=by
    rcases Nat.lt_or_ge V X with h|h
    ·rw[oJ h];rfl
    ·rw[Nat.le_antisymm h hc,rj];rfl
   have HC:=zH hc;obtain⟨cc,XE⟩:∃cc,kA X V=cc:=⟨_,rfl⟩;rw[XE] at hcc;rw[XE];have hcf:(cc<0)=False:=by simpa using hcc
   clear hc XE;by_cases h1:n4=1
   ·subst h1;obtain⟨b,o,y,rfl,_,hy,e1⟩:=Ub.out.limb_at (k:=0) (by omega);rw[Nat.add_zero] at e1;have hyV:y.toNat=V:=by
     have hs:=xm.out;have hl:=Eb.out
     match lb,hl,hy with
     | [z],_,hy=>
      simp at hy;subst hy;simpa[val] using hs
    have Cu:=y.isLt;have hyw:IntKind.u64.wrap (y.toNat:Int)=(y.toNat:Int):=by rw[IntKind.wrap_u64];omega
    obtain⟨yn,hyn⟩:∃yn,y.toNat=yn:=⟨_,rfl⟩;rw[hyn] at hyV Cu hyw e1;subst hyV;clear hyn hy;go_wp2_with fail;refine(xU yn HR'.out (fun b hb=>by rw[HWS.out];exact hS b hb) (by omega) (by have:=ID.out;omega) Cu).mono ?_;rintro e w2 ⟨s,qs,rfl,ho,hq,Bd,hb⟩;rw[xn.out];rw[xn.out] at hq;obtain⟨As,ns,cs,rfl,Zc⟩:=ho.slice;have HO:=zH ho;have eP:=zH (ak HB.out (show Below wd.heap.size wd w2 from hb));have HQ:=zH hq;have Fh:ns≤1073741824:=by omega
    have yE:X%yn<18446744073709551616:=by have:=Nat.mod_lt X (show 0<yn by have:=ID.out;omega);omega
    clear ho hb hq Bd Zc;go_wp2_with fail;refine(j0 HO.out.rsAll (by omega)).mono ?_;rintro e w3 ⟨v3,rfl,wi,kD⟩;rw[HQ.out] at wi;have DX:=zH wi;have mg:=zH (ak eP.out kD);clear wi kD;go_wp2_with fail;refine(zP (X%yn) w3 yE).mono ?_;rintro e w4 ⟨v4,rfl,Zb,jT⟩;have DW:=zH (Zb.base_le (Nat.le_trans mg.out.size (Nat.le_refl _)));have xh:=zH (ak mg.out jT);have K7:=zH ((DX.out.below jT).base_le (Nat.le_trans eP.out.size (Nat.le_refl _)));clear Zb jT;go_wp2_with fail
    go_ret3
    refine⟨_,_,EM (decide_eq_true ID.out).symm,?_,?_,xh.out⟩
    ·rw[if_neg ID.out];exact K7.out
    ·rw[if_neg ID.out];exact DW.out
   ·have cI:((n4:Int)==1)=false:=by rw[beq_eq_false_iff_ne];omega
    obtain⟨k,hk⟩:∃k,n4=k+1:=⟨n4-1,by omega⟩;subst hk;obtain⟨b,o,y,rfl,_,hy,e1⟩:=Ub.out.limb_at (k:=k) (by omega);obtain⟨t,ht⟩:∃t,y.toNat=t:=⟨_,rfl⟩;have D1:t<4294967296:=by rw[←ht];exact y.isLt
    have ht0:0<t:=by
     rcases Nat.eq_zero_or_pos t with h|h
     ·exfalso
      have ku:lb.getLast?=some y:=by rw[List.getLast?_eq_getElem?,Eb.out];simpa using hy
      have ag1:dh lb=lb:=by rw[←HLB.out,xO]
      rw[←ag1] at ku;exact uQ ku (mM.2 (by omega))
     ·exact h
    have sP:(lb.getD k 0#32).toNat=t:=by rw[List.getD_eq_getElem?_getD,hy];exact ht
    rw[ht] at e1;obtain⟨z1,z2,z3,z4⟩:=GY ht0 D1;obtain⟨sh,P5⟩:∃sh,32-Lib.bitLen t=sh:=⟨_,rfl⟩;rw[P5] at z3 z4;have abd:32-(Lib.bitLen t:Int)=(sh:Int):=by omega
    have W0:sh<32:=by omega
    obtain⟨w1,w2,w3⟩:=Kk (s:=sh) Eb.out xm.out sP z3 z4;have J0:(k:Int)+1-1=(k:Int):=by omega
    have NQ:k<n3:=by
     rcases Nat.lt_or_ge k n3 with h|h
     ·exact h
     ·exfalso
      have a1:=fT HC.out;rw[Vp.out,HLB.out,zi.out,Eb.out] at a1;omega
    have W1:=zH w1;have W2:=zH w2;have W3:=zH w3;have ai8:=zH abd;clear hy ht sP z1 z2 z3 z4 P5 w1 w2 w3 abd;have HLZ:Hid (Calls Tryz.prog 162 #[.int .u32 (t:Int)] wd (gL wd (.int .i64 (sh:Int)))):=zH (by
     refine(Tryz.bits_LeadingZeros32 (t:Int) wd (by omega) (by omega)).mono fun e w' h=>⟨?_,h.2.symm⟩;rw[h.1,Int.toNat_natCast,ai8.out])
    go_wp2_with fail;refine HLZ.out.mono ?_;rintro e w' ⟨rfl,rfl⟩;go_wp2_with fail;refine(G9 sh HR'.out (fun b hb=>by rw[HWS.out];exact hS b hb) (by omega) W0).mono ?_;rintro e w1 ⟨vu,us,rfl,JX,huv,P3,cI⟩;rw[xn.out] at huv;obtain⟨gu,cu,rfl,hg1,hg2⟩:=JX.shape (by omega);rw[P3] at JX;have DV:=zH JX;have HUV:=zH huv;have HUL:=zH P3;have fy:=zH (ak HB.out cI);have HRW:=zH (Ub.out.below cI (fun b hb=>by rw[HWS.out];exact iC b hb));clear JX huv cI;rw[P3];go_wp2_with fail;have nc:w.heap.size≤w1.heap.size:=fy.out.size;refine(G9 sh HRW.out (fun b hb=>Nat.lt_of_lt_of_le (iC b hb) nc) (by omega) W0).mono ?_;rintro e w2 ⟨vv,vs,rfl,JW,hvv,Bc,bZ⟩;rw[xm.out] at hvv;obtain⟨Av,nv,cv,rfl,hnv⟩:=JW.slice;rw[Bc] at hnv;subst hnv;have HRV:=zH (JW.rs (S':=fun b=>w1.heap.size≤b∧b<w2.heap.size) (fun _ h=>h.elim) (fun _ h1 h2=>⟨h1,h2⟩));have YH:=zH hvv;have eP:=zH (ak fy.out bZ);have PM:=zH (DV.out.below bZ);have HBX:=zH bZ;clear JW hvv bZ DV;go_wp2_with fail;refine(eR HRV.out).mono ?_;rintro e w' ⟨A5,n5,c5,rfl,Hn,rfl⟩;rw[←dN,YH.out] at Hn;have hn5:n5=k+1:=by rw[←Hn.len];exact W1.out
    subst hn5;have Ua:=zH Hn;clear Hn;go_wp2_with fail;refine(Rv PM.out Ua.out (fun b hb=>⟨hb.2,fun e=>by have:=hb.1;omega⟩) (by omega) (by omega) (by omega) (by rw[Nat.add_sub_cancel];exact W2.out)
     (Ti HUL.out zi.out (by rw[HUV.out,xn.out]) (by omega) (by omega) (by rw[bC];exact W3.out))).mono ?_
    rintro e w3 ⟨sq,qs,rs,rfl,xE,W6,Bd,ly,hrv,yE,kD⟩;rw[bC,HUV.out,QJ] at W6;rw[bC,HUV.out] at hrv;obtain⟨Aq,nq,cq,rfl,UL⟩:=xE.slice;have W8:nq≤1073741825:=by omega
    clear UL;have Bi:=zH xE;have HOR:=zH ly;have HQV:=zH W6;have ajc:=zH hrv;have mg:Hid (Below w.heap.size w w3):=zH (eP.out.trans (by rw[←HWS.out];exact kD));have hs3:w2.heap.size≤w3.heap.size:=kD.size;have D2:w.heap.size≤w2.heap.size:=eP.out.size;clear xE ly W6 hrv yE kD;go_wp2_with fail;refine(j0 Bi.out.rsAll (by omega)).mono ?_;rintro e w4 ⟨v4,rfl,Zb,jT⟩;rw[HQV.out] at Zb;have DW:=zH Zb;have xh:=zH (ak mg.out jT);have ajk:=zH (HOR.out.below jT);clear Zb jT;go_wp2_with fail;refine(Mf sh ajk.out.rsAll (fun b hb=>hb) (by omega) W0).mono ?_;rintro e w5 ⟨v5,zs,rfl,Sn,hz5,yB,Be⟩;rw[ajc.out,QI] at hz5;obtain⟨A6,n6,c6,rfl,hn6⟩:=Sn.slice;have h6b:n6≤1073741825:=by omega
    clear hn6;have K7:=zH Sn;have Zw:=zH hz5;have IH:=zH (ak xh.out Be);have ajr:=zH (DW.out.below Be);clear Sn hz5 Be yB;go_wp2_with fail;refine(j0 K7.out.rsAll (by omega)).mono ?_;rintro e w6 ⟨v6,rfl,ho6,hb6⟩;rw[Zw.out] at ho6;have HO6:=zH (ho6.base_le IH.out.size);have ajq:=zH ((ajr.out.below hb6).base_le mg.out.size);have HB6:=zH (ak IH.out hb6);clear ho6 hb6;go_wp2_with fail
    go_ret3
    refine⟨v4,v6,?_,?_,?_,HB6.out⟩
    ·rw[decide_eq_true ID.out];rfl
    ·rw[if_neg ID.out];exact ajq.out
    ·rw[if_neg ID.out];exact HO6.out
end Go.Proofs.YtjlhbfbdcfajfaaGreatDoor
