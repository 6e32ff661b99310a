/- Nat10 -/
import Derived.Test.YtdbpbfglhbiadaaGreatDoorH04
import Derived.Test.YtdbpbfglhbiadaaGreatDoorH05
import Derived.Test.YtdbpbfglhbiadaaGreatDoorH06
set_option maxHeartbeats 4000000
set_option maxRecDepth 100000
namespace Go.Proofs.YtdbpbfglhbiadaaGreatDoor
open Go.RowKit
def ab3 (w:World) (X V:Nat) (en:Ending) (w':World):Prop:=
 ∃vq vr,en=.returned (.tuple #[vq,vr,.bool (decide (V≠0))])/\Own w' bi w.heap.size 172 vq (cJ (if V=0 then 0 else X/V))/\Own w' bi w.heap.size 172 vr (cJ (if V=0 then 0 else X%V))/\Below w.heap.size w w'
theorem RS.nil_of' {α:Type} [aA α] {w:World} {S:Nat->Prop} {A:Option Addr} {c:Nat} {xs:List α} (h:RS w S A 0 c xs):xs=[]:=List.length_eq_zero_iff.1 h.len
theorem Own.shape {w:World} {base:Nat} {e:TypeId} {v:Value} {xs:List (BitVec 32)} (h:Own w bi base e v xs) (hx:0<xs.length):∃g c,v=.slice (some ⟨g,0,none⟩) xs.length c/\base<=g/\g<w.heap.size:=by
 obtain⟨A,n,c,rfl,rfl⟩:=h.slice;obtain⟨g,u,rfl,hg,hg2,_⟩:=h.get1 rfl (List.getElem?_eq_getElem hx);exact⟨g,c,rfl,hg,hg2⟩
theorem Fu {a b:Value} {x y:Bool} (h:x=y):Ending.returned (.tuple #[a,b,.bool x])=.returned (.tuple #[a,b,.bool y]):=by rw[h]
theorem Gq {S S2:Nat->Prop} {A A2:Option Addr} {n c n2 c2:Nat} {xs ys:List (BitVec 32)} {w:World} (h:RS w S A n c xs) (h2:RS w S2 A2 n2 c2 ys) (hS:∀b,S b->b<w.heap.size) (gZ:∀b,S2 b->b<w.heap.size) (hn:n<=536870912) (hn2:n2<=536870912) : Calls Tryz.prog 191 #[.slice A n c,.slice A2 n2 c2] w (ab3 w (val xs) (val ys)):=by
 have H:=zH h;have H2:=zH h2;have HL:=zH h.len;have ow:=zH h2.len;have Z7:=eC xs;have Z6:=eC ys;clear h h2;obtain⟨X,hX⟩:∃X,val xs=X:=⟨_,rfl⟩;obtain⟨V,hV⟩:∃V,val ys=V:=⟨_,rfl⟩;have iI:=du xs;have kQ:=du ys;rw[hX] at Z7 iI;rw[hV] at Z6 kQ;rw[hX,hV];clear hX hV;obtain⟨la,aan⟩:∃l,cM xs=l:=⟨_,rfl⟩;obtain⟨lb,aam⟩:∃l,cM ys=l:=⟨_,rfl⟩;rw[aan] at Z7 iI;rw[aam] at Z6 kQ;have xo:=zH Z7;have xn:=zH Z6;have HLA:=zH iI;have HLB:=zH kQ;have HTA:=zH aan;have HTB:=zH aam;clear Z7 Z6 iI kQ aan aam;go_enter Tryz.func191,Tryz.ntmps191;go_wp2_with fail;refine(eH H.out).mono ?_;rintro e w' ⟨A3,n3,c3,rfl,hr,rfl⟩;have hl3:n3<=536870912:=by have:=bI xs;have:=hr.len;have:=HL.out;omega
 have HR:=zH hr;clear hr;go_wp2_with fail;refine(eH H2.out).mono ?_;rintro e w' ⟨A4,n4,c4,rfl,hr,rfl⟩;have hl4:n4<=536870912:=by have:=bI ys;have:=hr.len;have:=ow.out;omega
 have oe:=zH hr;clear hr;rw[HTA.out] at HR;rw[HTB.out] at oe;have zn:=zH HR.out.len;have EO:=zH oe.out.len;clear H H2 HL ow;rcases Nat.eq_zero_or_pos n4 with h0|h0
 ·subst h0;have hV0:V=0:=by rw[<-xn.out,RS.nil_of' oe.out];rfl
  have JG:=zH hV0;clear hV0;go_wp2_with fail
  go_ret3
  refine⟨_,_,Fu (decide_eq_false (λh=>h JG.out)).symm,?_,?_,Below.refl _ _⟩<;>rw[if_pos JG.out,cT]<;>exact Own.nil _ _ _
 ·have hV0:V≠0:=by
   intro h;have h1:=HLB.out;rw[h,cT] at h1;have:=EO.out;rw[<-h1] at this;simp at this;omega
  have JG:=zH hV0;have hb0:((n4:Int)==0)=false:=by rw[beq_eq_false_iff_ne];omega
  clear hV0;go_wp2_with fail;refine(Gv HR.out oe.out).mono ?_;rintro e w' ⟨rfl,mm,rfl⟩;have HR':=zH (HR.out.drewN mm);have WC:=zH (oe.out.drewN mm);obtain⟨wd,Dc⟩:∃x,w.drewN mm=x:=⟨_,rfl⟩;have HB:=zH (show Below w.heap.size w wd by rw[<-Dc];exact below_drewN (Below.refl _ _) mm);have HWS:=zH (show wd.heap.size=w.heap.size by rw[<-Dc];rfl);rw[Dc] at HR' WC;rw[Dc,xo.out,xn.out];clear Dc HR oe;rcases Nat.lt_or_ge X V with hc|hc
  ·rw[nY hc];have hq:X/V=0:=Nat.div_eq_of_lt hc;have hr:X%V=X:=Nat.mod_eq_of_lt hc;have HQ:=zH hq;have Er:=zH hr;clear hq hr hc;go_wp2_with fail;refine(ze HR'.out (by omega)).mono ?_;rintro e w2 ⟨v,rfl,ho,hb⟩;rw[HWS.out] at ho;have HO:=zH ho;have fu:=zH (au HB.out (show Below wd.heap.size wd w2 from hb));clear ho hb;go_wp2_with fail
   go_ret3
   refine⟨_,_,Fu (decide_eq_true JG.out).symm,?_,?_,fu.out⟩
   ·rw[if_neg JG.out,HQ.out,cT];exact Own.nil _ _ _
   ·rw[if_neg JG.out,Er.out,HLA.out];exact HO.out
  ·have hcc:decide (jQ X V<0)=false:=by
    rcases Nat.lt_or_ge V X with h|h
    ·rw[nZ h];rfl
    ·rw[Nat.le_antisymm h hc,qK];rfl
   have HC:=zH hc;obtain⟨cc,aaL⟩:∃cc,jQ X V=cc:=⟨_,rfl⟩;rw[aaL] at hcc;rw[aaL];have hcf:(cc<0)=False:=by simpa using hcc
   clear hc aaL;by_cases h1:n4=1
   ·subst h1;obtain⟨b,o,y,rfl,_,hy,e1⟩:=WC.out.limb_at (k:=0) (by omega);rw[Nat.add_zero] at e1;have hyV:y.toNat=V:=by
     have hs:=xn.out;have hl:=EO.out
     match lb,hl,hy with
     | [z],_,hy=>
      simp at hy;subst hy;simpa[val] using hs
    have Db:=y.isLt;have hyw:IntKind.u64.wrap (y.toNat:Int)=(y.toNat:Int):=by rw[IntKind.wrap_u64];omega
    obtain⟨yn,hyn⟩:∃yn,y.toNat=yn:=⟨_,rfl⟩;rw[hyn] at hyV Db hyw e1;subst hyV;clear hyn hy;go_wp2_with fail;refine(xS yn HR'.out (λb hb=>by rw[HWS.out];exact hS b hb) (by omega) (by have:=JG.out;omega) Db).mono ?_;rintro e w2 ⟨s,qs,rfl,ho,hq,Bv,hb⟩;rw[xo.out];rw[xo.out] at hq;obtain⟨As,ns,cs,rfl,hns⟩:=ho.slice;have HO:=zH ho;have fu:=zH (au HB.out (show Below wd.heap.size wd w2 from hb));have HQ:=zH hq;have F3:ns<=1073741824:=by omega
    have yH:X%yn<18446744073709551616:=by have:=Nat.mod_lt X (show 0<yn by have:=JG.out;omega);omega
    clear ho hb hq Bv hns;go_wp2_with fail;refine(jz HO.out.rsAll (by omega)).mono ?_;rintro e w3 ⟨v3,rfl,v7,kx⟩;rw[HQ.out] at v7;have Eu:=zH v7;have lX:=zH (au fu.out kx);clear v7 kx;go_wp2_with fail;refine(Ac (X%yn) w3 yH).mono ?_;rintro e w4 ⟨v4,rfl,ho4,qw⟩;have Mk:=zH (ho4.base_le (Nat.le_trans lX.out.size (Nat.le_refl _)));have Ev:=zH (au lX.out qw);have HO5:=zH ((Eu.out.below qw).base_le (Nat.le_trans fu.out.size (Nat.le_refl _)));clear ho4 qw;go_wp2_with fail
    go_ret3
    refine⟨_,_,Fu (decide_eq_true JG.out).symm,?_,?_,Ev.out⟩
    ·rw[if_neg JG.out];exact HO5.out
    ·rw[if_neg JG.out];exact Mk.out
   ·have ci:((n4:Int)==1)=false:=by rw[beq_eq_false_iff_ne];omega
    obtain⟨k,hk⟩:∃k,n4=k+1:=⟨n4-1,by omega⟩;subst hk;obtain⟨b,o,y,rfl,_,hy,e1⟩:=WC.out.limb_at (k:=k) (by omega);obtain⟨t,ht⟩:∃t,y.toNat=t:=⟨_,rfl⟩;have Le:t<4294967296:=by rw[<-ht];exact y.isLt
    have ht0:0<t:=by
     rcases Nat.eq_zero_or_pos t with h|h
     ·exfalso
      have mb:lb.getLast?=some y:=by rw[List.getLast?_eq_getElem?,EO.out];simpa using hy
      have alD:cM lb=lb:=by rw[<-HLB.out,xL]
      rw[<-alD] at mb;exact uK mb (lQ.2 (by omega))
     ·exact h
    have sa:(lb.getD k 0#32).toNat=t:=by rw[List.getD_eq_getElem?_getD,hy];exact ht
    rw[ht] at e1;obtain⟨z1,z2,z3,z4⟩:=IE ht0 Le;obtain⟨sh,Sk⟩:∃sh,32-Lib.bitLen t=sh:=⟨_,rfl⟩;rw[Sk] at z3 z4;have afm:32-(Lib.bitLen t:Int)=(sh:Int):=by omega
    have aaa:sh<32:=by omega
    obtain⟨w1,w2,w3⟩:=LL (s:=sh) EO.out xn.out sa z3 z4;have PQ:(k:Int)+1-1=(k:Int):=by omega
    have PM:k<n3:=by
     rcases Nat.lt_or_ge k n3 with h|h
     ·exact h
     ·exfalso
      have a1:=fA HC.out;rw[HLA.out,HLB.out,zn.out,EO.out] at a1;omega
    have W1:=zH w1;have W2:=zH w2;have W3:=zH w3;have aoe:=zH afm;clear hy ht sa z1 z2 z3 z4 Sk w1 w2 w3 afm;have HLZ:Hid (Calls Tryz.prog 223 #[.int .u32 (t:Int)] wd (jk wd (.int .i64 (sh:Int)))):=zH (by
     refine(Tryz.bits_LeadingZeros32 (t:Int) wd (by omega) (by omega)).mono λe w' h=>⟨?_,h.2.symm⟩;rw[h.1,Int.toNat_natCast,aoe.out])
    go_wp2_with fail;refine HLZ.out.mono ?_;rintro e w' ⟨rfl,rfl⟩;go_wp2_with fail;refine(IL sh HR'.out (λb hb=>by rw[HWS.out];exact hS b hb) (by omega) aaa).mono ?_;rintro e w1 ⟨vu,us,rfl,Lj,huv,Sj,ci⟩;rw[xo.out] at huv;obtain⟨gu,cu,rfl,hg1,hg2⟩:=Lj.shape (by omega);rw[Sj] at Lj;have Et:=zH Lj;have HUV:=zH huv;have HUL:=zH Sj;have fe:=zH (au HB.out ci);have HRW:=zH (WC.out.below ci (λb hb=>by rw[HWS.out];exact gZ b hb));clear Lj huv ci;rw[Sj];go_wp2_with fail;have ml:w.heap.size<=w1.heap.size:=fe.out.size;refine(IL sh HRW.out (λb hb=>Nat.lt_of_lt_of_le (gZ b hb) ml) (by omega) aaa).mono ?_;rintro e w2 ⟨vv,vs,rfl,Li,hvv,Bu,bX⟩;rw[xn.out] at hvv;obtain⟨Av,nv,cv,rfl,hnv⟩:=Li.slice;rw[Bu] at hnv;subst hnv;have HRV:=zH (Li.rs (S':=λb=>w1.heap.size<=b/\b<w2.heap.size) (λ_ h=>h.elim) (λ_ h1 h2=>⟨h1,h2⟩));have HVV:=zH hvv;have fu:=zH (au fe.out bX);have RV:=zH (Et.out.below bX);have HBX:=zH bX;clear Li hvv bX Et;go_wp2_with fail;refine(eH HRV.out).mono ?_;rintro e w' ⟨A5,n5,c5,rfl,IZ,rfl⟩;rw[<-du,HVV.out] at IZ;have hn5:n5=k+1:=by rw[<-IZ.len];exact W1.out
    subst hn5;have WA:=zH IZ;clear IZ;go_wp2_with fail;refine(Uo RV.out WA.out (λb hb=>⟨hb.2,λe=>by have:=hb.1;omega⟩) (by omega) (by omega) (by omega) (by rw[Nat.add_sub_cancel];exact W2.out)
     (VK HUL.out zn.out (by rw[HUV.out,xo.out]) (by omega) (by omega) (by rw[bn];exact W3.out))).mono ?_
    rintro e w3 ⟨sq,qs,rs,rfl,xD,hqv,Bv,kD,hrv,yH,kx⟩;rw[bn,HUV.out,Tv] at hqv;rw[bn,HUV.out] at hrv;obtain⟨Aq,nq,cq,rfl,Xo⟩:=xD.slice;have hqb:nq<=1073741825:=by omega
    clear Xo;have BD:=zH xD;have HOR:=zH kD;have HQV:=zH hqv;have aoh:=zH hrv;have lX:Hid (Below w.heap.size w w3):=zH (fu.out.trans (by rw[<-HWS.out];exact kx));have hs3:w2.heap.size<=w3.heap.size:=kx.size;have EC:w.heap.size<=w2.heap.size:=fu.out.size;clear xD kD hqv hrv yH kx;go_wp2_with fail;refine(jz BD.out.rsAll (by omega)).mono ?_;rintro e w4 ⟨v4,rfl,ho4,qw⟩;rw[HQV.out] at ho4;have Mk:=zH ho4;have Ev:=zH (au lX.out qw);have aop:=zH (HOR.out.below qw);clear ho4 qw;go_wp2_with fail;refine(NS sh aop.out.rsAll (λb hb=>hb) (by omega) aaa).mono ?_;rintro e w5 ⟨v5,zs,rfl,U9,hz5,yE,EH⟩;rw[aoh.out,Tu] at hz5;obtain⟨A6,n6,c6,rfl,hn6⟩:=U9.slice;have h6b:n6<=1073741825:=by omega
    clear hn6;have HO5:=zH U9;have HZ5:=zH hz5;have HB5:=zH (au Ev.out EH);have aow:=zH (Mk.out.below EH);clear U9 hz5 EH yE;go_wp2_with fail;refine(jz HO5.out.rsAll (by omega)).mono ?_;rintro e w6 ⟨v6,rfl,ho6,hb6⟩;rw[HZ5.out] at ho6;have HO6:=zH (ho6.base_le HB5.out.size);have aov:=zH ((aow.out.below hb6).base_le lX.out.size);have HB6:=zH (au HB5.out hb6);clear ho6 hb6;go_wp2_with fail
    go_ret3
    refine⟨v4,v6,?_,?_,?_,HB6.out⟩
    ·rw[decide_eq_true JG.out];rfl
    ·rw[if_neg JG.out];exact aov.out
    ·rw[if_neg JG.out];exact HO6.out
end Go.Proofs.YtdbpbfglhbiadaaGreatDoor
