/- Nat10 -/
import Derived.Test.YtichkplomldgiaaGreatDoorJ04
import Derived.Test.YtichkplomldgiaaGreatDoorJ05
import Derived.Test.YtichkplomldgiaaGreatDoorJ06
set_option maxHeartbeats 4000000
set_option maxRecDepth 100000
namespace Go.Proofs.YtichkplomldgiaaGreatDoor
open Go.RowKit
def Nr (w:World) (X V:Nat) (en:Ending) (w':World):Prop:=
 ∃vq vr,en=.returned (.tuple #[vq,vr,.bool (decide (V≠0))])/\Own w' ba w.heap.size 138 vq (bC (if V=0 then 0 else X/V))/\Own w' ba w.heap.size 138 vr (bC (if V=0 then 0 else X%V))/\Below w.heap.size w w'
theorem RS.nil_of' {α:Type} [ak α] {w:World} {S:Nat->Prop} {A:Option Addr} {c:Nat} {xs:List α} (h:RS w S A 0 c xs):xs=[]:=List.length_eq_zero_iff.1 h.len
theorem Own.shape {w:World} {base:Nat} {e:TypeId} {v:Value} {xs:List (BitVec 32)} (h:Own w ba base e v xs) (hx:0<xs.length):∃g c,v=.slice (some ⟨g,0,none⟩) xs.length c/\base<=g/\g<w.heap.size:=by
 obtain⟨A,n,c,rfl,rfl⟩:=h.slice;obtain⟨g,u,rfl,hg,hg2,_⟩:=h.get1 rfl (List.getElem?_eq_getElem hx);exact⟨g,c,rfl,hg,hg2⟩
theorem vE {a b:Value} {x y:Bool} (h:x=y):Ending.returned (.tuple #[a,b,.bool x])=.returned (.tuple #[a,b,.bool y]):=by rw[h]
theorem wK {S S2:Nat->Prop} {A A2:Option Addr} {n c n2 c2:Nat} {xs ys:List (BitVec 32)} {w:World} (h:RS w S A n c xs) (h2:RS w S2 A2 n2 c2 ys) (hS:∀b,S b->b<w.heap.size) (fG:∀b,S2 b->b<w.heap.size) (hn:n<=536870912) (hn2:n2<=536870912) : Calls Tryz.prog 207 #[.slice A n c,.slice A2 n2 c2] w (Nr w (val xs) (val ys)):=by
 have H:=zH h;have H2:=zH h2;have HL:=zH h.len;have Bm:=zH h2.len;have L4:=ct xs;have L3:=ct ys;clear h h2;obtain⟨X,hX⟩:∃X,val xs=X:=⟨_,rfl⟩;obtain⟨V,hV⟩:∃V,val ys=V:=⟨_,rfl⟩;have et:=bR xs;have gz:=bR ys;rw[hX] at L4 et;rw[hV] at L3 gz;rw[hX,hV];clear hX hV;obtain⟨la,Mh⟩:∃l,bA xs=l:=⟨_,rfl⟩;obtain⟨lb,Mg⟩:∃l,bA ys=l:=⟨_,rfl⟩;rw[Mh] at L4 et;rw[Mg] at L3 gz;have oH:=zH L4;have oG:=zH L3;have RX:=zH et;have RV:=zH gz;have HTA:=zH Mh;have HTB:=zH Mg;clear L4 L3 et gz Mh Mg;go_enter Tryz.func207,Tryz.ntmps207;go_wp2_with fail;refine(cy H.out).mono ?_;rintro e w' ⟨A3,n3,c3,rfl,hr,rfl⟩;have hl3:n3<=536870912:=by have:=aR xs;have:=hr.len;have:=HL.out;omega
 have HR:=zH hr;clear hr;go_wp2_with fail;refine(cy H2.out).mono ?_;rintro e w' ⟨A4,n4,c4,rfl,hr,rfl⟩;have hl4:n4<=536870912:=by have:=aR ys;have:=hr.len;have:=Bm.out;omega
 have jn:=zH hr;clear hr;rw[HTA.out] at HR;rw[HTB.out] at jn;have qw:=zH HR.out.len;have u3:=zH jn.out.len;clear H H2 HL Bm;rcases Nat.eq_zero_or_pos n4 with h0|h0
 ·subst h0;have MH:V=0:=by rw[<-oG.out,RS.nil_of' jn.out];rfl
  have ze:=zH MH;clear MH;go_wp2_with fail
  go_ret3
  refine⟨_,_,vE (decide_eq_false (λh=>h ze.out)).symm,?_,?_,Below.refl _ _⟩<;>rw[if_pos ze.out,bU]<;>exact Own.nil _ _ _
 ·have MH:V≠0:=by
   intro h;have h1:=RV.out;rw[h,bU] at h1;have:=u3.out;rw[<-h1] at this;simp at this;omega
  have ze:=zH MH;have hb0:((n4:Int)==0)=false:=by rw[beq_eq_false_iff_ne];omega
  clear MH;go_wp2_with fail;refine(wM HR.out jn.out).mono ?_;rintro e w' ⟨rfl,mm,rfl⟩;have Tn:=zH (HR.out.drewN mm);have Ju:=zH (jn.out.drewN mm);obtain⟨wd,t7⟩:∃x,w.drewN mm=x:=⟨_,rfl⟩;have HB:=zH (show Below w.heap.size w wd by rw[<-t7];exact below_drewN (Below.refl _ _) mm);have RD:=zH (show wd.heap.size=w.heap.size by rw[<-t7];rfl);rw[t7] at Tn Ju;rw[t7,oH.out,oG.out];clear t7 HR jn;rcases Nat.lt_or_ge X V with hc|hc
  ·rw[mA hc];have hq:X/V=0:=Nat.div_eq_of_lt hc;have hr:X%V=X:=Nat.mod_eq_of_lt hc;have HQ:=zH hq;have Bl:=zH hr;clear hq hr hc;go_wp2_with fail;refine(qm Tn.out (by omega)).mono ?_;rintro e w2 ⟨v,rfl,ho,hb⟩;rw[RD.out] at ho;have HO:=zH ho;have fM:=zH (ah HB.out (show Below wd.heap.size wd w2 from hb));clear ho hb;go_wp2_with fail
   go_ret3
   refine⟨_,_,vE (decide_eq_true ze.out).symm,?_,?_,fM.out⟩
   ·rw[if_neg ze.out,HQ.out,bU];exact Own.nil _ _ _
   ·rw[if_neg ze.out,Bl.out,RX.out];exact HO.out
  ·have hcc:decide (kf X V<0)=false:=by
    rcases Nat.lt_or_ge V X with h|h
    ·rw[mB h];rfl
    ·rw[Nat.le_antisymm h hc,sx];rfl
   have HC:=zH hc;obtain⟨cc,Mu⟩:∃cc,kf X V=cc:=⟨_,rfl⟩;rw[Mu] at hcc;rw[Mu];have hcf:(cc<0)=False:=by simpa using hcc
   clear hc Mu;by_cases h1:n4=1
   ·subst h1;obtain⟨b,o,y,rfl,_,hy,e1⟩:=Ju.out.limb_at (k:=0) (by omega);rw[Nat.add_zero] at e1;have Y5:y.toNat=V:=by
     have hs:=oG.out;have hl:=u3.out
     match lb,hl,hy with
     | [z],_,hy=>
      simp at hy;subst hy;simpa[val] using hs
    have t4:=y.isLt;have Y0:IntKind.u64.wrap (y.toNat:Int)=(y.toNat:Int):=by rw[IntKind.wrap_u64];omega
    obtain⟨yn,Y3⟩:∃yn,y.toNat=yn:=⟨_,rfl⟩;rw[Y3] at Y5 t4 Y0 e1;subst Y5;clear Y3 hy;go_wp2_with fail;refine(o9 yn Tn.out (λb hb=>by rw[RD.out];exact hS b hb) (by omega) (by have:=ze.out;omega) t4).mono ?_;rintro e w2 ⟨s,qs,rfl,ho,hq,sT,hb⟩;rw[oH.out];rw[oH.out] at hq;obtain⟨As,ns,cs,rfl,NZ⟩:=ho.slice;have HO:=zH ho;have fM:=zH (ah HB.out (show Below wd.heap.size wd w2 from hb));have HQ:=zH hq;have wu:ns<=1073741824:=by omega
    have AA:X%yn<18446744073709551616:=by have:=Nat.mod_lt X (show 0<yn by have:=ze.out;omega);omega
    clear ho hb hq sT NZ;go_wp2_with fail;refine(fj HO.out.rsAll (by omega)).mono ?_;rintro e w3 ⟨v3,rfl,Vo,kE⟩;rw[HQ.out] at Vo;have RO:=zH Vo;have qx:=zH (ah fM.out kE);clear Vo kE;go_wp2_with fail;refine(rk (X%yn) w3 AA).mono ?_;rintro e w4 ⟨v4,rfl,NY,ud⟩;have RN:=zH (NY.base_le (Nat.le_trans qx.out.size (Nat.le_refl _)));have Jx:=zH (ah qx.out ud);have XP:=zH ((RO.out.below ud).base_le (Nat.le_trans fM.out.size (Nat.le_refl _)));clear NY ud;go_wp2_with fail
    go_ret3
    refine⟨_,_,vE (decide_eq_true ze.out).symm,?_,?_,Jx.out⟩
    ·rw[if_neg ze.out];exact XP.out
    ·rw[if_neg ze.out];exact RN.out
   ·have bp:((n4:Int)==1)=false:=by rw[beq_eq_false_iff_ne];omega
    obtain⟨k,hk⟩:∃k,n4=k+1:=⟨n4-1,by omega⟩;subst hk;obtain⟨b,o,y,rfl,_,hy,e1⟩:=Ju.out.limb_at (k:=k) (by omega);obtain⟨t,ht⟩:∃t,y.toNat=t:=⟨_,rfl⟩;have Az:t<4294967296:=by rw[<-ht];exact y.isLt
    have P8:0<t:=by
     rcases Nat.eq_zero_or_pos t with h|h
     ·exfalso
      have il:lb.getLast?=some y:=by rw[List.getLast?_eq_getElem?,u3.out];simpa using hy
      have Vs:bA lb=lb:=by rw[<-RV.out,o0]
      rw[<-Vs] at il;exact mT il (hJ.2 (by omega))
     ·exact h
    have lx:(lb.getD k 0#32).toNat=t:=by rw[List.getD_eq_getElem?_getD,hy];exact ht
    rw[ht] at e1;obtain⟨z1,z2,z3,z4⟩:=yj P8 Az;obtain⟨sh,FQ⟩:∃sh,32-Lib.bitLen t=sh:=⟨_,rfl⟩;rw[FQ] at z3 z4;have P9:32-(Lib.bitLen t:Int)=(sh:Int):=by omega
    have L9:sh<32:=by omega
    obtain⟨w1,w2,w3⟩:=AU (s:=sh) u3.out oG.out lx z3 z4;have Ix:(k:Int)+1-1=(k:Int):=by omega
    have D5:k<n3:=by
     rcases Nat.lt_or_ge k n3 with h|h
     ·exact h
     ·exfalso
      have a1:=da HC.out;rw[RX.out,RV.out,qw.out,u3.out] at a1;omega
    have W1:=zH w1;have W2:=zH w2;have W3:=zH w3;have XD:=zH P9;clear hy ht lx z1 z2 z3 z4 FQ w1 w2 w3 P9;have XZ:Hid (Calls Tryz.prog 235 #[.int .u32 (t:Int)] wd (uM wd (.int .i64 (sh:Int)))):=zH (by
     refine(Tryz.bits_LeadingZeros32 (t:Int) wd (by omega) (by omega)).mono λe w' h=>⟨?_,h.2.symm⟩;rw[h.1,Int.toNat_natCast,XD.out])
    go_wp2_with fail;refine XZ.out.mono ?_;rintro e w' ⟨rfl,rfl⟩;go_wp2_with fail;refine(yq sh Tn.out (λb hb=>by rw[RD.out];exact hS b hb) (by omega) L9).mono ?_;rintro e w1 ⟨vu,us,rfl,AE,UU,FP,bp⟩;rw[oH.out] at UU;obtain⟨gu,cu,rfl,hg1,hg2⟩:=AE.shape (by omega);rw[FP] at AE;have uR:=zH AE;have Xz:=zH UU;have RF:=zH FP;have dc:=zH (ah HB.out bp);have HRW:=zH (Ju.out.below bp (λb hb=>by rw[RD.out];exact fG b hb));clear AE UU bp;rw[FP];go_wp2_with fail;have jk:w.heap.size<=w1.heap.size:=dc.out.size;refine(yq sh HRW.out (λb hb=>Nat.lt_of_lt_of_le (fG b hb) jk) (by omega) L9).mono ?_;rintro e w2 ⟨vv,vs,rfl,AD,UR,Bs,bQ⟩;rw[oG.out] at UR;obtain⟨Av,nv,cv,rfl,Zn⟩:=AD.slice;rw[Bs] at Zn;subst Zn;have HRV:=zH (AD.rs (S':=λb=>w1.heap.size<=b/\b<w2.heap.size) (λ_ h=>h.elim) (λ_ h1 h2=>⟨h1,h2⟩));have Nx:=zH UR;have fM:=zH (ah dc.out bQ);have FE:=zH (uR.out.below bQ);have HBX:=zH bQ;clear AD UR bQ uR;go_wp2_with fail;refine(cy HRV.out).mono ?_;rintro e w' ⟨A5,n5,c5,rfl,Bt,rfl⟩;rw[<-bR,Nx.out] at Bt;have hn5:n5=k+1:=by rw[<-Bt.len];exact W1.out
    subst hn5;have Nz:=zH Bt;clear Bt;go_wp2_with fail;refine(Hj FE.out Nz.out (λb hb=>⟨hb.2,λe=>by have:=hb.1;omega⟩) (by omega) (by omega) (by omega) (by rw[Nat.add_sub_cancel];exact W2.out)
     (IZ RF.out qw.out (by rw[Xz.out,oH.out]) (by omega) (by omega) (by rw[aM];exact W3.out))).mono ?_
    rintro e w3 ⟨sq,qs,rs,rfl,ua,Mb,sT,jG,U6,AA,kE⟩;rw[aM,Xz.out,Gz] at Mb;rw[aM,Xz.out] at U6;obtain⟨Aq,nq,cq,rfl,J4⟩:=ua.slice;have Mc:nq<=1073741825:=by omega
    clear J4;have wZ:=zH ua;have HOR:=zH jG;have To:=zH Mb;have XG:=zH U6;have qx:Hid (Below w.heap.size w w3):=zH (fM.out.trans (by rw[<-RD.out];exact kE));have hs3:w2.heap.size<=w3.heap.size:=kE.size;have NV:w.heap.size<=w2.heap.size:=fM.out.size;clear ua jG Mb U6 AA kE;go_wp2_with fail;refine(fj wZ.out.rsAll (by omega)).mono ?_;rintro e w4 ⟨v4,rfl,NY,ud⟩;rw[To.out] at NY;have RN:=zH NY;have Jx:=zH (ah qx.out ud);have XN:=zH (HOR.out.below ud);clear NY ud;go_wp2_with fail;refine(CK sh XN.out.rsAll (λb hb=>hb) (by omega) L9).mono ?_;rintro e w5 ⟨v5,zs,rfl,NX,UO,pP,Bu⟩;rw[XG.out,Gy] at UO;obtain⟨A6,n6,c6,rfl,hn6⟩:=NX.slice;have h6b:n6<=1073741825:=by omega
    clear hn6;have XP:=zH NX;have On:=zH UO;have Ts:=zH (ah Jx.out Bu);have XS:=zH (RN.out.below Bu);clear NX UO Bu pP;go_wp2_with fail;refine(fj XP.out.rsAll (by omega)).mono ?_;rintro e w6 ⟨v6,rfl,Vn,VQ⟩;rw[On.out] at Vn;have HO6:=zH (Vn.base_le Ts.out.size);have XQ:=zH ((XS.out.below VQ).base_le qx.out.size);have HB6:=zH (ah Ts.out VQ);clear Vn VQ;go_wp2_with fail
    go_ret3
    refine⟨v4,v6,?_,?_,?_,HB6.out⟩
    ·rw[decide_eq_true ze.out];rfl
    ·rw[if_neg ze.out];exact XQ.out
    ·rw[if_neg ze.out];exact HO6.out
end Go.Proofs.YtichkplomldgiaaGreatDoor
