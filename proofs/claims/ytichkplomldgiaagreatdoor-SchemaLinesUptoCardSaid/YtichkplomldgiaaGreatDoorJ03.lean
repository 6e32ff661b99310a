/- Nat2 Nat3 Nat4 Nat5 Nat6 -/
import Derived.Test.YtichkplomldgiaaGreatDoorJ02
import Derived.Test.YtichkplomldgiaaGreatDoorJ01
import Derived.Deep.DeepCutAuto
set_option maxHeartbeats 4000000
set_option maxRecDepth 100000
namespace Go.Proofs.YtichkplomldgiaaGreatDoor
open Go.RowKit
theorem Own.rsAll {α:Type} [ak α] {w:World} {base:Nat} {e:TypeId} {A:Option Addr} {n c:Nat} {xs:List α} (h:Own w ba base e (.slice A n c) xs):RS w (·<w.heap.size) A n c xs:=h.rs (λ_ h=>h.elim) (λ_ _ h=>h)
theorem Ln (n:Nat) (h:n<18446744073709551616):val [BitVec.ofNat 32 n,BitVec.ofNat 32 (n/4294967296)]=n:=by
 simp only[val,BitVec.toNat_ofNat];omega
theorem rk (n:Nat) (w:World) (h:n<18446744073709551616):Calls Tryz.prog 231 #[.int .u64 n] w (lE w 138 (bC n)):=by
 have hv:=Ln n h;obtain⟨x,hx⟩:∃x,BitVec.ofNat 32 n=x:=⟨_,rfl⟩;obtain⟨y,hy⟩:∃y,BitVec.ofNat 32 (n/4294967296)=y:=⟨_,rfl⟩;have h1:IntKind.u32.wrap (n:Int)=(x.toNat:Int):=by rw[<-hx,IntKind.wrap_u32,BitVec.toNat_ofNat];omega
 have h2:IntKind.u32.wrap ((n:Int)/4294967296)=(y.toNat:Int):=by rw[<-hy,IntKind.wrap_u32,BitVec.toNat_ofNat];omega
 rw[hx,hy] at hv;have HV:=zH hv;clear hv hx hy;go_enter Tryz.func231,Tryz.ntmps231;go_wp2_with fail;have hb:Below w.heap.size w (w.alloc (.cells #[.int .u32 (x.toNat:Int),.int .u32 (y.toNat:Int)] 138)):=(Below.refl _ _).alloc (Nat.le_refl _) _;have hr:RS (w.alloc (.cells #[.int .u32 (x.toNat:Int),.int .u32 (y.toNat:Int)] 138)) (λ_=>True) (some ⟨w.heap.size,0,none⟩) 2 2 [x,y]:=
  RS.of_blk (t:=138) (cs:=#[.int .u32 (x.toNat:Int),.int .u32 (y.toNat:Int)]) (bS.new _ _ _) (Flat.limbs [x,y]) rfl (Nat.le_refl _) (by decide) trivial
 refine(fj hr (by omega)).mono ?_;rintro e w2 ⟨v,rfl,ho,bQ⟩;rw[HV.out] at ho;have HO:=zH (ho.base_le (Nat.le_trans hb.size (Nat.le_refl _)));have HB:=zH (ah hb bQ);clear ho hb bQ hr h1 h2;go_wp2_with fail;go_ret
 exact⟨_,rfl,HO.out,HB.out⟩
theorem wM {S S2:Nat->Prop} {A A2:Option Addr} {n c n2 c2:Nat} {xs ys:List (BitVec 32)} {w:World} (h:RS w S A n c xs) (h2:RS w S2 A2 n2 c2 ys) : Calls Tryz.prog 233 #[.slice A n c,.slice A2 n2 c2] w (Fz w (.int .i64 (kf (val xs) (val ys)))):=by
 have H:=zH h;have H2:=zH h2;have L4:=ct xs;have L3:=ct ys;have Qr:=bR xs;have Zs:=bR ys;have oH:=zH L4;have oG:=zH L3;have Ov:=zH Qr;have X0:=zH Zs;clear h h2 L4 L3 Qr Zs;go_enter Tryz.func233,Tryz.ntmps233;go_wp2_with fail;refine(cy H.out).mono ?_;rintro e w' ⟨A3,n3,c3,rfl,hr,rfl⟩;have HR:=zH hr;clear hr;go_wp2_with fail;refine(cy H2.out).mono ?_;rintro e w' ⟨A4,n4,c4,rfl,hr,rfl⟩;have jn:=zH hr;have Zq:=HR.out.max;have Zp:=hr.max;clear hr;obtain⟨l3,hl3⟩:∃l,bA xs=l:=⟨_,rfl⟩;obtain⟨l4,hl4⟩:∃l,bA ys=l:=⟨_,rfl⟩;rw[hl3] at HR oH Ov;rw[hl4] at jn oG X0;have qw:=zH HR.out.len;have u3:=zH jn.out.len;clear hl3 hl4;by_cases hlt:n3=n4
 ·subst hlt;have hb:((n3:Int) !=(n3:Int))=false:=by simp
  go_wp2_with fail;go_loopw [5,27,37] (λv _ _ wr=>∃(k m:Nat) (z:Int),k<=n3/\v=.int .i64 z/\z+1=k/\l3.drop k=l4.drop k/\wr=w.drewN m) (λv _ _ _=>(intOf v+1).toNat)
  case atStart=>exact⟨n3,0,(n3:Int)-1,Nat.le_refl _,rfl,by omega,by rw[List.drop_eq_nil_of_le (by rw[qw.out];exact Nat.le_refl _),List.drop_eq_nil_of_le (by rw[u3.out];exact Nat.le_refl _)],rfl⟩
  case round=>
   obtain⟨k,m,z,hk,rfl,hz,hd,rfl⟩:=hrel;have HD:=zH hd;clear hd;rcases k with _|k
   ·obtain rfl:z= -1:=by omega
    have he:kf (val xs) (val ys)=0:=by
     have h1:=HD.out;rw[List.drop_zero,List.drop_zero] at h1;rw[<-oH.out,<-oG.out,h1,sx]
    have HE:=zH he;clear he hz;go_wp2_with fail;go_ret
    exact⟨kY (by rw[HE.out];rfl),_,rfl⟩
   ·obtain rfl:z=k:=by omega
    obtain⟨b,o,x,rfl,_,hx,e1⟩:=HR.out.limb_at (k:=k) (by omega);obtain⟨b2,o2,y,rfl,_,hy,e2⟩:=jn.out.limb_at (k:=k) (by omega);have oV:(k:Int)<(n3:Int):=by omega
    have HX:=zH hx;have HY:=zH hy;clear hx hy hz;rcases Nat.lt_trichotomy x.toNat y.toNat with hc|hc|hc
    ·have he:kf (val xs) (val ys)= -1:=by
      rw[<-oH.out,<-oG.out];exact mA (iH HD.out HX.out HY.out hc)
     have HE:=zH he;have d1:decide (x.toNat<y.toNat)=true:=decide_eq_true (by omega);clear he hc;go_wp2_with fail;go_quiet (fail)
     go_wp2_with fail;go_ret
     exact⟨kY (by rw[HE.out];rfl),_,World.drewN_drewN _ _ _⟩
    ·have Y6:x=y:=BitVec.eq_of_toNat_eq hc;have hn:=so HD.out HX.out (by rw[Y6];exact HY.out);have HN:=zH hn;have d1:decide (x.toNat<y.toNat)=false:=decide_eq_false (by omega);have d2:decide (y.toNat<x.toNat)=false:=decide_eq_false (by omega);clear hn Y6 hc;go_wp2_with fail;go_quiet (fail)
     go_wp2_with fail;go_quiet (fail)
     go_wp2_with fail;go_roundw
     case rel=>exact⟨k,_,(k:Int)-1,by omega,by go_num,by omega,HN.out,by first|rfl|(rw[World.drewN_drewN,World.drewN_drewN])|(rw[World.drewN_drewN])⟩
     case measure=>simp[intOf]
    ·have he:kf (val xs) (val ys)=1:=by
      rw[<-oH.out,<-oG.out];exact mB (iH HD.out.symm HY.out HX.out hc)
     have HE:=zH he;have d1:decide (x.toNat<y.toNat)=false:=decide_eq_false (by omega);have d2:decide (y.toNat<x.toNat)=true:=decide_eq_true (by omega);clear he hc;go_wp2_with fail;go_quiet (fail)
     go_wp2_with fail;go_quiet (fail)
     go_wp2_with fail;go_ret
     exact⟨kY (by rw[HE.out];rfl),_,(congrArg (λw=>World.drewN w _) (World.drewN_drewN _ _ _)).trans (World.drewN_drewN _ _ _)⟩
 ·have hb:((n3:Int) !=(n4:Int))=true:=by simp;omega
  by_cases h3:n3<n4
  ·have he:kf (val xs) (val ys)= -1:=mA (gx (by rw[Ov.out,X0.out,qw.out,u3.out];exact h3));have HE:=zH he;clear he;go_wp2_with fail;go_ret
   exact⟨kY (by rw[HE.out];rfl),0,rfl⟩
  ·have he:kf (val xs) (val ys)=1:=mB (gx (by rw[Ov.out,X0.out,qw.out,u3.out];omega));have HE:=zH he;clear he;go_wp2_with fail;go_ret
   exact⟨kY (by rw[HE.out];rfl),0,rfl⟩
theorem Tryz.u32Info:(Tryz.prog.info? 138).map (λi=>(i.zero,i.size,i.bytes))=some (some (.int .u32 0),1,4):=by kernel_rfl
theorem eC (s:Nat):IntKind.u32.wrap (s:Int)=((BitVec.ofNat 32 s).toNat:Int):=by rw[IntKind.wrap_u32,BitVec.toNat_ofNat];omega
theorem ci (s:Nat):(BitVec.ofNat 32 s).toNat=s%4294967296:=by rw[BitVec.toNat_ofNat]
theorem bV {l:List (BitVec 32)} (k:Nat):(l.getD k 0#32).toNat<4294967296:=(l.getD k 0#32).isLt
theorem Js {S S2:Nat->Prop} {A A2:Option Addr} {n c n2 c2:Nat} {xs ys:List (BitVec 32)} {w:World} (h:RS w S A n c xs) (h2:RS w S2 A2 n2 c2 ys) (hS:∀b,S b->b<w.heap.size) (fG:∀b,S2 b->b<w.heap.size) (hn:n<=1073741824) (hn2:n2<=1073741824) : Calls Tryz.prog 241 #[.slice A n c,.slice A2 n2 c2] w (lE w 138 (bC (val xs+val ys))):=by
 obtain⟨i0,hi,hz0,hz1,hz2⟩:=info_parts Tryz.u32Info;have HI:=zH hi;have sX:=zH hz0;have kP:=zH hz1;have oF:=zH hz2;have H:=zH h;have H2:=zH h2;have HL:=zH h.len;have Bm:=zH h2.len;have oH:=zH (ct xs);have oG:=zH (ct ys);clear h h2 hi hz0 hz1 hz2;go_enter Tryz.func241,Tryz.ntmps241;go_wp2_with fail;refine(cy H.out).mono ?_;rintro e w' ⟨A3,n3,c3,rfl,hr,rfl⟩;have hl3:n3<=1073741824:=by have:=aR xs;have:=hr.len;have:=HL.out;omega
 have HR:=zH hr;clear hr;go_wp2_with fail;refine(cy H2.out).mono ?_;rintro e w' ⟨A4,n4,c4,rfl,hr,rfl⟩;have hl4:n4<=1073741824:=by have:=aR ys;have:=hr.len;have:=Bm.out;omega
 have jn:=zH hr;clear hr;obtain⟨la,et⟩:∃l,bA xs=l:=⟨_,rfl⟩;obtain⟨lb,gz⟩:∃l,bA ys=l:=⟨_,rfl⟩;rw[et] at HR oH;rw[gz] at jn oG;have qw:=zH HR.out.len;have u3:=zH jn.out.len;clear et gz;go_upto_region 2 with(fail);go_cut [5] (λv wx=>∃m:Nat,v=.int .i64 m/\n3<=m/\n4<=m/\m<=1073741824/\w=wx)
 case first=>
  by_cases hc:(n3:Int)<(n4:Int)
  ·go_wp2_with fail;go_meet
   exact⟨n4,rfl,by omega,by omega,by omega,rfl⟩
  ·go_wp2_with fail;go_meet
   exact⟨n3,rfl,by omega,by omega,by omega,rfl⟩
 case rest=>
 obtain⟨m,rfl,Zq,Zp,hm,rfl⟩:=hcut;have AF:(m:Int)+1=((m+1:Nat):Int):=by omega
 obtain⟨M,hM⟩:∃M,m+1=M:=⟨_,rfl⟩;rw[hM] at AF;have ZQ:M<=1073741825:=by omega
 have HM:=zH hM;clear hM;go_wp2_with (refine bW (α:=BitVec 32) _ rfl _ _ _ rfl rfl w.heap.size i0 (.int .u32 0) Tryz.underlying26 HI.out sX.out kP.out rfl .i64 .i64 (M:Int) (M:Int) M rfl rfl rfl rfl (by rw[oF.out];omega) (by unfold maxLen;omega) (Nat.le_refl _) 0#32 ba (λ_ h=>h.elim) (λ_ _=>rfl) ?_; intro w1 kh hg1; have eH:=zH kh; have dc:=zH ((Below.refl w.heap.size w).grown hg1 (Nat.le_refl _) (λk hk=>by cases hk)); clear kh hg1);obtain⟨g,hg⟩:∃g,w.heap.size=g:=⟨_,rfl⟩;rw[hg] at eH;rw[hg];have HG:=zH hg;clear hg AF;go_loopw [7,8,9,23] (λcv _ _ i wr=>∃(k cr:Nat) (zs:List (BitVec 32)),k<=m/\i=.int .i64 k/\cv=.int .u64 cr/\cr<=1/\zs.length=M/\val (zs.take k)+4294967296^k*cr=val (la.take k)+val (lb.take k)/\Own wr ba g 138 (.slice (some ⟨g,0,none⟩) M M) zs/\Below w.heap.size w wr)
  (λ_ _ _ i _=>m-(intOf i).toNat)
 case atStart=>exact⟨0,0,List.replicate M 0#32,by omega,rfl,rfl,by omega,by simp,by simp[val],eH.out,dc.out⟩
 case round=>
  clear eH dc;obtain⟨k,cr,zs,hk,rfl,rfl,VL,pP,dV,ho,hb⟩:=hrel;have eH:=zH ho;have dc:=zH hb;have kT:=zH pP;have fL:=zH dV;clear ho hb pP dV;by_cases hlt:k<m
  ·have Qu:(k:Int)<(M:Int):=by have:=HM.out;omega
   have hx:=qw.out;obtain⟨g',u,lO,_,_,hu,cI,im⟩:=eH.out.get1 rfl (show zs[k]?=some (zs.getD k 0#32) by rw[List.getD_eq_getElem?_getD,List.getElem?_eq_getElem (by rw[kT.out];have:=HM.out;omega)];rfl);injection lO with lO
   injection lO with lO
   subst lO;obtain⟨x,yB⟩:∃x,(la.getD k 0#32).toNat=x:=⟨_,rfl⟩;obtain⟨y,Ik⟩:∃y,(lb.getD k 0#32).toNat=y:=⟨_,rfl⟩;have jt:x<4294967296:=by rw[<-yB];exact bV k
   have t4:y<4294967296:=by rw[<-Ik];exact bV k
   have e1:=aF la k;have e2:=aF lb k;rw[yB] at e1;rw[Ik] at e2;obtain⟨s,hs⟩:∃s,x+y+cr=s:=⟨_,rfl⟩;have h3:=uK hs fL.out;rw[<-e1,<-e2] at h3;have jk:(x:Int)+(y:Int)+(cr:Int)=(s:Int):=by omega
   have dh:s<8589934592:=by omega
   have pQ:=eC s;have Iq:(s:Int)/4294967296=((s/4294967296:Nat):Int):=rfl;obtain⟨z,hz⟩:∃z,BitVec.ofNat 32 s=z:=⟨_,rfl⟩;obtain⟨I5,Ek⟩:∃I5,s/4294967296=I5:=⟨_,rfl⟩;have ew:=ci s;rw[hz] at pQ ew;rw[Ek] at Iq h3;rw[<-ew] at h3;have pW:I5<=1:=by omega
   have Xs:=zH yB;have Xr:=zH Ik;have R0:=zH h3;clear yB Ik e1 e2 hs h3 hz Ek ew hu hx;go_wp2_with fail;refine(fS k (HR.out.below dc.out hS)).mono ?_;rintro e w' ⟨rfl,rfl⟩;rw[Xs.out];go_wp2_with fail;refine(fS k (jn.out.below dc.out fG)).mono ?_;rintro e w' ⟨rfl,rfl⟩;rw[Xr.out];go_wp2_with fail;go_roundw
   case rel=>
    obtain⟨q1,q2⟩:=eH.out.stored (k:=k) (u:=.int .u32 (z.toNat:Int)) (x:=z) rfl rfl;refine⟨k+1,I5,zs.set k z,by omega,by go_num,rfl,pW,by rw[List.length_set];exact kT.out,?_,q1,dc.out.setCell (by have:=HG.out;simp;omega) _⟩;rw[cw z (by rw[kT.out];have:=HM.out;omega),Nat.pow_succ];exact R0.out
   case measure=>simp[intOf];omega
  ·have Vu:k=m:=by omega
   subst Vu;have Qu:(k:Int)<(M:Int):=by have:=HM.out;omega
   obtain⟨g',u,lO,_,_,hu,cI,im⟩:=eH.out.get1 rfl (show zs[k]?=some (zs.getD k 0#32) by rw[List.getD_eq_getElem?_getD,List.getElem?_eq_getElem (by rw[kT.out];have:=HM.out;omega)];rfl);injection lO with lO
   injection lO with lO
   subst lO;have pQ:=eC cr;obtain⟨z,hz⟩:∃z,BitVec.ofNat 32 cr=z:=⟨_,rfl⟩;have ew:=ci cr;rw[hz] at pQ ew;have LU:z.toNat=cr:=by omega
   obtain⟨q1,q2⟩:=eH.out.stored (k:=k) (u:=.int .u32 (z.toNat:Int)) (x:=z) rfl rfl;have cM:val (zs.set k z)=val xs+val ys:=by
    have h1:=cw z (l:=zs) (k:=k) (by rw[kT.out];have:=HM.out;omega);rw[aL _ _ (by rw[List.length_set,kT.out];have:=HM.out;omega),LU,fL.out,aL _ _ (by rw[qw.out];exact Zq),aL _ _ (by rw[u3.out];exact Zp),oH.out,oG.out] at h1;exact h1
   have hq:=q1.rsAll;have Mc:Below w.heap.size w (wr.setCell ⟨g,k,none⟩ (.int .u32 (z.toNat:Int))):=dc.out.setCell (by have:=HG.out;simp;omega) _;have oy:=zH cM;have HQ:=zH hq;have Ot:=zH Mc;clear cM hq Mc q1 q2 LU ew hz hu hlt;go_wp2_with fail;refine(fj HQ.out (by omega)).mono ?_;rintro e w2 ⟨v,rfl,ho,hb⟩;rw[oy.out] at ho;have HO:=zH (ho.base_le Ot.out.size);have HB:=zH (ah Ot.out hb);clear ho hb;go_wp2_with fail;go_ret
   exact⟨_,rfl,HO.out,HB.out⟩
def Kw {α:Type} [ak α] (w:World) (e:TypeId) (xs:List α) (u:Value) (en:Ending) (w':World):Prop:=
 ∃v',en=.returned (.tuple #[v',u])/\Own w' ba w.heap.size e v' xs/\Below w.heap.size w w'
theorem Gh {S S2:Nat->Prop} {A A2:Option Addr} {n c n2 c2:Nat} {xs ys:List (BitVec 32)} {w:World} (h:RS w S A n c xs) (h2:RS w S2 A2 n2 c2 ys) (hlt:val xs<val ys) : Calls Tryz.prog 242 #[.slice A n c,.slice A2 n2 c2] w (Kw w 138 ([]:List (BitVec 32)) (.bool false)):=by
 have H:=zH h;have H2:=zH h2;have oH:=zH (ct xs);have oG:=zH (ct ys);have HC:=zH (mA hlt);clear h h2 hlt;go_enter Tryz.func242,Tryz.ntmps242;go_wp2_with fail;refine(cy H.out).mono ?_;rintro e w' ⟨A3,n3,c3,rfl,hr,rfl⟩;have HR:=zH hr;clear hr;go_wp2_with fail;refine(cy H2.out).mono ?_;rintro e w' ⟨A4,n4,c4,rfl,hr,rfl⟩;have jn:=zH hr;clear hr;go_wp2_with fail;refine(wM HR.out jn.out).mono ?_;rintro e w' ⟨rfl,m,rfl⟩;rw[oH.out,oG.out,HC.out];go_wp2_with fail;go_ret2
 exact⟨_,rfl,Own.nil _ _ _,below_drewN (Below.refl _ _) _⟩
theorem xw {S S2:Nat->Prop} {A A2:Option Addr} {n c n2 c2:Nat} {xs ys:List (BitVec 32)} {w:World} (h:RS w S A n c xs) (h2:RS w S2 A2 n2 c2 ys) (hS:∀b,S b->b<w.heap.size) (fG:∀b,S2 b->b<w.heap.size) (hn:n<=1073741824) (AG:val ys<=val xs) : Calls Tryz.prog 242 #[.slice A n c,.slice A2 n2 c2] w (Kw w 138 (bC (val xs-val ys)) (.bool true)):=by
 obtain⟨i0,hi,hz0,hz1,hz2⟩:=info_parts Tryz.u32Info;have HI:=zH hi;have sX:=zH hz0;have kP:=zH hz1;have oF:=zH hz2;have H:=zH h;have H2:=zH h2;have HL:=zH h.len;have oH:=zH (ct xs);have oG:=zH (ct ys);have hlen:(bA ys).length<=(bA xs).length:=by rw[<-bR,<-bR];exact da AG
 have hc:kf (val xs) (val ys)=0\/kf (val xs) (val ys)=1:=by
  rcases Nat.lt_or_ge (val ys) (val xs) with h|h
  ·exact .inr (mB h)
  ·exact .inl (by rw[Nat.le_antisymm AG h];exact sx _)
 have ND:=zH hlen;have X1:=zH AG;clear h h2 hi hz0 hz1 hz2 hlen AG;go_enter Tryz.func242,Tryz.ntmps242;go_wp2_with fail;refine(cy H.out).mono ?_;rintro e w' ⟨A3,n3,c3,rfl,hr,rfl⟩;have hl3:n3<=1073741824:=by have:=aR xs;have:=hr.len;have:=HL.out;omega
 have HR:=zH hr;clear hr;go_wp2_with fail;refine(cy H2.out).mono ?_;rintro e w' ⟨A4,n4,c4,rfl,hr,rfl⟩;have jn:=zH hr;clear hr;obtain⟨la,et⟩:∃l,bA xs=l:=⟨_,rfl⟩;obtain⟨lb,gz⟩:∃l,bA ys=l:=⟨_,rfl⟩;rw[et] at HR oH ND;rw[gz] at jn oG ND;have qw:=zH HR.out.len;have u3:=zH jn.out.len;clear et gz;have HCC:=zH hc;clear hc;go_upto_region 2 with(fail);go_cut [17] (λv wx=>v=.bool false/\Below w.heap.size w wx)
 case first=>
  go_wp2_with fail;refine(wM HR.out jn.out).mono ?_;rintro e w0 ⟨rfl,mm,rfl⟩;rw[oH.out,oG.out];rcases HCC.out with hc|hc
  all_goals
   rw[hc];clear hc;go_wp2_with fail;go_meet
   exact⟨rfl,below_drewN (Below.refl _ _) _⟩
 case rest=>
 obtain⟨rfl,hb0⟩:=hcut;obtain⟨w0,rfl⟩:∃w0:World,w0=wc:=⟨_,rfl⟩;have R1:=zH hb0;have XL:=zH (HR.out.below R1.out hS);have XI:=zH (jn.out.below R1.out fG);have XF:Hid (∀b,S b->b<w0.heap.size):=zH λb hb=>Nat.lt_of_lt_of_le (hS b hb) R1.out.size;have XE:Hid (∀b,S2 b->b<w0.heap.size):=zH λb hb=>Nat.lt_of_lt_of_le (fG b hb) R1.out.size;clear hb0;go_wp2_with (refine bW (α:=BitVec 32) _ rfl _ _ _ rfl rfl w0.heap.size i0 (.int .u32 0) Tryz.underlying26 HI.out sX.out kP.out rfl .i64 .i64 (n3:Int) (n3:Int) n3 rfl rfl rfl rfl (by rw[oF.out];omega) (by unfold maxLen;omega) (Nat.le_refl _) 0#32 ba (λ_ h=>h.elim) (λ_ _=>rfl) ?_; intro w1 kh hg1; have eH:=zH kh; have dc:=zH ((Below.refl w0.heap.size w0).grown hg1 (Nat.le_refl _) (λk hk=>by cases hk)); clear kh hg1);obtain⟨g,hg⟩:∃g,w0.heap.size=g:=⟨_,rfl⟩;rw[hg] at eH;rw[hg];have HG:=zH hg;clear hg;go_loopw [7,8,9,23] (λbv _ _ i wr=>∃(k br:Nat) (zs:List (BitVec 32)),k<=n3/\i=.int .i64 k/\bv=.int .u64 br/\br<=1/\zs.length=n3/\val (zs.take k)+val (lb.take k)=val (la.take k)+4294967296^k*br/\Own wr ba g 138 (.slice (some ⟨g,0,none⟩) n3 n3) zs/\Below w0.heap.size w0 wr)
  (λ_ _ _ i _=>n3-(intOf i).toNat)
 case atStart=>exact⟨0,0,List.replicate n3 0#32,by omega,rfl,rfl,by omega,by simp,by simp[val],eH.out,dc.out⟩
 case round=>
  clear eH dc;obtain⟨k,br,zs,hk,rfl,rfl,Mw,pP,dV,ho,hb⟩:=hrel;have eH:=zH ho;have dc:=zH hb;have kT:=zH pP;have fL:=zH dV;clear ho hb pP dV;by_cases hlt:k<n3
  ·have Qu:(k:Int)<(n3:Int):=by omega
   obtain⟨g',u,lO,_,_,hu,cI,im⟩:=eH.out.get1 rfl (show zs[k]?=some (zs.getD k 0#32) by rw[List.getD_eq_getElem?_getD,List.getElem?_eq_getElem (by rw[kT.out];exact hlt)];rfl);injection lO with lO
   injection lO with lO
   subst lO;obtain⟨x,yB⟩:∃x,(la.getD k 0#32).toNat=x:=⟨_,rfl⟩;obtain⟨y,Ik⟩:∃y,(lb.getD k 0#32).toNat=y:=⟨_,rfl⟩;have jt:x<4294967296:=by rw[<-yB];exact bV k
   have t4:y<4294967296:=by rw[<-Ik];exact bV k
   have e1:=aF la k;have e2:=aF lb k;rw[yB] at e1;rw[Ik] at e2;obtain⟨s,hs⟩:∃s,4294967296+x-y-br=s:=⟨_,rfl⟩;have h3:=Cl Mw jt t4 hs fL.out;rw[<-e1,<-e2] at h3;have jk:4294967296+(x:Int)-(y:Int)-(br:Int)=(s:Int):=by omega
   have dh:s<8589934592:=by omega
   have pQ:=eC s;have Iq:(s:Int)/4294967296=((s/4294967296:Nat):Int):=rfl;obtain⟨z,hz⟩:∃z,BitVec.ofNat 32 s=z:=⟨_,rfl⟩;obtain⟨d,hd⟩:∃d,s/4294967296=d:=⟨_,rfl⟩;have ew:=ci s;rw[hz] at pQ ew;rw[hd] at Iq h3;rw[<-ew] at h3;have SN:d<=1:=by omega
   obtain⟨Rm,QL⟩:∃Rm,1-d=Rm:=⟨_,rfl⟩;rw[QL] at h3;have bp:1-(d:Int)=(Rm:Int):=by omega
   have uX:Rm<=1:=by omega
   have Xs:=zH yB;have Xr:=zH Ik;have R0:=zH h3;clear yB Ik e1 e2 hs h3 hz hd QL ew hu;go_wp2_with fail;refine(fS k (XL.out.below dc.out XF.out)).mono ?_;rintro e w' ⟨rfl,rfl⟩;rw[Xs.out];go_wp2_with fail;refine(fS k (XI.out.below dc.out XE.out)).mono ?_;rintro e w' ⟨rfl,rfl⟩;rw[Xr.out];go_wp2_with fail;go_roundw
   case rel=>
    obtain⟨q1,q2⟩:=eH.out.stored (k:=k) (u:=.int .u32 (z.toNat:Int)) (x:=z) rfl rfl;refine⟨k+1,Rm,zs.set k z,by omega,by go_num,rfl,uX,by rw[List.length_set];exact kT.out,?_,q1,dc.out.setCell (by have:=HG.out;simp;omega) _⟩;rw[cw z (by rw[kT.out];exact hlt),Nat.pow_succ];exact R0.out
   case measure=>simp[intOf];omega
  ·have Vu:k=n3:=by omega
   subst Vu;have cM:val zs=val xs-val ys:=by
    have h1:=fL.out;rw[aL _ _ (by rw[kT.out];exact Nat.le_refl _),aL la _ (by rw[qw.out];exact Nat.le_refl _),aL lb _ (by have:=ND.out;rw[qw.out] at this;exact this),oH.out,oG.out] at h1;have h2:=cE zs;rw[kT.out] at h2;have h3:=X1.out;have hb0:br=0:=by
     rcases Nat.eq_zero_or_pos br with h|h
     ·exact h
     ·have:br=1:=by omega
      rw[this,Nat.mul_one] at h1;omega
    rw[hb0,Nat.mul_zero] at h1;omega
   have oy:=zH cM;clear cM hlt;go_wp2_with fail;refine(fj eH.out.rsAll (by omega)).mono ?_;rintro e w2 ⟨v,rfl,ho,hb⟩;rw[oy.out] at ho;have jo:=ah R1.out dc.out;have HO:=zH (ho.base_le jo.size);have HB:=zH (ah jo hb);clear ho hb jo;go_wp2_with fail;go_ret2
   exact⟨_,rfl,HO.out,HB.out⟩
theorem Ey {l:List (BitVec 32)} {k:Nat} (h:k<l.length):l[k]?=some (l.getD k 0#32):=by
 rw[List.getD_eq_getElem?_getD,List.getElem?_eq_getElem h];rfl
theorem Own.limb {w:World} {base g n c:Nat} {e:TypeId} {xs:List (BitVec 32)} (h:Own w ba base e (.slice (some ⟨g,0,none⟩) n c) xs) {k:Nat} (hk:k<xs.length):w.cell? ⟨g,k,none⟩=some (.int .u32 ((xs.getD k 0#32).toNat:Int))/\w.frozen? ⟨g,k,none⟩=false:=by
 obtain⟨g',u,lO,_,_,hu,cI,im⟩:=h.get1 rfl (Ey hk);injection lO with lO
 injection lO with lO
 subst lO;have t8:[u]=[FI (xs.getD k 0#32)]:=hu;injection t8 with t8
 subst t8;exact⟨cI,im⟩
theorem Own.setLimb {w:World} {base g n c:Nat} {e:TypeId} {xs:List (BitVec 32)} (h:Own w ba base e (.slice (some ⟨g,0,none⟩) n c) xs) (k:Nat) (z:BitVec 32):Own (w.setCell ⟨g,k,none⟩ (.int .u32 (z.toNat:Int))) ba base e (.slice (some ⟨g,0,none⟩) n c) (xs.set k z):=
 (h.stored (k:=k) (u:=.int .u32 (z.toNat:Int)) (x:=z) rfl rfl).1
theorem rn {S S2:Nat->Prop} {A A2:Option Addr} {n c n2 c2:Nat} {xs ys:List (BitVec 32)} {w:World} (h:RS w S A n c xs) (h2:RS w S2 A2 n2 c2 ys) (hS:∀b,S b->b<w.heap.size) (fG:∀b,S2 b->b<w.heap.size) (hn:n<=1073741824) (hn2:n2<=1073741824) : Calls Tryz.prog 212 #[.slice A n c,.slice A2 n2 c2] w (lE w 138 (bC (val xs*val ys))):=by
 obtain⟨i0,hi,hz0,hz1,hz2⟩:=info_parts Tryz.u32Info;have HI:=zH hi;have sX:=zH hz0;have kP:=zH hz1;have oF:=zH hz2;have H:=zH h;have H2:=zH h2;have HL:=zH h.len;have Bm:=zH h2.len;have oH:=zH (ct xs);have oG:=zH (ct ys);clear h h2 hi hz0 hz1 hz2;go_enter Tryz.func212,Tryz.ntmps212;go_wp2_with fail;refine(cy H.out).mono ?_;rintro e w' ⟨A3,n3,c3,rfl,hr,rfl⟩;have hl3:n3<=1073741824:=by have:=aR xs;have:=hr.len;have:=HL.out;omega
 have HR:=zH hr;clear hr;go_wp2_with fail;refine(cy H2.out).mono ?_;rintro e w' ⟨A4,n4,c4,rfl,hr,rfl⟩;have hl4:n4<=1073741824:=by have:=aR ys;have:=hr.len;have:=Bm.out;omega
 have jn:=zH hr;clear hr;obtain⟨la,et⟩:∃l,bA xs=l:=⟨_,rfl⟩;obtain⟨lb,gz⟩:∃l,bA ys=l:=⟨_,rfl⟩;rw[et] at HR oH;rw[gz] at jn oG;have qw:=zH HR.out.len;have u3:=zH jn.out.len;clear et gz;have AF:(n3:Int)+(n4:Int)=((n3+n4:Nat):Int):=by omega
 obtain⟨M,hM⟩:∃M,n3+n4=M:=⟨_,rfl⟩;rw[hM] at AF;have ZQ:M<=2147483648:=by omega
 have HM:=zH hM;clear hM;go_wp2_with (refine bW (α:=BitVec 32) _ rfl _ _ _ rfl rfl w.heap.size i0 (.int .u32 0) Tryz.underlying26 HI.out sX.out kP.out rfl .i64 .i64 (M:Int) (M:Int) M rfl rfl rfl rfl (by rw[oF.out];omega) (by unfold maxLen;omega) (Nat.le_refl _) 0#32 ba (λ_ h=>h.elim) (λ_ _=>rfl) ?_; intro w1 kh hg1; have eH:=zH kh; have dc:=zH ((Below.refl w.heap.size w).grown hg1 (Nat.le_refl _) (λk hk=>by cases hk)); clear kh hg1);obtain⟨g,hg⟩:∃g,w.heap.size=g:=⟨_,rfl⟩;rw[hg] at eH;rw[hg];have HG:=zH hg;clear hg AF;go_loopw [24] (λi wr=>∃(k:Nat) (zs:List (BitVec 32)),k<=n3/\i=.int .i64 k/\zs.length=M/\val (zs.take (k+n4))=val (la.take k)*val lb/\Own wr ba g 138 (.slice (some ⟨g,0,none⟩) M M) zs/\Below w.heap.size w wr)
  (λi _=>n3-(intOf i).toNat)
 case atStart=>exact⟨0,List.replicate M 0#32,by omega,rfl,by simp,by rw[List.take_replicate,oJ];simp[val],eH.out,dc.out⟩
 case round=>
  clear eH dc;obtain⟨k,zs,hk,rfl,pP,dV,ho,hb⟩:=hrel;have eH:=zH ho;have dc:=zH hb;have kT:=zH pP;have fL:=zH dV;clear ho hb pP dV;by_cases hlt:k<n3
  ·have hk3:(k:Int)<(n3:Int):=by omega
   obtain⟨b,o,x0,rfl,wB,hx,e1⟩:=(HR.out.below dc.out hS).limb_at hlt;have Y8:(la.getD k 0#32).toNat=x0.toNat:=by rw[List.getD_eq_getElem?_getD,hx];rfl
   have jt:=x0.isLt;have hxw:IntKind.u64.wrap (x0.toNat:Int)=(x0.toNat:Int):=by rw[IntKind.wrap_u64];omega
   have HXG:=zH Y8;clear Y8 hx;go_wp2_with fail;obtain⟨wd,rfl⟩:∃wd:World,wd=wr:=⟨_,rfl⟩;go_loopw [8,31] (λcv j wr=>∃(q cr:Nat) (ts:List (BitVec 32)),q<=n4/\j=.int .i64 q/\cv=.int .u64 cr/\cr<4294967296/\ts.length=M/\ts.drop (k+q)=zs.drop (k+q)/\val (ts.take (k+q))+4294967296^(k+q)*cr=val (zs.take (k+q))+4294967296^k*(x0.toNat*val (lb.take q))/\Own wr ba g 138 (.slice (some ⟨g,0,none⟩) M M) ts/\Below w.heap.size w wr)
    (λ_ j _=>n4-(intOf j).toNat)
   case atStart=>exact⟨0,0,zs,by omega,rfl,rfl,by omega,kT.out,rfl,by simp[val],eH.out,dc.out⟩
   case round=>
    clear eH dc;obtain⟨q,cr,ts,hq,rfl,rfl,VL,Az,Zx,J8,ho,hb⟩:=hrel;have BB:=zH ho;have fM:=zH hb;have zf:=zH Az;have HDR:=zH Zx;have KA:=zH J8;clear ho hb Az Zx J8;by_cases wv:q<n4
    ·have hq4:(q:Int)<(n4:Int):=by omega
     obtain⟨b2,o2,y0,rfl,QP,hy,e2⟩:=(jn.out.below fM.out fG).limb_at wv;have Y4:(lb.getD q 0#32).toNat=y0.toNat:=by rw[List.getD_eq_getElem?_getD,hy];rfl
     have t4:=y0.isLt;have Y0:IntKind.u64.wrap (y0.toNat:Int)=(y0.toNat:Int):=by rw[IntKind.wrap_u64];omega
     have Vt:(k:Int)+(q:Int)=((k+q:Nat):Int):=by omega
     have Mi:k+q<M:=by have:=HM.out;omega
     obtain⟨cI,im⟩:=BB.out.limb (k:=k+q) (by rw[zf.out];exact Mi);have YX:(zs.getD (k+q) 0#32)=ts.getD (k+q) 0#32:=by
      have h1:=congrArg (·[0]?) HDR.out;simp only[List.getElem?_drop,Nat.add_zero] at h1;rw[List.getD_eq_getElem?_getD,List.getD_eq_getElem?_getD,h1]
     have e3:=aF zs (k+q);have e4:=aF lb q;rw[Y4] at e4;rw[YX] at e3;obtain⟨z0,hz0⟩:∃z0,ts.getD (k+q) 0#32=z0:=⟨_,rfl⟩;rw[hz0] at cI e3;have UN:=z0.isLt;have hzw:IntKind.u64.wrap (z0.toNat:Int)=(z0.toNat:Int):=by rw[IntKind.wrap_u64];omega
     obtain⟨bp,bQ⟩:=Ah jt t4 UN VL;obtain⟨s,hs⟩:∃s,x0.toNat*y0.toNat+z0.toNat+cr=s:=⟨_,rfl⟩;have h3:=Dh (B:=4294967296) (p:=4294967296^(k+q)) (pi:=4294967296^k) (pj:=4294967296^q) (by rw[Nat.pow_add]) hs KA.out;rw[<-e3,<-e4] at h3;obtain⟨p,hp⟩:∃p,x0.toNat*y0.toNat=p:=⟨_,rfl⟩;have hpi:(x0.toNat:Int)*(y0.toNat:Int)=(p:Int):=by rw[<-hp];exact(Int.natCast_mul _ _).symm
     rw[hp] at bp bQ hs;have jk:(p:Int)+(z0.toNat:Int)+(cr:Int)=(s:Int):=by omega
     have NV:(p:Int)+(z0.toNat:Int)<18446744073709551616:=by omega
     have hs3:s<18446744073709551616:=by omega
     have pQ:=eC s;have Iq:(s:Int)/4294967296=((s/4294967296:Nat):Int):=rfl;obtain⟨z,hz⟩:∃z,BitVec.ofNat 32 s=z:=⟨_,rfl⟩;obtain⟨I5,Ek⟩:∃I5,s/4294967296=I5:=⟨_,rfl⟩;have ew:=ci s;rw[hz] at pQ ew;rw[Ek] at Iq h3;rw[<-ew] at h3;have pW:I5<4294967296:=by omega
     obtain⟨r,hr⟩:∃r,k+q=r:=⟨_,rfl⟩;rw[hr] at Vt Mi cI im;have U8:(r:Int)<(M:Int):=by omega
     have R0:=zH h3;have Bl:=zH hr;clear Y4 e3 e4 hs hp hz Ek ew hz0 YX hy h3 hr bQ;go_wp2_with fail;go_roundw
     case rel=>
      have SH:k+(q+1)=r+1:=by have:=Bl.out;omega
      refine⟨q+1,I5,ts.set r z,by omega,by go_num,rfl,pW,by rw[List.length_set];exact zf.out,?_,?_,BB.out.setLimb r z,fM.out.setCell (by have:=HG.out;simp;omega) _⟩
      ·rw[SH,List.drop_set_of_lt (by omega),<-Bl.out,<-List.drop_drop,HDR.out,List.drop_drop]
      ·rw[SH,cw z (by rw[zf.out];exact Mi),<-Bl.out,Nat.pow_succ];exact R0.out
     case measure=>simp[intOf];omega
    ·have Zh:q=n4:=by omega
     have Qu:(k:Int)+(n4:Int)=((k+n4:Nat):Int):=by omega
     obtain⟨r,hr⟩:∃r,k+n4=r:=⟨_,rfl⟩;have U8:r<M:=by have:=HM.out;omega
     obtain⟨cI,im⟩:=BB.out.limb (k:=r) (by rw[zf.out];exact U8);have Zc:(r:Int)<(M:Int):=by omega
     rw[hr] at Qu;have pQ:=eC cr;obtain⟨z,hz⟩:∃z,BitVec.ofNat 32 cr=z:=⟨_,rfl⟩;have ew:=ci cr;rw[hz] at pQ ew;have LU:z.toNat=cr:=by omega
     have jx:val ((ts.set r z).take (r+1))=val (la.take (k+1))*val lb:=by
      have h1:=KA.out;rw[Zh,hr,aL lb _ (by rw[u3.out];exact Nat.le_refl _)] at h1;have h2:=fL.out;rw[hr] at h2;rw[h2] at h1;have h4:=aF la k;rw[HXG.out] at h4;rw[cw z (by rw[zf.out];exact U8),LU,h1,h4,Nat.add_mul,Nat.mul_assoc]
     have xa:=zH jx;have Bl:=zH hr;clear jx Zh hr LU ew hz VL;go_wp2_with fail;go_roundw
     case rel=>
      refine⟨k+1,ts.set r z,by omega,by go_num,by rw[List.length_set];exact zf.out,?_,BB.out.setLimb r z,fM.out.setCell (by have:=HG.out;simp;omega) _⟩;have SH:k+1+n4=r+1:=by have:=Bl.out;omega
      rw[SH];exact xa.out
     case measure=>simp[intOf];omega
  ·have oV:k=n3:=by omega
   have cM:val zs=val xs*val ys:=by
    have h1:=fL.out;rw[oV,aL _ _ (by rw[kT.out];have:=HM.out;omega),aL la _ (by rw[qw.out];exact Nat.le_refl _),oH.out,oG.out] at h1;exact h1
   have oy:=zH cM;clear cM oV;go_wp2_with fail;refine(fj eH.out.rsAll (by omega)).mono ?_;rintro e w2 ⟨v,rfl,ho,hb⟩;rw[oy.out] at ho;have HO:=zH (ho.base_le dc.out.size);have HB:=zH (ah dc.out hb);clear ho hb;go_wp2_with fail;go_ret
   exact⟨_,rfl,HO.out,HB.out⟩
def uN (w:World) (v n d:Nat) (en:Ending) (w':World):Prop:=
 ∃(s:Value) (qs:List (BitVec 32)),en=.returned (.tuple #[s,.int .u64 ((v%d:Nat):Int)])/\Own w' ba w.heap.size 138 s qs/\val qs=v/d/\qs.length=n/\Below w.heap.size w w'
theorem Li (a x:Nat) (ha:a<4294967296) (hx:x<4294967296):bits .or .u64 ((a:Int)*4294967296) (x:Int)=((a*4294967296+x:Nat):Int):=by
 have e:(a:Int)*4294967296=((a*4294967296:Nat):Int):=by omega
 rw[e,u64_or_nat _ _ (by omega) (by omega),tD _ _ hx]
theorem o9 {S:Nat->Prop} {A:Option Addr} {n c:Nat} {xs:List (BitVec 32)} {w:World} (d:Nat) (h:RS w S A n c xs) (hS:∀b,S b->b<w.heap.size) (hn:n<=1073741824) (hd:0<d) (IA:d<4294967296) : Calls Tryz.prog 201 #[.slice A n c,.int .u64 d] w (uN w (val xs) n d):=by
 obtain⟨i0,hi,hz0,hz1,hz2⟩:=info_parts Tryz.u32Info;have HI:=zH hi;have sX:=zH hz0;have kP:=zH hz1;have oF:=zH hz2;have H:=zH h;have HL:=zH h.len;clear h hi hz0 hz1 hz2;go_enter Tryz.func201,Tryz.ntmps201;go_wp2_with (refine bW (α:=BitVec 32) _ rfl _ _ _ rfl rfl w.heap.size i0 (.int .u32 0) Tryz.underlying26 HI.out sX.out kP.out rfl .i64 .i64 (n:Int) (n:Int) n rfl rfl rfl rfl (by rw[oF.out];omega) (by unfold maxLen;omega) (Nat.le_refl _) 0#32 ba (λ_ h=>h.elim) (λ_ _=>rfl) ?_; intro w1 kh hg1; have eH:=zH kh; have dc:=zH ((Below.refl w.heap.size w).grown hg1 (Nat.le_refl _) (λk hk=>by cases hk)); clear kh hg1);obtain⟨g,hg⟩:∃g,w.heap.size=g:=⟨_,rfl⟩;rw[hg] at eH;rw[hg];have HG:=zH hg;clear hg;go_loopw [7,8] (λrv i wr=>∃(k r:Nat) (z:Int) (qs:List (BitVec 32)),k<=n/\i=.int .i64 z/\z+1=k/\rv=.int .u64 r/\r<d/\qs.length=n/\val (qs.drop k)*d+r=val (xs.drop k)/\Own wr ba g 138 (.slice (some ⟨g,0,none⟩) n n) qs/\Below w.heap.size w wr)
  (λ_ i _=>(intOf i+1).toNat)
 case atStart=>exact⟨n,0,(n:Int)-1,List.replicate n 0#32,Nat.le_refl _,rfl,by omega,rfl,hd,by simp,by rw[List.drop_eq_nil_of_le (by simp),List.drop_eq_nil_of_le (by rw[HL.out];exact Nat.le_refl _)];simp[val],eH.out,dc.out⟩
 case round=>
  clear eH dc;obtain⟨k,r,z,qs,hk,rfl,hz,rfl,hr,sT,dV,ho,hb⟩:=hrel;have eH:=zH ho;have dc:=zH hb;have zh:=zH sT;have fL:=zH dV;clear ho hb sT dV;rcases k with _|k
  ·obtain rfl:z= -1:=by omega
   have N4:=qi (fL.out) hr;rw[List.drop_zero,List.drop_zero] at N4;have HD:=zH N4;clear N4 hz;go_wp2_with fail;go_ret2
   exact⟨_,qs,by rw[<-HD.out.2];rfl,by rw[HG.out];exact eH.out,HD.out.1,zh.out,dc.out⟩
  ·obtain rfl:z=k:=by omega
   have oV:(k:Int)<(n:Int):=by omega
   obtain⟨b,o,a,rfl,_,hx,e1⟩:=(H.out.below dc.out hS).limb_at (k:=k) (by omega);have hal:=a.isLt;have J2:=fN hx;obtain⟨cI,im⟩:=eH.out.limb (k:=k) (by rw[zh.out];omega);obtain⟨x,yB⟩:∃x,r*4294967296+a.toNat=x:=⟨_,rfl⟩;have hs:=vz (B:=4294967296) yB fL.out;rw[<-J2] at hs;have sT:=CE hr hal yB;have jG:=Li r a.toNat (by omega) hal;rw[yB] at jG;have hxb:x<18446744073709551616:=by omega
   obtain⟨q,hq⟩:∃q,x/d=q:=⟨_,rfl⟩;obtain⟨r',fa⟩:∃r',x%d=r':=⟨_,rfl⟩;have AA:r'<d:=by rw[<-fa];exact Nat.mod_lt _ hd
   rw[hq] at hs sT;rw[fa] at hs;have SE:(x:Int).tdiv (d:Int)=(q:Int):=by rw[<-hq];rfl
   have FT:(x:Int).tmod (d:Int)=(r':Int):=by rw[<-fa];rfl
   have Qh:(x:Int)/(d:Int)=(q:Int):=by rw[<-hq];rfl
   have Qa:(x:Int)%(d:Int)=(r':Int):=by rw[<-fa];rfl
   have haw:IntKind.u64.wrap (a.toNat:Int)=(a.toNat:Int):=by rw[IntKind.wrap_u64];omega
   have pQ:=eC q;obtain⟨zq,JZ⟩:∃z,BitVec.ofNat 32 q=z:=⟨_,rfl⟩;have ew:=ci q;rw[JZ] at pQ ew;have Bq:zq.toNat=q:=by omega
   have jx:val ((qs.set k zq).drop k)*d+r'=val (xs.drop k):=by
    rw[jL zq (by rw[zh.out];omega),val,Bq];exact hs
   have VK:((d:Int)==0)=false:=by rw[beq_eq_false_iff_ne];omega
   have xa:=zH jx;clear hs hx J2 yB hq fa JZ ew Bq jx hz;go_wp2_with fail;go_roundw
   case rel=>exact⟨k,r',(k:Int)-1,qs.set k zq,by omega,by go_num,by omega,rfl,AA,by rw[List.length_set];exact zh.out,xa.out,eH.out.setLimb k zq,dc.out.setCell (by have:=HG.out;simp;omega) _⟩
   case measure=>simp[intOf]
end Go.Proofs.YtichkplomldgiaaGreatDoor
