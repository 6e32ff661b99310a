/- Nat2 Nat3 Nat4 Nat5 Nat6 -/
import Derived.Test.YtdbpbfglhbiadaaGreatDoorH02
import Derived.Test.YtdbpbfglhbiadaaGreatDoorH01
import Derived.Deep.DeepCutAuto
set_option maxHeartbeats 4000000
set_option maxRecDepth 100000
namespace Go.Proofs.YtdbpbfglhbiadaaGreatDoor
open Go.RowKit
theorem Own.rsAll {α:Type} [aA α] {w:World} {base:Nat} {e:TypeId} {A:Option Addr} {n c:Nat} {xs:List α} (h:Own w bi base e (.slice A n c) xs):RS w (·<w.heap.size) A n c xs:=h.rs (λ_ h=>h.elim) (λ_ _ h=>h)
theorem On (n:Nat) (h:n<18446744073709551616):val [BitVec.ofNat 32 n,BitVec.ofNat 32 (n/4294967296)]=n:=by
 simp only[val,BitVec.toNat_ofNat];omega
theorem Ac (n:Nat) (w:World) (h:n<18446744073709551616):Calls Tryz.prog 219 #[.int .u64 n] w (jf w 172 (cJ n)):=by
 have hv:=On n h;obtain⟨x,hx⟩:∃x,BitVec.ofNat 32 n=x:=⟨_,rfl⟩;obtain⟨y,hy⟩:∃y,BitVec.ofNat 32 (n/4294967296)=y:=⟨_,rfl⟩;have h1:IntKind.u32.wrap (n:Int)=(x.toNat:Int):=by rw[<-hx,IntKind.wrap_u32,BitVec.toNat_ofNat];omega
 have h2:IntKind.u32.wrap ((n:Int)/4294967296)=(y.toNat:Int):=by rw[<-hy,IntKind.wrap_u32,BitVec.toNat_ofNat];omega
 rw[hx,hy] at hv;have HV:=zH hv;clear hv hx hy;go_enter Tryz.func219,Tryz.ntmps219;go_wp2_with fail;have hb:Below w.heap.size w (w.alloc (.cells #[.int .u32 (x.toNat:Int),.int .u32 (y.toNat:Int)] 172)):=(Below.refl _ _).alloc (Nat.le_refl _) _;have hr:RS (w.alloc (.cells #[.int .u32 (x.toNat:Int),.int .u32 (y.toNat:Int)] 172)) (λ_=>True) (some ⟨w.heap.size,0,none⟩) 2 2 [x,y]:=
  RS.of_blk (t:=172) (cs:=#[.int .u32 (x.toNat:Int),.int .u32 (y.toNat:Int)]) (df.new _ _ _) (Flat.limbs [x,y]) rfl (Nat.le_refl _) (by decide) trivial
 refine(jz hr (by omega)).mono ?_;rintro e w2 ⟨v,rfl,ho,bX⟩;rw[HV.out] at ho;have HO:=zH (ho.base_le (Nat.le_trans hb.size (Nat.le_refl _)));have HB:=zH (au hb bX);clear ho hb bX hr h1 h2;go_wp2_with fail;go_ret
 exact⟨_,rfl,HO.out,HB.out⟩
theorem Gv {S S2:Nat->Prop} {A A2:Option Addr} {n c n2 c2:Nat} {xs ys:List (BitVec 32)} {w:World} (h:RS w S A n c xs) (h2:RS w S2 A2 n2 c2 ys) : Calls Tryz.prog 221 #[.slice A n c,.slice A2 n2 c2] w (En w (.int .i64 (jQ (val xs) (val ys)))):=by
 have H:=zH h;have H2:=zH h2;have Z7:=eC xs;have Z6:=eC ys;have hlx:=du xs;have hly:=du ys;have xo:=zH Z7;have xn:=zH Z6;have HLX:=zH hlx;have HLY:=zH hly;clear h h2 Z7 Z6 hlx hly;go_enter Tryz.func221,Tryz.ntmps221;go_wp2_with fail;refine(eH H.out).mono ?_;rintro e w' ⟨A3,n3,c3,rfl,hr,rfl⟩;have HR:=zH hr;clear hr;go_wp2_with fail;refine(eH H2.out).mono ?_;rintro e w' ⟨A4,n4,c4,rfl,hr,rfl⟩;have oe:=zH hr;have hm3:=HR.out.max;have hm4:=hr.max;clear hr;obtain⟨l3,hl3⟩:∃l,cM xs=l:=⟨_,rfl⟩;obtain⟨l4,hl4⟩:∃l,cM ys=l:=⟨_,rfl⟩;rw[hl3] at HR xo HLX;rw[hl4] at oe xn HLY;have zn:=zH HR.out.len;have EO:=zH oe.out.len;clear hl3 hl4;by_cases hlt:n3=n4
 ·subst hlt;have hb:((n3:Int) !=(n3:Int))=false:=by simp
  go_wp2_with fail;go_loopw [5,27,37] (λv _ _ wr=>∃(k m:Nat) (z:Int),k<=n3/\v=.int .i64 z/\z+1=k/\l3.drop k=l4.drop k/\wr=w.drewN m) (λv _ _ _=>(intOf v+1).toNat)
  case atStart=>exact⟨n3,0,(n3:Int)-1,Nat.le_refl _,rfl,by omega,by rw[List.drop_eq_nil_of_le (by rw[zn.out];exact Nat.le_refl _),List.drop_eq_nil_of_le (by rw[EO.out];exact Nat.le_refl _)],rfl⟩
  case round=>
   obtain⟨k,m,z,hk,rfl,hz,hd,rfl⟩:=hrel;have HD:=zH hd;clear hd;rcases k with _|k
   ·obtain rfl:z= -1:=by omega
    have he:jQ (val xs) (val ys)=0:=by
     have h1:=HD.out;rw[List.drop_zero,List.drop_zero] at h1;rw[<-xo.out,<-xn.out,h1,qK]
    have HE:=zH he;clear he hz;go_wp2_with fail;go_ret
    exact⟨gP (by rw[HE.out];rfl),_,rfl⟩
   ·obtain rfl:z=k:=by omega
    obtain⟨b,o,x,rfl,_,hx,e1⟩:=HR.out.limb_at (k:=k) (by omega);obtain⟨b2,o2,y,rfl,_,hy,e2⟩:=oe.out.limb_at (k:=k) (by omega);have pz:(k:Int)<(n3:Int):=by omega
    have HX:=zH hx;have HY:=zH hy;clear hx hy hz;rcases Nat.lt_trichotomy x.toNat y.toNat with hc|hc|hc
    ·have he:jQ (val xs) (val ys)= -1:=by
      rw[<-xo.out,<-xn.out];exact nY (mI HD.out HX.out HY.out hc)
     have HE:=zH he;have d1:decide (x.toNat<y.toNat)=true:=decide_eq_true (by omega);clear he hc;go_wp2_with fail;go_quiet (fail)
     go_wp2_with fail;go_ret
     exact⟨gP (by rw[HE.out];rfl),_,World.drewN_drewN _ _ _⟩
    ·have mZ:x=y:=BitVec.eq_of_toNat_eq hc;have hn:=Bb HD.out HX.out (by rw[mZ];exact HY.out);have HN:=zH hn;have d1:decide (x.toNat<y.toNat)=false:=decide_eq_false (by omega);have d2:decide (y.toNat<x.toNat)=false:=decide_eq_false (by omega);clear hn mZ hc;go_wp2_with fail;go_quiet (fail)
     go_wp2_with fail;go_quiet (fail)
     go_wp2_with fail;go_roundw
     case rel=>exact⟨k,_,(k:Int)-1,by omega,by go_num,by omega,HN.out,by first|rfl|(rw[World.drewN_drewN,World.drewN_drewN])|(rw[World.drewN_drewN])⟩
     case measure=>simp[intOf]
    ·have he:jQ (val xs) (val ys)=1:=by
      rw[<-xo.out,<-xn.out];exact nZ (mI HD.out.symm HY.out HX.out hc)
     have HE:=zH he;have d1:decide (x.toNat<y.toNat)=false:=decide_eq_false (by omega);have d2:decide (y.toNat<x.toNat)=true:=decide_eq_true (by omega);clear he hc;go_wp2_with fail;go_quiet (fail)
     go_wp2_with fail;go_quiet (fail)
     go_wp2_with fail;go_ret
     exact⟨gP (by rw[HE.out];rfl),_,(congrArg (λw=>World.drewN w _) (World.drewN_drewN _ _ _)).trans (World.drewN_drewN _ _ _)⟩
 ·have hb:((n3:Int) !=(n4:Int))=true:=by simp;omega
  by_cases h3:n3<n4
  ·have he:jQ (val xs) (val ys)= -1:=nY (kO (by rw[HLX.out,HLY.out,zn.out,EO.out];exact h3));have HE:=zH he;clear he;go_wp2_with fail;go_ret
   exact⟨gP (by rw[HE.out];rfl),0,rfl⟩
  ·have he:jQ (val xs) (val ys)=1:=nZ (kO (by rw[HLX.out,HLY.out,zn.out,EO.out];omega));have HE:=zH he;clear he;go_wp2_with fail;go_ret
   exact⟨gP (by rw[HE.out];rfl),0,rfl⟩
theorem Tryz.u32Info:(Tryz.prog.info? 172).map (λi=>(i.zero,i.size,i.bytes))=some (some (.int .u32 0),1,4):=by kernel_rfl
theorem iP (s:Nat):IntKind.u32.wrap (s:Int)=((BitVec.ofNat 32 s).toNat:Int):=by rw[IntKind.wrap_u32,BitVec.toNat_ofNat];omega
theorem d9 (s:Nat):(BitVec.ofNat 32 s).toNat=s%4294967296:=by rw[BitVec.toNat_ofNat]
theorem dD {l:List (BitVec 32)} (k:Nat):(l.getD k 0#32).toNat<4294967296:=(l.getD k 0#32).isLt
theorem Wu {S S2:Nat->Prop} {A A2:Option Addr} {n c n2 c2:Nat} {xs ys:List (BitVec 32)} {w:World} (h:RS w S A n c xs) (h2:RS w S2 A2 n2 c2 ys) (hS:∀b,S b->b<w.heap.size) (gZ:∀b,S2 b->b<w.heap.size) (hn:n<=1073741824) (hn2:n2<=1073741824) : Calls Tryz.prog 227 #[.slice A n c,.slice A2 n2 c2] w (jf w 172 (cJ (val xs+val ys))):=by
 obtain⟨i0,hi,l9,gC,jR⟩:=info_parts Tryz.u32Info;have HI:=zH hi;have tZ:=zH l9;have mD:=zH gC;have ot:=zH jR;have H:=zH h;have H2:=zH h2;have HL:=zH h.len;have ow:=zH h2.len;have xo:=zH (eC xs);have xn:=zH (eC ys);clear h h2 hi l9 gC jR;go_enter Tryz.func227,Tryz.ntmps227;go_wp2_with fail;refine(eH H.out).mono ?_;rintro e w' ⟨A3,n3,c3,rfl,hr,rfl⟩;have hl3:n3<=1073741824:=by have:=bI xs;have:=hr.len;have:=HL.out;omega
 have HR:=zH hr;clear hr;go_wp2_with fail;refine(eH H2.out).mono ?_;rintro e w' ⟨A4,n4,c4,rfl,hr,rfl⟩;have hl4:n4<=1073741824:=by have:=bI ys;have:=hr.len;have:=ow.out;omega
 have oe:=zH hr;clear hr;obtain⟨la,iI⟩:∃l,cM xs=l:=⟨_,rfl⟩;obtain⟨lb,kQ⟩:∃l,cM ys=l:=⟨_,rfl⟩;rw[iI] at HR xo;rw[kQ] at oe xn;have zn:=zH HR.out.len;have EO:=zH oe.out.len;clear iI kQ;go_upto_region 2 with(fail);go_cut [5] (λv wx=>∃m:Nat,v=.int .i64 m/\n3<=m/\n4<=m/\m<=1073741824/\w=wx)
 case first=>
  by_cases hc:(n3:Int)<(n4:Int)
  ·go_wp2_with fail;go_meet
   exact⟨n4,rfl,by omega,by omega,by omega,rfl⟩
  ·go_wp2_with fail;go_meet
   exact⟨n3,rfl,by omega,by omega,by omega,rfl⟩
 case rest=>
 obtain⟨m,rfl,hm3,hm4,hm,rfl⟩:=hcut;have I1:(m:Int)+1=((m+1:Nat):Int):=by omega
 obtain⟨M,hM⟩:∃M,m+1=M:=⟨_,rfl⟩;rw[hM] at I1;have hMb:M<=1073741825:=by omega
 have HM:=zH hM;clear hM;go_wp2_with (refine bR (α:=BitVec 32) _ rfl _ _ _ rfl rfl w.heap.size i0 (.int .u32 0) Tryz.underlying26 HI.out tZ.out mD.out rfl .i64 .i64 (M:Int) (M:Int) M rfl rfl rfl rfl (by rw[ot.out];omega) (by unfold maxLen;omega) (Nat.le_refl _) 0#32 bi (λ_ h=>h.elim) (λ_ _=>rfl) ?_; intro w1 py hg1; have iG:=zH py; have fe:=zH ((Below.refl w.heap.size w).grown hg1 (Nat.le_refl _) (λk hk=>by cases hk)); clear py hg1);obtain⟨g,hg⟩:∃g,w.heap.size=g:=⟨_,rfl⟩;rw[hg] at iG;rw[hg];have HG:=zH hg;clear hg I1;go_loopw [7,8,9,23] (λcv _ _ i wr=>∃(k cr:Nat) (zs:List (BitVec 32)),k<=m/\i=.int .i64 k/\cv=.int .u64 cr/\cr<=1/\zs.length=M/\val (zs.take k)+4294967296^k*cr=val (la.take k)+val (lb.take k)/\Own wr bi g 172 (.slice (some ⟨g,0,none⟩) M M) zs/\Below w.heap.size w wr)
  (λ_ _ _ i _=>m-(intOf i).toNat)
 case atStart=>exact⟨0,0,List.replicate M 0#32,by omega,rfl,rfl,by omega,by simp,by simp[val],iG.out,fe.out⟩
 case round=>
  clear iG fe;obtain⟨k,cr,zs,hk,rfl,rfl,hcr,yE,gY,ho,hb⟩:=hrel;have iG:=zH ho;have fe:=zH hb;have ri:=zH yE;have jV:=zH gY;clear ho hb yE gY;by_cases hlt:k<m
  ·have hkM:(k:Int)<(M:Int):=by have:=HM.out;omega
   have hx:=zn.out;obtain⟨g',u,tr,_,_,hu,eO,mf⟩:=iG.out.get1 rfl (show zs[k]?=some (zs.getD k 0#32) by rw[List.getD_eq_getElem?_getD,List.getElem?_eq_getElem (by rw[ri.out];have:=HM.out;omega)];rfl);injection tr with tr
   injection tr with tr
   subst tr;obtain⟨x,uj⟩:∃x,(la.getD k 0#32).toNat=x:=⟨_,rfl⟩;obtain⟨y,UW⟩:∃y,(lb.getD k 0#32).toNat=y:=⟨_,rfl⟩;have kC:x<4294967296:=by rw[<-uj];exact dD k
   have Db:y<4294967296:=by rw[<-UW];exact dD k
   have e1:=bc la k;have e2:=bc lb k;rw[uj] at e1;rw[UW] at e2;obtain⟨s,hs⟩:∃s,x+y+cr=s:=⟨_,rfl⟩;have h3:=Eh hs jV.out;rw[<-e1,<-e2] at h3;have ml:(x:Int)+(y:Int)+(cr:Int)=(s:Int):=by omega
   have fm:s<8589934592:=by omega
   have yF:=iP s;have U6:(s:Int)/4294967296=((s/4294967296:Nat):Int):=rfl;obtain⟨z,hz⟩:∃z,BitVec.ofNat 32 s=z:=⟨_,rfl⟩;obtain⟨VV,Qa⟩:∃VV,s/4294967296=VV:=⟨_,rfl⟩;have gD:=d9 s;rw[hz] at yF gD;rw[Qa] at U6 h3;rw[<-gD] at h3;have tU:VV<=1:=by omega
   have HXX:=zH uj;have HYY:=zH UW;have HH3:=zH h3;clear uj UW e1 e2 hs h3 hz Qa gD hu hx;go_wp2_with fail;refine(j4 k (HR.out.below fe.out hS)).mono ?_;rintro e w' ⟨rfl,rfl⟩;rw[HXX.out];go_wp2_with fail;refine(j4 k (oe.out.below fe.out gZ)).mono ?_;rintro e w' ⟨rfl,rfl⟩;rw[HYY.out];go_wp2_with fail;go_roundw
   case rel=>
    obtain⟨q1,q2⟩:=iG.out.stored (k:=k) (u:=.int .u32 (z.toNat:Int)) (x:=z) rfl rfl;refine⟨k+1,VV,zs.set k z,by omega,by go_num,rfl,tU,by rw[List.length_set];exact ri.out,?_,q1,fe.out.setCell (by have:=HG.out;simp;omega) _⟩;rw[eG z (by rw[ri.out];have:=HM.out;omega),Nat.pow_succ];exact HH3.out
   case measure=>simp[intOf];omega
  ·have hkm:k=m:=by omega
   subst hkm;have hkM:(k:Int)<(M:Int):=by have:=HM.out;omega
   obtain⟨g',u,tr,_,_,hu,eO,mf⟩:=iG.out.get1 rfl (show zs[k]?=some (zs.getD k 0#32) by rw[List.getD_eq_getElem?_getD,List.getElem?_eq_getElem (by rw[ri.out];have:=HM.out;omega)];rfl);injection tr with tr
   injection tr with tr
   subst tr;have yF:=iP cr;obtain⟨z,hz⟩:∃z,BitVec.ofNat 32 cr=z:=⟨_,rfl⟩;have gD:=d9 cr;rw[hz] at yF gD;have ZZ:z.toNat=cr:=by omega
   obtain⟨q1,q2⟩:=iG.out.stored (k:=k) (u:=.int .u32 (z.toNat:Int)) (x:=z) rfl rfl;have dS:val (zs.set k z)=val xs+val ys:=by
    have h1:=eG z (l:=zs) (k:=k) (by rw[ri.out];have:=HM.out;omega);rw[bz _ _ (by rw[List.length_set,ri.out];have:=HM.out;omega),ZZ,jV.out,bz _ _ (by rw[zn.out];exact hm3),bz _ _ (by rw[EO.out];exact hm4),xo.out,xn.out] at h1;exact h1
   have hq:=q1.rsAll;have hqb:Below w.heap.size w (wr.setCell ⟨g,k,none⟩ (.int .u32 (z.toNat:Int))):=fe.out.setCell (by have:=HG.out;simp;omega) _;have xg:=zH dS;have HQ:=zH hq;have HQB:=zH hqb;clear dS hq hqb q1 q2 ZZ gD hz hu hlt;go_wp2_with fail;refine(jz HQ.out (by omega)).mono ?_;rintro e w2 ⟨v,rfl,ho,hb⟩;rw[xg.out] at ho;have HO:=zH (ho.base_le HQB.out.size);have HB:=zH (au HQB.out hb);clear ho hb;go_wp2_with fail;go_ret
   exact⟨_,rfl,HO.out,HB.out⟩
def X6 {α:Type} [aA α] (w:World) (e:TypeId) (xs:List α) (u:Value) (en:Ending) (w':World):Prop:=
 ∃v',en=.returned (.tuple #[v',u])/\Own w' bi w.heap.size e v' xs/\Below w.heap.size w w'
theorem Ta {S S2:Nat->Prop} {A A2:Option Addr} {n c n2 c2:Nat} {xs ys:List (BitVec 32)} {w:World} (h:RS w S A n c xs) (h2:RS w S2 A2 n2 c2 ys) (hlt:val xs<val ys) : Calls Tryz.prog 228 #[.slice A n c,.slice A2 n2 c2] w (X6 w 172 ([]:List (BitVec 32)) (.bool false)):=by
 have H:=zH h;have H2:=zH h2;have xo:=zH (eC xs);have xn:=zH (eC ys);have HC:=zH (nY hlt);clear h h2 hlt;go_enter Tryz.func228,Tryz.ntmps228;go_wp2_with fail;refine(eH H.out).mono ?_;rintro e w' ⟨A3,n3,c3,rfl,hr,rfl⟩;have HR:=zH hr;clear hr;go_wp2_with fail;refine(eH H2.out).mono ?_;rintro e w' ⟨A4,n4,c4,rfl,hr,rfl⟩;have oe:=zH hr;clear hr;go_wp2_with fail;refine(Gv HR.out oe.out).mono ?_;rintro e w' ⟨rfl,m,rfl⟩;rw[xo.out,xn.out,HC.out];go_wp2_with fail;go_ret2
 exact⟨_,rfl,Own.nil _ _ _,below_drewN (Below.refl _ _) _⟩
theorem Hk {S S2:Nat->Prop} {A A2:Option Addr} {n c n2 c2:Nat} {xs ys:List (BitVec 32)} {w:World} (h:RS w S A n c xs) (h2:RS w S2 A2 n2 c2 ys) (hS:∀b,S b->b<w.heap.size) (gZ:∀b,S2 b->b<w.heap.size) (hn:n<=1073741824) (By:val ys<=val xs) : Calls Tryz.prog 228 #[.slice A n c,.slice A2 n2 c2] w (X6 w 172 (cJ (val xs-val ys)) (.bool true)):=by
 obtain⟨i0,hi,l9,gC,jR⟩:=info_parts Tryz.u32Info;have HI:=zH hi;have tZ:=zH l9;have mD:=zH gC;have ot:=zH jR;have H:=zH h;have H2:=zH h2;have HL:=zH h.len;have xo:=zH (eC xs);have xn:=zH (eC ys);have bJ:(cM ys).length<=(cM xs).length:=by rw[<-du,<-du];exact fA By
 have hc:jQ (val xs) (val ys)=0\/jQ (val xs) (val ys)=1:=by
  rcases Nat.lt_or_ge (val ys) (val xs) with h|h
  ·exact .inr (nZ h)
  ·exact .inl (by rw[Nat.le_antisymm By h];exact qK _)
 have sH:=zH bJ;have HLE:=zH By;clear h h2 hi l9 gC jR bJ By;go_enter Tryz.func228,Tryz.ntmps228;go_wp2_with fail;refine(eH H.out).mono ?_;rintro e w' ⟨A3,n3,c3,rfl,hr,rfl⟩;have hl3:n3<=1073741824:=by have:=bI xs;have:=hr.len;have:=HL.out;omega
 have HR:=zH hr;clear hr;go_wp2_with fail;refine(eH H2.out).mono ?_;rintro e w' ⟨A4,n4,c4,rfl,hr,rfl⟩;have oe:=zH hr;clear hr;obtain⟨la,iI⟩:∃l,cM xs=l:=⟨_,rfl⟩;obtain⟨lb,kQ⟩:∃l,cM ys=l:=⟨_,rfl⟩;rw[iI] at HR xo sH;rw[kQ] at oe xn sH;have zn:=zH HR.out.len;have EO:=zH oe.out.len;clear iI kQ;have HCC:=zH hc;clear hc;go_upto_region 2 with(fail);go_cut [17] (λv wx=>v=.bool false/\Below w.heap.size w wx)
 case first=>
  go_wp2_with fail;refine(Gv HR.out oe.out).mono ?_;rintro e w0 ⟨rfl,mm,rfl⟩;rw[xo.out,xn.out];rcases HCC.out with hc|hc
  all_goals
   rw[hc];clear hc;go_wp2_with fail;go_meet
   exact⟨rfl,below_drewN (Below.refl _ _) _⟩
 case rest=>
 obtain⟨rfl,hb0⟩:=hcut;obtain⟨w0,rfl⟩:∃w0:World,w0=wc:=⟨_,rfl⟩;have Yb:=zH hb0;have HR0:=zH (HR.out.below Yb.out hS);have aok:=zH (oe.out.below Yb.out gZ);have HS0:Hid (∀b,S b->b<w0.heap.size):=zH λb hb=>Nat.lt_of_lt_of_le (hS b hb) Yb.out.size;have aof:Hid (∀b,S2 b->b<w0.heap.size):=zH λb hb=>Nat.lt_of_lt_of_le (gZ b hb) Yb.out.size;clear hb0;go_wp2_with (refine bR (α:=BitVec 32) _ rfl _ _ _ rfl rfl w0.heap.size i0 (.int .u32 0) Tryz.underlying26 HI.out tZ.out mD.out rfl .i64 .i64 (n3:Int) (n3:Int) n3 rfl rfl rfl rfl (by rw[ot.out];omega) (by unfold maxLen;omega) (Nat.le_refl _) 0#32 bi (λ_ h=>h.elim) (λ_ _=>rfl) ?_; intro w1 py hg1; have iG:=zH py; have fe:=zH ((Below.refl w0.heap.size w0).grown hg1 (Nat.le_refl _) (λk hk=>by cases hk)); clear py hg1);obtain⟨g,hg⟩:∃g,w0.heap.size=g:=⟨_,rfl⟩;rw[hg] at iG;rw[hg];have HG:=zH hg;clear hg;go_loopw [7,8,9,23] (λbv _ _ i wr=>∃(k br:Nat) (zs:List (BitVec 32)),k<=n3/\i=.int .i64 k/\bv=.int .u64 br/\br<=1/\zs.length=n3/\val (zs.take k)+val (lb.take k)=val (la.take k)+4294967296^k*br/\Own wr bi g 172 (.slice (some ⟨g,0,none⟩) n3 n3) zs/\Below w0.heap.size w0 wr)
  (λ_ _ _ i _=>n3-(intOf i).toNat)
 case atStart=>exact⟨0,0,List.replicate n3 0#32,by omega,rfl,rfl,by omega,by simp,by simp[val],iG.out,fe.out⟩
 case round=>
  clear iG fe;obtain⟨k,br,zs,hk,rfl,rfl,hbr,yE,gY,ho,hb⟩:=hrel;have iG:=zH ho;have fe:=zH hb;have ri:=zH yE;have jV:=zH gY;clear ho hb yE gY;by_cases hlt:k<n3
  ·have hkM:(k:Int)<(n3:Int):=by omega
   obtain⟨g',u,tr,_,_,hu,eO,mf⟩:=iG.out.get1 rfl (show zs[k]?=some (zs.getD k 0#32) by rw[List.getD_eq_getElem?_getD,List.getElem?_eq_getElem (by rw[ri.out];exact hlt)];rfl);injection tr with tr
   injection tr with tr
   subst tr;obtain⟨x,uj⟩:∃x,(la.getD k 0#32).toNat=x:=⟨_,rfl⟩;obtain⟨y,UW⟩:∃y,(lb.getD k 0#32).toNat=y:=⟨_,rfl⟩;have kC:x<4294967296:=by rw[<-uj];exact dD k
   have Db:y<4294967296:=by rw[<-UW];exact dD k
   have e1:=bc la k;have e2:=bc lb k;rw[uj] at e1;rw[UW] at e2;obtain⟨s,hs⟩:∃s,4294967296+x-y-br=s:=⟨_,rfl⟩;have h3:=Nm hbr kC Db hs jV.out;rw[<-e1,<-e2] at h3;have ml:4294967296+(x:Int)-(y:Int)-(br:Int)=(s:Int):=by omega
   have fm:s<8589934592:=by omega
   have yF:=iP s;have U6:(s:Int)/4294967296=((s/4294967296:Nat):Int):=rfl;obtain⟨z,hz⟩:∃z,BitVec.ofNat 32 s=z:=⟨_,rfl⟩;obtain⟨d,hd⟩:∃d,s/4294967296=d:=⟨_,rfl⟩;have gD:=d9 s;rw[hz] at yF gD;rw[hd] at U6 h3;rw[<-gD] at h3;have hdl:d<=1:=by omega
   obtain⟨br',af8⟩:∃br',1-d=br':=⟨_,rfl⟩;rw[af8] at h3;have ci:1-(d:Int)=(br':Int):=by omega
   have AP:br'<=1:=by omega
   have HXX:=zH uj;have HYY:=zH UW;have HH3:=zH h3;clear uj UW e1 e2 hs h3 hz hd af8 gD hu;go_wp2_with fail;refine(j4 k (HR0.out.below fe.out HS0.out)).mono ?_;rintro e w' ⟨rfl,rfl⟩;rw[HXX.out];go_wp2_with fail;refine(j4 k (aok.out.below fe.out aof.out)).mono ?_;rintro e w' ⟨rfl,rfl⟩;rw[HYY.out];go_wp2_with fail;go_roundw
   case rel=>
    obtain⟨q1,q2⟩:=iG.out.stored (k:=k) (u:=.int .u32 (z.toNat:Int)) (x:=z) rfl rfl;refine⟨k+1,br',zs.set k z,by omega,by go_num,rfl,AP,by rw[List.length_set];exact ri.out,?_,q1,fe.out.setCell (by have:=HG.out;simp;omega) _⟩;rw[eG z (by rw[ri.out];exact hlt),Nat.pow_succ];exact HH3.out
   case measure=>simp[intOf];omega
  ·have hkm:k=n3:=by omega
   subst hkm;have dS:val zs=val xs-val ys:=by
    have h1:=jV.out;rw[bz _ _ (by rw[ri.out];exact Nat.le_refl _),bz la _ (by rw[zn.out];exact Nat.le_refl _),bz lb _ (by have:=sH.out;rw[zn.out] at this;exact this),xo.out,xn.out] at h1;have h2:=dT zs;rw[ri.out] at h2;have h3:=HLE.out;have hb0:br=0:=by
     rcases Nat.eq_zero_or_pos br with h|h
     ·exact h
     ·have:br=1:=by omega
      rw[this,Nat.mul_one] at h1;omega
    rw[hb0,Nat.mul_zero] at h1;omega
   have xg:=zH dS;clear dS hlt;go_wp2_with fail;refine(jz iG.out.rsAll (by omega)).mono ?_;rintro e w2 ⟨v,rfl,ho,hb⟩;rw[xg.out] at ho;have og:=au Yb.out fe.out;have HO:=zH (ho.base_le og.size);have HB:=zH (au og hb);clear ho hb og;go_wp2_with fail;go_ret2
   exact⟨_,rfl,HO.out,HB.out⟩
theorem Qn {l:List (BitVec 32)} {k:Nat} (h:k<l.length):l[k]?=some (l.getD k 0#32):=by
 rw[List.getD_eq_getElem?_getD,List.getElem?_eq_getElem h];rfl
theorem Own.limb {w:World} {base g n c:Nat} {e:TypeId} {xs:List (BitVec 32)} (h:Own w bi base e (.slice (some ⟨g,0,none⟩) n c) xs) {k:Nat} (hk:k<xs.length):w.cell? ⟨g,k,none⟩=some (.int .u32 ((xs.getD k 0#32).toNat:Int))/\w.frozen? ⟨g,k,none⟩=false:=by
 obtain⟨g',u,tr,_,_,hu,eO,mf⟩:=h.get1 rfl (Qn hk);injection tr with tr
 injection tr with tr
 subst tr;have uk:[u]=[R1 (xs.getD k 0#32)]:=hu;injection uk with uk
 subst uk;exact⟨eO,mf⟩
theorem Own.setLimb {w:World} {base g n c:Nat} {e:TypeId} {xs:List (BitVec 32)} (h:Own w bi base e (.slice (some ⟨g,0,none⟩) n c) xs) (k:Nat) (z:BitVec 32):Own (w.setCell ⟨g,k,none⟩ (.int .u32 (z.toNat:Int))) bi base e (.slice (some ⟨g,0,none⟩) n c) (xs.set k z):=
 (h.stored (k:=k) (u:=.int .u32 (z.toNat:Int)) (x:=z) rfl rfl).1
theorem Aj {S S2:Nat->Prop} {A A2:Option Addr} {n c n2 c2:Nat} {xs ys:List (BitVec 32)} {w:World} (h:RS w S A n c xs) (h2:RS w S2 A2 n2 c2 ys) (hS:∀b,S b->b<w.heap.size) (gZ:∀b,S2 b->b<w.heap.size) (hn:n<=1073741824) (hn2:n2<=1073741824) : Calls Tryz.prog 193 #[.slice A n c,.slice A2 n2 c2] w (jf w 172 (cJ (val xs*val ys))):=by
 obtain⟨i0,hi,l9,gC,jR⟩:=info_parts Tryz.u32Info;have HI:=zH hi;have tZ:=zH l9;have mD:=zH gC;have ot:=zH jR;have H:=zH h;have H2:=zH h2;have HL:=zH h.len;have ow:=zH h2.len;have xo:=zH (eC xs);have xn:=zH (eC ys);clear h h2 hi l9 gC jR;go_enter Tryz.func193,Tryz.ntmps193;go_wp2_with fail;refine(eH H.out).mono ?_;rintro e w' ⟨A3,n3,c3,rfl,hr,rfl⟩;have hl3:n3<=1073741824:=by have:=bI xs;have:=hr.len;have:=HL.out;omega
 have HR:=zH hr;clear hr;go_wp2_with fail;refine(eH H2.out).mono ?_;rintro e w' ⟨A4,n4,c4,rfl,hr,rfl⟩;have hl4:n4<=1073741824:=by have:=bI ys;have:=hr.len;have:=ow.out;omega
 have oe:=zH hr;clear hr;obtain⟨la,iI⟩:∃l,cM xs=l:=⟨_,rfl⟩;obtain⟨lb,kQ⟩:∃l,cM ys=l:=⟨_,rfl⟩;rw[iI] at HR xo;rw[kQ] at oe xn;have zn:=zH HR.out.len;have EO:=zH oe.out.len;clear iI kQ;have I1:(n3:Int)+(n4:Int)=((n3+n4:Nat):Int):=by omega
 obtain⟨M,hM⟩:∃M,n3+n4=M:=⟨_,rfl⟩;rw[hM] at I1;have hMb:M<=2147483648:=by omega
 have HM:=zH hM;clear hM;go_wp2_with (refine bR (α:=BitVec 32) _ rfl _ _ _ rfl rfl w.heap.size i0 (.int .u32 0) Tryz.underlying26 HI.out tZ.out mD.out rfl .i64 .i64 (M:Int) (M:Int) M rfl rfl rfl rfl (by rw[ot.out];omega) (by unfold maxLen;omega) (Nat.le_refl _) 0#32 bi (λ_ h=>h.elim) (λ_ _=>rfl) ?_; intro w1 py hg1; have iG:=zH py; have fe:=zH ((Below.refl w.heap.size w).grown hg1 (Nat.le_refl _) (λk hk=>by cases hk)); clear py hg1);obtain⟨g,hg⟩:∃g,w.heap.size=g:=⟨_,rfl⟩;rw[hg] at iG;rw[hg];have HG:=zH hg;clear hg I1;go_loopw [24] (λi wr=>∃(k:Nat) (zs:List (BitVec 32)),k<=n3/\i=.int .i64 k/\zs.length=M/\val (zs.take (k+n4))=val (la.take k)*val lb/\Own wr bi g 172 (.slice (some ⟨g,0,none⟩) M M) zs/\Below w.heap.size w wr)
  (λi _=>n3-(intOf i).toNat)
 case atStart=>exact⟨0,List.replicate M 0#32,by omega,rfl,by simp,by rw[List.take_replicate,xq];simp[val],iG.out,fe.out⟩
 case round=>
  clear iG fe;obtain⟨k,zs,hk,rfl,yE,gY,ho,hb⟩:=hrel;have iG:=zH ho;have fe:=zH hb;have ri:=zH yE;have jV:=zH gY;clear ho hb yE gY;by_cases hlt:k<n3
  ·have hk3:(k:Int)<(n3:Int):=by omega
   obtain⟨b,o,x0,rfl,Bz,hx,e1⟩:=(HR.out.below fe.out hS).limb_at hlt;have hxg:(la.getD k 0#32).toNat=x0.toNat:=by rw[List.getD_eq_getElem?_getD,hx];rfl
   have kC:=x0.isLt;have hxw:IntKind.u64.wrap (x0.toNat:Int)=(x0.toNat:Int):=by rw[IntKind.wrap_u64];omega
   have HXG:=zH hxg;clear hxg hx;go_wp2_with fail;obtain⟨wd,rfl⟩:∃wd:World,wd=wr:=⟨_,rfl⟩;go_loopw [8,31] (λcv j wr=>∃(q cr:Nat) (ts:List (BitVec 32)),q<=n4/\j=.int .i64 q/\cv=.int .u64 cr/\cr<4294967296/\ts.length=M/\ts.drop (k+q)=zs.drop (k+q)/\val (ts.take (k+q))+4294967296^(k+q)*cr=val (zs.take (k+q))+4294967296^k*(x0.toNat*val (lb.take q))/\Own wr bi g 172 (.slice (some ⟨g,0,none⟩) M M) ts/\Below w.heap.size w wr)
    (λ_ j _=>n4-(intOf j).toNat)
   case atStart=>exact⟨0,0,zs,by omega,rfl,rfl,by omega,ri.out,rfl,by simp[val],iG.out,fe.out⟩
   case round=>
    clear iG fe;obtain⟨q,cr,ts,hq,rfl,rfl,hcr,Le,hdr,Xs,ho,hb⟩:=hrel;have nA:=zH ho;have fu:=zH hb;have JI:=zH Le;have HDR:=zH hdr;have Ya:=zH Xs;clear ho hb Le hdr Xs;by_cases lI:q<n4
    ·have hq4:(q:Int)<(n4:Int):=by omega
     obtain⟨b2,o2,y0,rfl,age,hy,e2⟩:=(oe.out.below fu.out gZ).limb_at lI;have hyg:(lb.getD q 0#32).toNat=y0.toNat:=by rw[List.getD_eq_getElem?_getD,hy];rfl
     have Db:=y0.isLt;have hyw:IntKind.u64.wrap (y0.toNat:Int)=(y0.toNat:Int):=by rw[IntKind.wrap_u64];omega
     have alH:(k:Int)+(q:Int)=((k+q:Nat):Int):=by omega
     have aao:k+q<M:=by have:=HM.out;omega
     obtain⟨eO,mf⟩:=nA.out.limb (k:=k+q) (by rw[JI.out];exact aao);have Br:(zs.getD (k+q) 0#32)=ts.getD (k+q) 0#32:=by
      have h1:=congrArg (·[0]?) HDR.out;simp only[List.getElem?_drop,Nat.add_zero] at h1;rw[List.getD_eq_getElem?_getD,List.getD_eq_getElem?_getD,h1]
     have e3:=bc zs (k+q);have e4:=bc lb q;rw[hyg] at e4;rw[Br] at e3;obtain⟨z0,l9⟩:∃z0,ts.getD (k+q) 0#32=z0:=⟨_,rfl⟩;rw[l9] at eO e3;have akP:=z0.isLt;have hzw:IntKind.u64.wrap (z0.toNat:Int)=(z0.toNat:Int):=by rw[IntKind.wrap_u64];omega
     obtain⟨ci,bX⟩:=KR kC Db akP hcr;obtain⟨s,hs⟩:∃s,x0.toNat*y0.toNat+z0.toNat+cr=s:=⟨_,rfl⟩;have h3:=OF (B:=4294967296) (p:=4294967296^(k+q)) (pi:=4294967296^k) (pj:=4294967296^q) (by rw[Nat.pow_add]) hs Ya.out;rw[<-e3,<-e4] at h3;obtain⟨p,hp⟩:∃p,x0.toNat*y0.toNat=p:=⟨_,rfl⟩;have hpi:(x0.toNat:Int)*(y0.toNat:Int)=(p:Int):=by rw[<-hp];exact(Int.natCast_mul _ _).symm
     rw[hp] at ci bX hs;have ml:(p:Int)+(z0.toNat:Int)+(cr:Int)=(s:Int):=by omega
     have EC:(p:Int)+(z0.toNat:Int)<18446744073709551616:=by omega
     have hs3:s<18446744073709551616:=by omega
     have yF:=iP s;have U6:(s:Int)/4294967296=((s/4294967296:Nat):Int):=rfl;obtain⟨z,hz⟩:∃z,BitVec.ofNat 32 s=z:=⟨_,rfl⟩;obtain⟨VV,Qa⟩:∃VV,s/4294967296=VV:=⟨_,rfl⟩;have gD:=d9 s;rw[hz] at yF gD;rw[Qa] at U6 h3;rw[<-gD] at h3;have tU:VV<4294967296:=by omega
     obtain⟨r,hr⟩:∃r,k+q=r:=⟨_,rfl⟩;rw[hr] at alH aao eO mf;have hrM:(r:Int)<(M:Int):=by omega
     have HH3:=zH h3;have Er:=zH hr;clear hyg e3 e4 hs hp hz Qa gD l9 Br hy h3 hr bX;go_wp2_with fail;go_roundw
     case rel=>
      have hkr:k+(q+1)=r+1:=by have:=Er.out;omega
      refine⟨q+1,VV,ts.set r z,by omega,by go_num,rfl,tU,by rw[List.length_set];exact JI.out,?_,?_,nA.out.setLimb r z,fu.out.setCell (by have:=HG.out;simp;omega) _⟩
      ·rw[hkr,List.drop_set_of_lt (by omega),<-Er.out,<-List.drop_drop,HDR.out,List.drop_drop]
      ·rw[hkr,eG z (by rw[JI.out];exact aao),<-Er.out,Nat.pow_succ];exact HH3.out
     case measure=>simp[intOf];omega
    ·have hqn:q=n4:=by omega
     have hkM:(k:Int)+(n4:Int)=((k+n4:Nat):Int):=by omega
     obtain⟨r,hr⟩:∃r,k+n4=r:=⟨_,rfl⟩;have hrM:r<M:=by have:=HM.out;omega
     obtain⟨eO,mf⟩:=nA.out.limb (k:=r) (by rw[JI.out];exact hrM);have hri:(r:Int)<(M:Int):=by omega
     rw[hr] at hkM;have yF:=iP cr;obtain⟨z,hz⟩:∃z,BitVec.ofNat 32 cr=z:=⟨_,rfl⟩;have gD:=d9 cr;rw[hz] at yF gD;have ZZ:z.toNat=cr:=by omega
     have my:val ((ts.set r z).take (r+1))=val (la.take (k+1))*val lb:=by
      have h1:=Ya.out;rw[hqn,hr,bz lb _ (by rw[EO.out];exact Nat.le_refl _)] at h1;have h2:=jV.out;rw[hr] at h2;rw[h2] at h1;have h4:=bc la k;rw[HXG.out] at h4;rw[eG z (by rw[JI.out];exact hrM),ZZ,h1,h4,Nat.add_mul,Nat.mul_assoc]
     have GW:=zH my;have Er:=zH hr;clear my hqn hr ZZ gD hz hcr;go_wp2_with fail;go_roundw
     case rel=>
      refine⟨k+1,ts.set r z,by omega,by go_num,by rw[List.length_set];exact JI.out,?_,nA.out.setLimb r z,fu.out.setCell (by have:=HG.out;simp;omega) _⟩;have hkr:k+1+n4=r+1:=by have:=Er.out;omega
      rw[hkr];exact GW.out
     case measure=>simp[intOf];omega
  ·have pz:k=n3:=by omega
   have dS:val zs=val xs*val ys:=by
    have h1:=jV.out;rw[pz,bz _ _ (by rw[ri.out];have:=HM.out;omega),bz la _ (by rw[zn.out];exact Nat.le_refl _),xo.out,xn.out] at h1;exact h1
   have xg:=zH dS;clear dS pz;go_wp2_with fail;refine(jz iG.out.rsAll (by omega)).mono ?_;rintro e w2 ⟨v,rfl,ho,hb⟩;rw[xg.out] at ho;have HO:=zH (ho.base_le fe.out.size);have HB:=zH (au fe.out hb);clear ho hb;go_wp2_with fail;go_ret
   exact⟨_,rfl,HO.out,HB.out⟩
def Ek (w:World) (v n d:Nat) (en:Ending) (w':World):Prop:=
 ∃(s:Value) (qs:List (BitVec 32)),en=.returned (.tuple #[s,.int .u64 ((v%d:Nat):Int)])/\Own w' bi w.heap.size 172 s qs/\val qs=v/d/\qs.length=n/\Below w.heap.size w w'
theorem Zc (a x:Nat) (ha:a<4294967296) (hx:x<4294967296):bits .or .u64 ((a:Int)*4294967296) (x:Int)=((a*4294967296+x:Nat):Int):=by
 have e:(a:Int)*4294967296=((a*4294967296:Nat):Int):=by omega
 rw[e,u64_or_nat _ _ (by omega) (by omega),Cn _ _ hx]
theorem xS {S:Nat->Prop} {A:Option Addr} {n c:Nat} {xs:List (BitVec 32)} {w:World} (d:Nat) (h:RS w S A n c xs) (hS:∀b,S b->b<w.heap.size) (hn:n<=1073741824) (hd:0<d) (Sw:d<4294967296) : Calls Tryz.prog 171 #[.slice A n c,.int .u64 d] w (Ek w (val xs) n d):=by
 obtain⟨i0,hi,l9,gC,jR⟩:=info_parts Tryz.u32Info;have HI:=zH hi;have tZ:=zH l9;have mD:=zH gC;have ot:=zH jR;have H:=zH h;have HL:=zH h.len;clear h hi l9 gC jR;go_enter Tryz.func171,Tryz.ntmps171;go_wp2_with (refine bR (α:=BitVec 32) _ rfl _ _ _ rfl rfl w.heap.size i0 (.int .u32 0) Tryz.underlying26 HI.out tZ.out mD.out rfl .i64 .i64 (n:Int) (n:Int) n rfl rfl rfl rfl (by rw[ot.out];omega) (by unfold maxLen;omega) (Nat.le_refl _) 0#32 bi (λ_ h=>h.elim) (λ_ _=>rfl) ?_; intro w1 py hg1; have iG:=zH py; have fe:=zH ((Below.refl w.heap.size w).grown hg1 (Nat.le_refl _) (λk hk=>by cases hk)); clear py hg1);obtain⟨g,hg⟩:∃g,w.heap.size=g:=⟨_,rfl⟩;rw[hg] at iG;rw[hg];have HG:=zH hg;clear hg;go_loopw [7,8] (λrv i wr=>∃(k r:Nat) (z:Int) (qs:List (BitVec 32)),k<=n/\i=.int .i64 z/\z+1=k/\rv=.int .u64 r/\r<d/\qs.length=n/\val (qs.drop k)*d+r=val (xs.drop k)/\Own wr bi g 172 (.slice (some ⟨g,0,none⟩) n n) qs/\Below w.heap.size w wr)
  (λ_ i _=>(intOf i+1).toNat)
 case atStart=>exact⟨n,0,(n:Int)-1,List.replicate n 0#32,Nat.le_refl _,rfl,by omega,rfl,hd,by simp,by rw[List.drop_eq_nil_of_le (by simp),List.drop_eq_nil_of_le (by rw[HL.out];exact Nat.le_refl _)];simp[val],iG.out,fe.out⟩
 case round=>
  clear iG fe;obtain⟨k,r,z,qs,hk,rfl,hz,rfl,hr,Bv,gY,ho,hb⟩:=hrel;have iG:=zH ho;have fe:=zH hb;have JK:=zH Bv;have jV:=zH gY;clear ho hb Bv gY;rcases k with _|k
  ·obtain rfl:z= -1:=by omega
   have hdm:=yX (jV.out) hr;rw[List.drop_zero,List.drop_zero] at hdm;have HD:=zH hdm;clear hdm hz;go_wp2_with fail;go_ret2
   exact⟨_,qs,by rw[<-HD.out.2];rfl,by rw[HG.out];exact iG.out,HD.out.1,JK.out,fe.out⟩
  ·obtain rfl:z=k:=by omega
   have pz:(k:Int)<(n:Int):=by omega
   obtain⟨b,o,a,rfl,_,hx,e1⟩:=(H.out.below fe.out hS).limb_at (k:=k) (by omega);have hal:=a.isLt;have Xl:=jW hx;obtain⟨eO,mf⟩:=iG.out.limb (k:=k) (by rw[JK.out];omega);obtain⟨x,uj⟩:∃x,r*4294967296+a.toNat=x:=⟨_,rfl⟩;have hs:=Fl (B:=4294967296) uj jV.out;rw[<-Xl] at hs;have Bv:=NF hr hal uj;have kD:=Zc r a.toNat (by omega) hal;rw[uj] at kD;have hxb:x<18446744073709551616:=by omega
   obtain⟨q,hq⟩:∃q,x/d=q:=⟨_,rfl⟩;obtain⟨r',jo⟩:∃r',x%d=r':=⟨_,rfl⟩;have yH:r'<d:=by rw[<-jo];exact Nat.mod_lt _ hd
   rw[hq] at hs Bv;rw[jo] at hs;have Xm:(x:Int).tdiv (d:Int)=(q:Int):=by rw[<-hq];rfl
   have Sn:(x:Int).tmod (d:Int)=(r':Int):=by rw[<-jo];rfl
   have afw:(x:Int)/(d:Int)=(q:Int):=by rw[<-hq];rfl
   have afo:(x:Int)%(d:Int)=(r':Int):=by rw[<-jo];rfl
   have haw:IntKind.u64.wrap (a.toNat:Int)=(a.toNat:Int):=by rw[IntKind.wrap_u64];omega
   have yF:=iP q;obtain⟨zq,Pt⟩:∃z,BitVec.ofNat 32 q=z:=⟨_,rfl⟩;have gD:=d9 q;rw[Pt] at yF gD;have Bs:zq.toNat=q:=by omega
   have my:val ((qs.set k zq).drop k)*d+r'=val (xs.drop k):=by
    rw[oK zq (by rw[JK.out];omega),val,Bs];exact hs
   have hd0:((d:Int)==0)=false:=by rw[beq_eq_false_iff_ne];omega
   have GW:=zH my;clear hs hx Xl uj hq jo Pt gD Bs my hz;go_wp2_with fail;go_roundw
   case rel=>exact⟨k,r',(k:Int)-1,qs.set k zq,by omega,by go_num,by omega,rfl,yH,by rw[List.length_set];exact JK.out,GW.out,iG.out.setLimb k zq,fe.out.setCell (by have:=HG.out;simp;omega) _⟩
   case measure=>simp[intOf]
end Go.Proofs.YtdbpbfglhbiadaaGreatDoor
