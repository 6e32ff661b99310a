/- Nat2 Nat3 Nat4 Nat5 Nat6 -/
import Derived.Test.YtdbpbfglhbiadaaGreatDoorF02
import Derived.Test.YtdbpbfglhbiadaaGreatDoorF01
import Derived.Deep.DeepCutAuto
set_option maxHeartbeats 8000000
set_option maxRecDepth 100000
namespace Go.Proofs.YtdbpbfglhbiadaaGreatDoor
open Go.RowKit
theorem Own.rsAll {α:Type} [ay α] {w:World} {base:Nat} {e:TypeId} {A:Option Addr} {n c:Nat} {xs:List α} (h:Own w bb base e (.slice A n c) xs):RS w (·<w.heap.size) A n c xs:=h.rs (λ_ h=>h.elim) (λ_ _ h=>h)
theorem L4 (n:Nat) (h:n<18446744073709551616):val [BitVec.ofNat 32 n,BitVec.ofNat 32 (n/4294967296)]=n:=by
 simp only[val,BitVec.toNat_ofNat];omega
theorem yz (n:Nat) (w:World) (h:n<18446744073709551616):Calls Tryz.prog 219 #[.int .u64 n] w (iP w 172 (cF n)):=by
 have hv:=L4 n h;obtain⟨x,hx⟩:∃x,BitVec.ofNat 32 n=x:=⟨_,rfl⟩;obtain⟨y,hy⟩:∃y,BitVec.ofNat 32 (n/4294967296)=y:=⟨_,rfl⟩;have h1:IntKind.u32.wrap (n:Int)=(x.toNat:Int):=by rw[<-hx,IntKind.wrap_u32,BitVec.toNat_ofNat];omega
 have h2:IntKind.u32.wrap ((n:Int)/4294967296)=(y.toNat:Int):=by rw[<-hy,IntKind.wrap_u32,BitVec.toNat_ofNat];omega
 rw[hx,hy] at hv;have HV:=zH hv;clear hv hx hy;go_enter Tryz.func219,Tryz.ntmps219;go_wp2_with fail;have hb:Below w.heap.size w (w.alloc (.cells #[.int .u32 (x.toNat:Int),.int .u32 (y.toNat:Int)] 172)):=(Below.refl _ _).alloc (Nat.le_refl _) _;have hr:RS (w.alloc (.cells #[.int .u32 (x.toNat:Int),.int .u32 (y.toNat:Int)] 172)) (λ_=>True) (some ⟨w.heap.size,0,none⟩) 2 2 [x,y]:=
  RS.of_blk (t:=172) (cs:=#[.int .u32 (x.toNat:Int),.int .u32 (y.toNat:Int)]) (cO.new _ _ _) (Flat.limbs [x,y]) rfl (Nat.le_refl _) (by decide) trivial
 refine(jf hr (by omega)).mono ?_;rintro e w2 ⟨v,rfl,ho,bH⟩;rw[HV.out] at ho;have HO:=zH (ho.base_le (Nat.le_trans hb.size (Nat.le_refl _)));have HB:=zH (ak hb bH);clear ho hb bH hr h1 h2;go_wp2_with fail;go_ret
 exact⟨_,rfl,HO.out,HB.out⟩
theorem EP {S S2:Nat->Prop} {A A2:Option Addr} {n c n2 c2:Nat} {xs ys:List (BitVec 32)} {w:World} (h:RS w S A n c xs) (h2:RS w S2 A2 n2 c2 ys) : Calls Tryz.prog 221 #[.slice A n c,.slice A2 n2 c2] w (vj w (.int .i64 (jD (val xs) (val ys)))):=by
 have H:=zH h;have H2:=zH h2;have Xm:=eg xs;have Xl:=eg ys;have hlx:=di xs;have hly:=di ys;have vL:=zH Xm;have vK:=zH Xl;have HLX:=zH hlx;have HLY:=zH hly;clear h h2 Xm Xl hlx hly;go_enter Tryz.func221,Tryz.ntmps221;go_wp2_with fail;refine(et H.out).mono ?_;rintro e w' ⟨A3,n3,c3,rfl,hr,rfl⟩;have HR:=zH hr;clear hr;go_wp2_with fail;refine(et H2.out).mono ?_;rintro e w' ⟨A4,n4,c4,rfl,hr,rfl⟩;have nl:=zH hr;have hm3:=HR.out.max;have hm4:=hr.max;clear hr;obtain⟨l3,hl3⟩:∃l,cG xs=l:=⟨_,rfl⟩;obtain⟨l4,hl4⟩:∃l,cG ys=l:=⟨_,rfl⟩;rw[hl3] at HR vL HLX;rw[hl4] at nl vK HLY;have xV:=zH HR.out.len;have Db:=zH nl.out.len;clear hl3 hl4;by_cases hlt:n3=n4
 ·subst hlt;have hb:((n3:Int) !=(n3:Int))=false:=by simp
  go_wp2_with fail;go_loopw [5,27,37] (λv _ _ wr=>∃(k m:Nat) (z:Int),k<=n3/\v=.int .i64 z/\z+1=k/\l3.drop k=l4.drop k/\wr=w.drewN m) (λv _ _ _=>(intOf v+1).toNat)
  case atStart=>exact⟨n3,0,(n3:Int)-1,Nat.le_refl _,rfl,by omega,by rw[List.drop_eq_nil_of_le (by rw[xV.out];exact Nat.le_refl _),List.drop_eq_nil_of_le (by rw[Db.out];exact Nat.le_refl _)],rfl⟩
  case round=>
   obtain⟨k,m,z,hk,rfl,hz,hd,rfl⟩:=hrel;have HD:=zH hd;clear hd;rcases k with _|k
   ·obtain rfl:z= -1:=by omega
    have he:jD (val xs) (val ys)=0:=by
     have h1:=HD.out;rw[List.drop_zero,List.drop_zero] at h1;rw[<-vL.out,<-vK.out,h1,pH]
    have HE:=zH he;clear he hz;go_wp2_with fail;go_ret
    exact⟨gx (by rw[HE.out];rfl),_,rfl⟩
   ·obtain rfl:z=k:=by omega
    obtain⟨b,o,x,rfl,_,hx,e1⟩:=HR.out.limb_at (k:=k) (by omega);obtain⟨b2,o2,y,rfl,_,hy,e2⟩:=nl.out.limb_at (k:=k) (by omega);have nP:(k:Int)<(n3:Int):=by omega
    have HX:=zH hx;have HY:=zH hy;clear hx hy hz;rcases Nat.lt_trichotomy x.toNat y.toNat with hc|hc|hc
    ·have he:jD (val xs) (val ys)= -1:=by
      rw[<-vL.out,<-vK.out];exact nc (lW HD.out HX.out HY.out hc)
     have HE:=zH he;have d1:decide (x.toNat<y.toNat)=true:=decide_eq_true (by omega);clear he hc;go_wp2_with fail;go_quiet (fail)
     go_wp2_with fail;go_ret
     exact⟨gx (by rw[HE.out];rfl),_,World.drewN_drewN _ _ _⟩
    ·have mA:x=y:=BitVec.eq_of_toNat_eq hc;have hn:=zk HD.out HX.out (by rw[mA];exact HY.out);have HN:=zH hn;have d1:decide (x.toNat<y.toNat)=false:=decide_eq_false (by omega);have d2:decide (y.toNat<x.toNat)=false:=decide_eq_false (by omega);clear hn mA hc;go_wp2_with fail;go_quiet (fail)
     go_wp2_with fail;go_quiet (fail)
     go_wp2_with fail;go_roundw
     case rel=>exact⟨k,_,(k:Int)-1,by omega,by go_num,by omega,HN.out,by first|rfl|(rw[World.drewN_drewN,World.drewN_drewN])|(rw[World.drewN_drewN])⟩
     case measure=>simp[intOf]
    ·have he:jD (val xs) (val ys)=1:=by
      rw[<-vL.out,<-vK.out];exact nf (lW HD.out.symm HY.out HX.out hc)
     have HE:=zH he;have d1:decide (x.toNat<y.toNat)=false:=decide_eq_false (by omega);have d2:decide (y.toNat<x.toNat)=true:=decide_eq_true (by omega);clear he hc;go_wp2_with fail;go_quiet (fail)
     go_wp2_with fail;go_quiet (fail)
     go_wp2_with fail;go_ret
     exact⟨gx (by rw[HE.out];rfl),_,(congrArg (λw=>World.drewN w _) (World.drewN_drewN _ _ _)).trans (World.drewN_drewN _ _ _)⟩
 ·have hb:((n3:Int) !=(n4:Int))=true:=by simp;omega
  by_cases h3:n3<n4
  ·have he:jD (val xs) (val ys)= -1:=nc (kA (by rw[HLX.out,HLY.out,xV.out,Db.out];exact h3));have HE:=zH he;clear he;go_wp2_with fail;go_ret
   exact⟨gx (by rw[HE.out];rfl),0,rfl⟩
  ·have he:jD (val xs) (val ys)=1:=nf (kA (by rw[HLX.out,HLY.out,xV.out,Db.out];omega));have HE:=zH he;clear he;go_wp2_with fail;go_ret
   exact⟨gx (by rw[HE.out];rfl),0,rfl⟩
theorem Tryz.u32Info:(Tryz.prog.info? 172).map (λi=>(i.zero,i.size,i.bytes))=some (some (.int .u32 0),1,4):=by kernel_rfl
theorem iy (s:Nat):IntKind.u32.wrap (s:Int)=((BitVec.ofNat 32 s).toNat:Int):=by rw[IntKind.wrap_u32,BitVec.toNat_ofNat];omega
theorem dQ (s:Nat):(BitVec.ofNat 32 s).toNat=s%4294967296:=by rw[BitVec.toNat_ofNat]
theorem dm {l:List (BitVec 32)} (k:Nat):(l.getD k 0#32).toNat<4294967296:=(l.getD k 0#32).isLt
theorem TE {S S2:Nat->Prop} {A A2:Option Addr} {n c n2 c2:Nat} {xs ys:List (BitVec 32)} {w:World} (h:RS w S A n c xs) (h2:RS w S2 A2 n2 c2 ys) (hS:∀b,S b->b<w.heap.size) (gL:∀b,S2 b->b<w.heap.size) (hn:n<=1073741824) (hn2:n2<=1073741824) : Calls Tryz.prog 227 #[.slice A n c,.slice A2 n2 c2] w (iP w 172 (cF (val xs+val ys))):=by
 obtain⟨i0,hi,jw,eL,gN⟩:=info_parts Tryz.u32Info;have HI:=zH hi;have oG:=zH jw;have jm:=zH eL;have j1:=zH gN;have H:=zH h;have H2:=zH h2;have HL:=zH h.len;have nF:=zH h2.len;have vL:=zH (eg xs);have vK:=zH (eg ys);clear h h2 hi jw eL gN;go_enter Tryz.func227,Tryz.ntmps227;go_wp2_with fail;refine(et H.out).mono ?_;rintro e w' ⟨A3,n3,c3,rfl,hr,rfl⟩;have hl3:n3<=1073741824:=by have:=bA xs;have:=hr.len;have:=HL.out;omega
 have HR:=zH hr;clear hr;go_wp2_with fail;refine(et H2.out).mono ?_;rintro e w' ⟨A4,n4,c4,rfl,hr,rfl⟩;have hl4:n4<=1073741824:=by have:=bA ys;have:=hr.len;have:=nF.out;omega
 have nl:=zH hr;clear hr;obtain⟨la,gO⟩:∃l,cG xs=l:=⟨_,rfl⟩;obtain⟨lb,jT⟩:∃l,cG ys=l:=⟨_,rfl⟩;rw[gO] at HR vL;rw[jT] at nl vK;have xV:=zH HR.out.len;have Db:=zH nl.out.len;clear gO jT;go_upto_region 2 with(fail);go_cut [5] (λv wx=>∃m:Nat,v=.int .i64 m/\n3<=m/\n4<=m/\m<=1073741824/\w=wx)
 case first=>
  by_cases hc:(n3:Int)<(n4:Int)
  ·go_wp2_with fail;go_meet
   exact⟨n4,rfl,by omega,by omega,by omega,rfl⟩
  ·go_wp2_with fail;go_meet
   exact⟨n3,rfl,by omega,by omega,by omega,rfl⟩
 case rest=>
 obtain⟨m,rfl,hm3,hm4,hm,rfl⟩:=hcut;have GC:(m:Int)+1=((m+1:Nat):Int):=by omega
 obtain⟨M,hM⟩:∃M,m+1=M:=⟨_,rfl⟩;rw[hM] at GC;have hMb:M<=1073741825:=by omega
 have HM:=zH hM;clear hM;go_wp2_with (refine bJ (α:=BitVec 32) _ rfl _ _ _ rfl rfl w.heap.size i0 (.int .u32 0) Tryz.underlying26 HI.out oG.out jm.out rfl .i64 .i64 (M:Int) (M:Int) M rfl rfl rfl rfl (by rw[j1.out];omega) (by unfold maxLen;omega) (Nat.le_refl _) 0#32 bb (λ_ h=>h.elim) (λ_ _=>rfl) ?_; intro w1 oL hg1; have ic:=zH oL; have eP:=zH ((Below.refl w.heap.size w).grown hg1 (Nat.le_refl _) (λk hk=>by cases hk)); clear oL hg1);obtain⟨g,hg⟩:∃g,w.heap.size=g:=⟨_,rfl⟩;rw[hg] at ic;rw[hg];have HG:=zH hg;clear hg GC;go_loopw [7,8,9,23] (λcv _ _ i wr=>∃(k cr:Nat) (zs:List (BitVec 32)),k<=m/\i=.int .i64 k/\cv=.int .u64 cr/\cr<=1/\zs.length=M/\val (zs.take k)+4294967296^k*cr=val (la.take k)+val (lb.take k)/\Own wr bb g 172 (.slice (some ⟨g,0,none⟩) M M) zs/\Below w.heap.size w wr)
  (λ_ _ _ i _=>m-(intOf i).toNat)
 case atStart=>exact⟨0,0,List.replicate M 0#32,by omega,rfl,rfl,by omega,by simp,by simp[val],ic.out,eP.out⟩
 case round=>
  clear ic eP;obtain⟨k,cr,zs,hk,rfl,rfl,hcr,xp,gK,ho,hb⟩:=hrel;have ic:=zH ho;have eP:=zH hb;have p9:=zH xp;have jI:=zH gK;clear ho hb xp gK;by_cases hlt:k<m
  ·have hkM:(k:Int)<(M:Int):=by have:=HM.out;omega
   have hx:=xV.out;obtain⟨g',u,ry,_,_,hu,eC,lF⟩:=ic.out.get1 rfl (show zs[k]?=some (zs.getD k 0#32) by rw[List.getD_eq_getElem?_getD,List.getElem?_eq_getElem (by rw[p9.out];have:=HM.out;omega)];rfl);injection ry with ry
   injection ry with ry
   subst ry;obtain⟨x,lP⟩:∃x,(la.getD k 0#32).toNat=x:=⟨_,rfl⟩;obtain⟨y,Nc⟩:∃y,(lb.getD k 0#32).toNat=y:=⟨_,rfl⟩;have nA:x<4294967296:=by rw[<-lP];exact dm k
   have Bp:y<4294967296:=by rw[<-Nc];exact dm k
   have e1:=aX la k;have e2:=aX lb k;rw[lP] at e1;rw[Nc] at e2;obtain⟨s,hs⟩:∃s,x+y+cr=s:=⟨_,rfl⟩;have h3:=CB hs jI.out;rw[<-e1,<-e2] at h3;have lJ:(x:Int)+(y:Int)+(cr:Int)=(s:Int):=by omega
   have eX:s<8589934592:=by omega
   have xq:=iy s;have Sb:(s:Int)/4294967296=((s/4294967296:Nat):Int):=rfl;obtain⟨z,hz⟩:∃z,BitVec.ofNat 32 s=z:=⟨_,rfl⟩;obtain⟨Tb,NV⟩:∃Tb,s/4294967296=Tb:=⟨_,rfl⟩;have eQ:=dQ s;rw[hz] at xq eQ;rw[NV] at Sb h3;rw[<-eQ] at h3;have rY:Tb<=1:=by omega
   have HXX:=zH lP;have HYY:=zH Nc;have HH3:=zH h3;clear lP Nc e1 e2 hs h3 hz NV eQ hu hx;go_wp2_with fail;refine(jQ k (HR.out.below eP.out hS)).mono ?_;rintro e w' ⟨rfl,rfl⟩;rw[HXX.out];go_wp2_with fail;refine(jQ k (nl.out.below eP.out gL)).mono ?_;rintro e w' ⟨rfl,rfl⟩;rw[HYY.out];go_wp2_with fail;go_roundw
   case rel=>
    obtain⟨q1,q2⟩:=ic.out.stored (k:=k) (u:=.int .u32 (z.toNat:Int)) (x:=z) rfl rfl;refine⟨k+1,Tb,zs.set k z,by omega,by go_num,rfl,rY,by rw[List.length_set];exact p9.out,?_,q1,eP.out.setCell (by have:=HG.out;simp;omega) _⟩;rw[em z (by rw[p9.out];have:=HM.out;omega),Nat.pow_succ];exact HH3.out
   case measure=>simp[intOf];omega
  ·have hkm:k=m:=by omega
   subst hkm;have hkM:(k:Int)<(M:Int):=by have:=HM.out;omega
   obtain⟨g',u,ry,_,_,hu,eC,lF⟩:=ic.out.get1 rfl (show zs[k]?=some (zs.getD k 0#32) by rw[List.getD_eq_getElem?_getD,List.getElem?_eq_getElem (by rw[p9.out];have:=HM.out;omega)];rfl);injection ry with ry
   injection ry with ry
   subst ry;have xq:=iy cr;obtain⟨z,hz⟩:∃z,BitVec.ofNat 32 cr=z:=⟨_,rfl⟩;have eQ:=dQ cr;rw[hz] at xq eQ;have Xe:z.toNat=cr:=by omega
   obtain⟨q1,q2⟩:=ic.out.stored (k:=k) (u:=.int .u32 (z.toNat:Int)) (x:=z) rfl rfl;have dG:val (zs.set k z)=val xs+val ys:=by
    have h1:=em z (l:=zs) (k:=k) (by rw[p9.out];have:=HM.out;omega);rw[bn _ _ (by rw[List.length_set,p9.out];have:=HM.out;omega),Xe,jI.out,bn _ _ (by rw[xV.out];exact hm3),bn _ _ (by rw[Db.out];exact hm4),vL.out,vK.out] at h1;exact h1
   have hq:=q1.rsAll;have Xw:Below w.heap.size w (wr.setCell ⟨g,k,none⟩ (.int .u32 (z.toNat:Int))):=eP.out.setCell (by have:=HG.out;simp;omega) _;have vt:=zH dG;have HQ:=zH hq;have HQB:=zH Xw;clear dG hq Xw q1 q2 Xe eQ hz hu hlt;go_wp2_with fail;refine(jf HQ.out (by omega)).mono ?_;rintro e w2 ⟨v,rfl,ho,hb⟩;rw[vt.out] at ho;have HO:=zH (ho.base_le HQB.out.size);have HB:=zH (ak HQB.out hb);clear ho hb;go_wp2_with fail;go_ret
   exact⟨_,rfl,HO.out,HB.out⟩
def Vm {α:Type} [ay α] (w:World) (e:TypeId) (xs:List α) (u:Value) (en:Ending) (w':World):Prop:=
 ∃v',en=.returned (.tuple #[v',u])/\Own w' bb w.heap.size e v' xs/\Below w.heap.size w w'
theorem Qn {S S2:Nat->Prop} {A A2:Option Addr} {n c n2 c2:Nat} {xs ys:List (BitVec 32)} {w:World} (h:RS w S A n c xs) (h2:RS w S2 A2 n2 c2 ys) (hlt:val xs<val ys) : Calls Tryz.prog 228 #[.slice A n c,.slice A2 n2 c2] w (Vm w 172 ([]:List (BitVec 32)) (.bool false)):=by
 have H:=zH h;have H2:=zH h2;have vL:=zH (eg xs);have vK:=zH (eg ys);have HC:=zH (nc hlt);clear h h2 hlt;go_enter Tryz.func228,Tryz.ntmps228;go_wp2_with fail;refine(et H.out).mono ?_;rintro e w' ⟨A3,n3,c3,rfl,hr,rfl⟩;have HR:=zH hr;clear hr;go_wp2_with fail;refine(et H2.out).mono ?_;rintro e w' ⟨A4,n4,c4,rfl,hr,rfl⟩;have nl:=zH hr;clear hr;go_wp2_with fail;refine(EP HR.out nl.out).mono ?_;rintro e w' ⟨rfl,m,rfl⟩;rw[vL.out,vK.out,HC.out];go_wp2_with fail;go_ret2
 exact⟨_,rfl,Own.nil _ _ _,below_drewN (Below.refl _ _) _⟩
theorem FC {S S2:Nat->Prop} {A A2:Option Addr} {n c n2 c2:Nat} {xs ys:List (BitVec 32)} {w:World} (h:RS w S A n c xs) (h2:RS w S2 A2 n2 c2 ys) (hS:∀b,S b->b<w.heap.size) (gL:∀b,S2 b->b<w.heap.size) (hn:n<=1073741824) (wn:val ys<=val xs) : Calls Tryz.prog 228 #[.slice A n c,.slice A2 n2 c2] w (Vm w 172 (cF (val xs-val ys)) (.bool true)):=by
 obtain⟨i0,hi,jw,eL,gN⟩:=info_parts Tryz.u32Info;have HI:=zH hi;have oG:=zH jw;have jm:=zH eL;have j1:=zH gN;have H:=zH h;have H2:=zH h2;have HL:=zH h.len;have vL:=zH (eg xs);have vK:=zH (eg ys);have bm:(cG ys).length<=(cG xs).length:=by rw[<-di,<-di];exact fi wn
 have hc:jD (val xs) (val ys)=0\/jD (val xs) (val ys)=1:=by
  rcases Nat.lt_or_ge (val ys) (val xs) with h|h
  ·exact .inr (nf h)
  ·exact .inl (by rw[Nat.le_antisymm wn h];exact pH _)
 have kQ:=zH bm;have HLE:=zH wn;clear h h2 hi jw eL gN bm wn;go_enter Tryz.func228,Tryz.ntmps228;go_wp2_with fail;refine(et H.out).mono ?_;rintro e w' ⟨A3,n3,c3,rfl,hr,rfl⟩;have hl3:n3<=1073741824:=by have:=bA xs;have:=hr.len;have:=HL.out;omega
 have HR:=zH hr;clear hr;go_wp2_with fail;refine(et H2.out).mono ?_;rintro e w' ⟨A4,n4,c4,rfl,hr,rfl⟩;have nl:=zH hr;clear hr;obtain⟨la,gO⟩:∃l,cG xs=l:=⟨_,rfl⟩;obtain⟨lb,jT⟩:∃l,cG ys=l:=⟨_,rfl⟩;rw[gO] at HR vL kQ;rw[jT] at nl vK kQ;have xV:=zH HR.out.len;have Db:=zH nl.out.len;clear gO jT;have HCC:=zH hc;clear hc;go_upto_region 2 with(fail);go_cut [17] (λv wx=>v=.bool false/\Below w.heap.size w wx)
 case first=>
  go_wp2_with fail;refine(EP HR.out nl.out).mono ?_;rintro e w0 ⟨rfl,mm,rfl⟩;rw[vL.out,vK.out];rcases HCC.out with hc|hc
  all_goals
   rw[hc];clear hc;go_wp2_with fail;go_meet
   exact⟨rfl,below_drewN (Below.refl _ _) _⟩
 case rest=>
 obtain⟨rfl,hb0⟩:=hcut;obtain⟨w0,rfl⟩:∃w0:World,w0=wc:=⟨_,rfl⟩;have Vr:=zH hb0;have HR0:=zH (HR.out.below Vr.out hS);have akq:=zH (nl.out.below Vr.out gL);have HS0:Hid (∀b,S b->b<w0.heap.size):=zH λb hb=>Nat.lt_of_lt_of_le (hS b hb) Vr.out.size;have akl:Hid (∀b,S2 b->b<w0.heap.size):=zH λb hb=>Nat.lt_of_lt_of_le (gL b hb) Vr.out.size;clear hb0;go_wp2_with (refine bJ (α:=BitVec 32) _ rfl _ _ _ rfl rfl w0.heap.size i0 (.int .u32 0) Tryz.underlying26 HI.out oG.out jm.out rfl .i64 .i64 (n3:Int) (n3:Int) n3 rfl rfl rfl rfl (by rw[j1.out];omega) (by unfold maxLen;omega) (Nat.le_refl _) 0#32 bb (λ_ h=>h.elim) (λ_ _=>rfl) ?_; intro w1 oL hg1; have ic:=zH oL; have eP:=zH ((Below.refl w0.heap.size w0).grown hg1 (Nat.le_refl _) (λk hk=>by cases hk)); clear oL hg1);obtain⟨g,hg⟩:∃g,w0.heap.size=g:=⟨_,rfl⟩;rw[hg] at ic;rw[hg];have HG:=zH hg;clear hg;go_loopw [7,8,9,23] (λbv _ _ i wr=>∃(k br:Nat) (zs:List (BitVec 32)),k<=n3/\i=.int .i64 k/\bv=.int .u64 br/\br<=1/\zs.length=n3/\val (zs.take k)+val (lb.take k)=val (la.take k)+4294967296^k*br/\Own wr bb g 172 (.slice (some ⟨g,0,none⟩) n3 n3) zs/\Below w0.heap.size w0 wr)
  (λ_ _ _ i _=>n3-(intOf i).toNat)
 case atStart=>exact⟨0,0,List.replicate n3 0#32,by omega,rfl,rfl,by omega,by simp,by simp[val],ic.out,eP.out⟩
 case round=>
  clear ic eP;obtain⟨k,br,zs,hk,rfl,rfl,X9,xp,gK,ho,hb⟩:=hrel;have ic:=zH ho;have eP:=zH hb;have p9:=zH xp;have jI:=zH gK;clear ho hb xp gK;by_cases hlt:k<n3
  ·have hkM:(k:Int)<(n3:Int):=by omega
   obtain⟨g',u,ry,_,_,hu,eC,lF⟩:=ic.out.get1 rfl (show zs[k]?=some (zs.getD k 0#32) by rw[List.getD_eq_getElem?_getD,List.getElem?_eq_getElem (by rw[p9.out];exact hlt)];rfl);injection ry with ry
   injection ry with ry
   subst ry;obtain⟨x,lP⟩:∃x,(la.getD k 0#32).toNat=x:=⟨_,rfl⟩;obtain⟨y,Nc⟩:∃y,(lb.getD k 0#32).toNat=y:=⟨_,rfl⟩;have nA:x<4294967296:=by rw[<-lP];exact dm k
   have Bp:y<4294967296:=by rw[<-Nc];exact dm k
   have e1:=aX la k;have e2:=aX lb k;rw[lP] at e1;rw[Nc] at e2;obtain⟨s,hs⟩:∃s,4294967296+x-y-br=s:=⟨_,rfl⟩;have h3:=K9 X9 nA Bp hs jI.out;rw[<-e1,<-e2] at h3;have lJ:4294967296+(x:Int)-(y:Int)-(br:Int)=(s:Int):=by omega
   have eX:s<8589934592:=by omega
   have xq:=iy s;have Sb:(s:Int)/4294967296=((s/4294967296:Nat):Int):=rfl;obtain⟨z,hz⟩:∃z,BitVec.ofNat 32 s=z:=⟨_,rfl⟩;obtain⟨d,hd⟩:∃d,s/4294967296=d:=⟨_,rfl⟩;have eQ:=dQ s;rw[hz] at xq eQ;rw[hd] at Sb h3;rw[<-eQ] at h3;have XU:d<=1:=by omega
   obtain⟨br',adb⟩:∃br',1-d=br':=⟨_,rfl⟩;rw[adb] at h3;have bS:1-(d:Int)=(br':Int):=by omega
   have vJ:br'<=1:=by omega
   have HXX:=zH lP;have HYY:=zH Nc;have HH3:=zH h3;clear lP Nc e1 e2 hs h3 hz hd adb eQ hu;go_wp2_with fail;refine(jQ k (HR0.out.below eP.out HS0.out)).mono ?_;rintro e w' ⟨rfl,rfl⟩;rw[HXX.out];go_wp2_with fail;refine(jQ k (akq.out.below eP.out akl.out)).mono ?_;rintro e w' ⟨rfl,rfl⟩;rw[HYY.out];go_wp2_with fail;go_roundw
   case rel=>
    obtain⟨q1,q2⟩:=ic.out.stored (k:=k) (u:=.int .u32 (z.toNat:Int)) (x:=z) rfl rfl;refine⟨k+1,br',zs.set k z,by omega,by go_num,rfl,vJ,by rw[List.length_set];exact p9.out,?_,q1,eP.out.setCell (by have:=HG.out;simp;omega) _⟩;rw[em z (by rw[p9.out];exact hlt),Nat.pow_succ];exact HH3.out
   case measure=>simp[intOf];omega
  ·have hkm:k=n3:=by omega
   subst hkm;have dG:val zs=val xs-val ys:=by
    have h1:=jI.out;rw[bn _ _ (by rw[p9.out];exact Nat.le_refl _),bn la _ (by rw[xV.out];exact Nat.le_refl _),bn lb _ (by have:=kQ.out;rw[xV.out] at this;exact this),vL.out,vK.out] at h1;have h2:=dL zs;rw[p9.out] at h2;have h3:=HLE.out;have hb0:br=0:=by
     rcases Nat.eq_zero_or_pos br with h|h
     ·exact h
     ·have:br=1:=by omega
      rw[this,Nat.mul_one] at h1;omega
    rw[hb0,Nat.mul_zero] at h1;omega
   have vt:=zH dG;clear dG hlt;go_wp2_with fail;refine(jf ic.out.rsAll (by omega)).mono ?_;rintro e w2 ⟨v,rfl,ho,hb⟩;rw[vt.out] at ho;have np:=ak Vr.out eP.out;have HO:=zH (ho.base_le np.size);have HB:=zH (ak np hb);clear ho hb np;go_wp2_with fail;go_ret2
   exact⟨_,rfl,HO.out,HB.out⟩
theorem Oc {l:List (BitVec 32)} {k:Nat} (h:k<l.length):l[k]?=some (l.getD k 0#32):=by
 rw[List.getD_eq_getElem?_getD,List.getElem?_eq_getElem h];rfl
theorem Own.limb {w:World} {base g n c:Nat} {e:TypeId} {xs:List (BitVec 32)} (h:Own w bb base e (.slice (some ⟨g,0,none⟩) n c) xs) {k:Nat} (hk:k<xs.length):w.cell? ⟨g,k,none⟩=some (.int .u32 ((xs.getD k 0#32).toNat:Int))/\w.frozen? ⟨g,k,none⟩=false:=by
 obtain⟨g',u,ry,_,_,hu,eC,lF⟩:=h.get1 rfl (Oc hk);injection ry with ry
 injection ry with ry
 subst ry;have sw:[u]=[PD (xs.getD k 0#32)]:=hu;injection sw with sw
 subst sw;exact⟨eC,lF⟩
theorem Own.setLimb {w:World} {base g n c:Nat} {e:TypeId} {xs:List (BitVec 32)} (h:Own w bb base e (.slice (some ⟨g,0,none⟩) n c) xs) (k:Nat) (z:BitVec 32):Own (w.setCell ⟨g,k,none⟩ (.int .u32 (z.toNat:Int))) bb base e (.slice (some ⟨g,0,none⟩) n c) (xs.set k z):=
 (h.stored (k:=k) (u:=.int .u32 (z.toNat:Int)) (x:=z) rfl rfl).1
theorem yE {S S2:Nat->Prop} {A A2:Option Addr} {n c n2 c2:Nat} {xs ys:List (BitVec 32)} {w:World} (h:RS w S A n c xs) (h2:RS w S2 A2 n2 c2 ys) (hS:∀b,S b->b<w.heap.size) (gL:∀b,S2 b->b<w.heap.size) (hn:n<=1073741824) (hn2:n2<=1073741824) : Calls Tryz.prog 193 #[.slice A n c,.slice A2 n2 c2] w (iP w 172 (cF (val xs*val ys))):=by
 obtain⟨i0,hi,jw,eL,gN⟩:=info_parts Tryz.u32Info;have HI:=zH hi;have oG:=zH jw;have jm:=zH eL;have j1:=zH gN;have H:=zH h;have H2:=zH h2;have HL:=zH h.len;have nF:=zH h2.len;have vL:=zH (eg xs);have vK:=zH (eg ys);clear h h2 hi jw eL gN;go_enter Tryz.func193,Tryz.ntmps193;go_wp2_with fail;refine(et H.out).mono ?_;rintro e w' ⟨A3,n3,c3,rfl,hr,rfl⟩;have hl3:n3<=1073741824:=by have:=bA xs;have:=hr.len;have:=HL.out;omega
 have HR:=zH hr;clear hr;go_wp2_with fail;refine(et H2.out).mono ?_;rintro e w' ⟨A4,n4,c4,rfl,hr,rfl⟩;have hl4:n4<=1073741824:=by have:=bA ys;have:=hr.len;have:=nF.out;omega
 have nl:=zH hr;clear hr;obtain⟨la,gO⟩:∃l,cG xs=l:=⟨_,rfl⟩;obtain⟨lb,jT⟩:∃l,cG ys=l:=⟨_,rfl⟩;rw[gO] at HR vL;rw[jT] at nl vK;have xV:=zH HR.out.len;have Db:=zH nl.out.len;clear gO jT;have GC:(n3:Int)+(n4:Int)=((n3+n4:Nat):Int):=by omega
 obtain⟨M,hM⟩:∃M,n3+n4=M:=⟨_,rfl⟩;rw[hM] at GC;have hMb:M<=2147483648:=by omega
 have HM:=zH hM;clear hM;go_wp2_with (refine bJ (α:=BitVec 32) _ rfl _ _ _ rfl rfl w.heap.size i0 (.int .u32 0) Tryz.underlying26 HI.out oG.out jm.out rfl .i64 .i64 (M:Int) (M:Int) M rfl rfl rfl rfl (by rw[j1.out];omega) (by unfold maxLen;omega) (Nat.le_refl _) 0#32 bb (λ_ h=>h.elim) (λ_ _=>rfl) ?_; intro w1 oL hg1; have ic:=zH oL; have eP:=zH ((Below.refl w.heap.size w).grown hg1 (Nat.le_refl _) (λk hk=>by cases hk)); clear oL hg1);obtain⟨g,hg⟩:∃g,w.heap.size=g:=⟨_,rfl⟩;rw[hg] at ic;rw[hg];have HG:=zH hg;clear hg GC;go_loopw [24] (λi wr=>∃(k:Nat) (zs:List (BitVec 32)),k<=n3/\i=.int .i64 k/\zs.length=M/\val (zs.take (k+n4))=val (la.take k)*val lb/\Own wr bb g 172 (.slice (some ⟨g,0,none⟩) M M) zs/\Below w.heap.size w wr)
  (λi _=>n3-(intOf i).toNat)
 case atStart=>exact⟨0,List.replicate M 0#32,by omega,rfl,by simp,by rw[List.take_replicate,vO];simp[val],ic.out,eP.out⟩
 case round=>
  clear ic eP;obtain⟨k,zs,hk,rfl,xp,gK,ho,hb⟩:=hrel;have ic:=zH ho;have eP:=zH hb;have p9:=zH xp;have jI:=zH gK;clear ho hb xp gK;by_cases hlt:k<n3
  ·have hk3:(k:Int)<(n3:Int):=by omega
   obtain⟨b,o,x0,rfl,zO,hx,e1⟩:=(HR.out.below eP.out hS).limb_at hlt;have hxg:(la.getD k 0#32).toNat=x0.toNat:=by rw[List.getD_eq_getElem?_getD,hx];rfl
   have nA:=x0.isLt;have hxw:IntKind.u64.wrap (x0.toNat:Int)=(x0.toNat:Int):=by rw[IntKind.wrap_u64];omega
   have HXG:=zH hxg;clear hxg hx;go_wp2_with fail;obtain⟨wd,rfl⟩:∃wd:World,wd=wr:=⟨_,rfl⟩;go_loopw [8,31] (λcv j wr=>∃(q cr:Nat) (ts:List (BitVec 32)),q<=n4/\j=.int .i64 q/\cv=.int .u64 cr/\cr<4294967296/\ts.length=M/\ts.drop (k+q)=zs.drop (k+q)/\val (ts.take (k+q))+4294967296^(k+q)*cr=val (zs.take (k+q))+4294967296^k*(x0.toNat*val (lb.take q))/\Own wr bb g 172 (.slice (some ⟨g,0,none⟩) M M) ts/\Below w.heap.size w wr)
    (λ_ j _=>n4-(intOf j).toNat)
   case atStart=>exact⟨0,0,zs,by omega,rfl,rfl,by omega,p9.out,rfl,by simp[val],ic.out,eP.out⟩
   case round=>
    clear ic eP;obtain⟨q,cr,ts,hq,rfl,rfl,hcr,CO,hdr,UM,ho,hb⟩:=hrel;have mR:=zH ho;have ek:=zH hb;have Hp:=zH CO;have HDR:=zH hdr;have Vq:=zH UM;clear ho hb CO hdr UM;by_cases iR:q<n4
    ·have hq4:(q:Int)<(n4:Int):=by omega
     obtain⟨b2,o2,y0,rfl,adi,hy,e2⟩:=(nl.out.below ek.out gL).limb_at iR;have hyg:(lb.getD q 0#32).toNat=y0.toNat:=by rw[List.getD_eq_getElem?_getD,hy];rfl
     have Bp:=y0.isLt;have hyw:IntKind.u64.wrap (y0.toNat:Int)=(y0.toNat:Int):=by rw[IntKind.wrap_u64];omega
     have ahW:(k:Int)+(q:Int)=((k+q:Nat):Int):=by omega
     have XF:k+q<M:=by have:=HM.out;omega
     obtain⟨eC,lF⟩:=mR.out.limb (k:=k+q) (by rw[Hp.out];exact XF);have zG:(zs.getD (k+q) 0#32)=ts.getD (k+q) 0#32:=by
      have h1:=congrArg (·[0]?) HDR.out;simp only[List.getElem?_drop,Nat.add_zero] at h1;rw[List.getD_eq_getElem?_getD,List.getD_eq_getElem?_getD,h1]
     have e3:=aX zs (k+q);have e4:=aX lb q;rw[hyg] at e4;rw[zG] at e3;obtain⟨z0,jw⟩:∃z0,ts.getD (k+q) 0#32=z0:=⟨_,rfl⟩;rw[jw] at eC e3;have ahd:=z0.isLt;have hzw:IntKind.u64.wrap (z0.toNat:Int)=(z0.toNat:Int):=by rw[IntKind.wrap_u64];omega
     obtain⟨bS,bH⟩:=IY nA Bp ahd hcr;obtain⟨s,hs⟩:∃s,x0.toNat*y0.toNat+z0.toNat+cr=s:=⟨_,rfl⟩;have h3:=Mj (B:=4294967296) (p:=4294967296^(k+q)) (pi:=4294967296^k) (pj:=4294967296^q) (by rw[Nat.pow_add]) hs Vq.out;rw[<-e3,<-e4] at h3;obtain⟨p,hp⟩:∃p,x0.toNat*y0.toNat=p:=⟨_,rfl⟩;have hpi:(x0.toNat:Int)*(y0.toNat:Int)=(p:Int):=by rw[<-hp];exact(Int.natCast_mul _ _).symm
     rw[hp] at bS bH hs;have lJ:(p:Int)+(z0.toNat:Int)+(cr:Int)=(s:Int):=by omega
     have CP:(p:Int)+(z0.toNat:Int)<18446744073709551616:=by omega
     have hs3:s<18446744073709551616:=by omega
     have xq:=iy s;have Sb:(s:Int)/4294967296=((s/4294967296:Nat):Int):=rfl;obtain⟨z,hz⟩:∃z,BitVec.ofNat 32 s=z:=⟨_,rfl⟩;obtain⟨Tb,NV⟩:∃Tb,s/4294967296=Tb:=⟨_,rfl⟩;have eQ:=dQ s;rw[hz] at xq eQ;rw[NV] at Sb h3;rw[<-eQ] at h3;have rY:Tb<4294967296:=by omega
     obtain⟨r,hr⟩:∃r,k+q=r:=⟨_,rfl⟩;rw[hr] at ahW XF eC lF;have hrM:(r:Int)<(M:Int):=by omega
     have HH3:=zH h3;have CG:=zH hr;clear hyg e3 e4 hs hp hz NV eQ jw zG hy h3 hr bH;go_wp2_with fail;go_roundw
     case rel=>
      have hkr:k+(q+1)=r+1:=by have:=CG.out;omega
      refine⟨q+1,Tb,ts.set r z,by omega,by go_num,rfl,rY,by rw[List.length_set];exact Hp.out,?_,?_,mR.out.setLimb r z,ek.out.setCell (by have:=HG.out;simp;omega) _⟩
      ·rw[hkr,List.drop_set_of_lt (by omega),<-CG.out,<-List.drop_drop,HDR.out,List.drop_drop]
      ·rw[hkr,em z (by rw[Hp.out];exact XF),<-CG.out,Nat.pow_succ];exact HH3.out
     case measure=>simp[intOf];omega
    ·have Xv:q=n4:=by omega
     have hkM:(k:Int)+(n4:Int)=((k+n4:Nat):Int):=by omega
     obtain⟨r,hr⟩:∃r,k+n4=r:=⟨_,rfl⟩;have hrM:r<M:=by have:=HM.out;omega
     obtain⟨eC,lF⟩:=mR.out.limb (k:=r) (by rw[Hp.out];exact hrM);have hri:(r:Int)<(M:Int):=by omega
     rw[hr] at hkM;have xq:=iy cr;obtain⟨z,hz⟩:∃z,BitVec.ofNat 32 cr=z:=⟨_,rfl⟩;have eQ:=dQ cr;rw[hz] at xq eQ;have Xe:z.toNat=cr:=by omega
     have lM:val ((ts.set r z).take (r+1))=val (la.take (k+1))*val lb:=by
      have h1:=Vq.out;rw[Xv,hr,bn lb _ (by rw[Db.out];exact Nat.le_refl _)] at h1;have h2:=jI.out;rw[hr] at h2;rw[h2] at h1;have h4:=aX la k;rw[HXG.out] at h4;rw[em z (by rw[Hp.out];exact hrM),Xe,h1,h4,Nat.add_mul,Nat.mul_assoc]
     have Fg:=zH lM;have CG:=zH hr;clear lM Xv hr Xe eQ hz hcr;go_wp2_with fail;go_roundw
     case rel=>
      refine⟨k+1,ts.set r z,by omega,by go_num,by rw[List.length_set];exact Hp.out,?_,mR.out.setLimb r z,ek.out.setCell (by have:=HG.out;simp;omega) _⟩;have hkr:k+1+n4=r+1:=by have:=CG.out;omega
      rw[hkr];exact Fg.out
     case measure=>simp[intOf];omega
  ·have nP:k=n3:=by omega
   have dG:val zs=val xs*val ys:=by
    have h1:=jI.out;rw[nP,bn _ _ (by rw[p9.out];have:=HM.out;omega),bn la _ (by rw[xV.out];exact Nat.le_refl _),vL.out,vK.out] at h1;exact h1
   have vt:=zH dG;clear dG nP;go_wp2_with fail;refine(jf ic.out.rsAll (by omega)).mono ?_;rintro e w2 ⟨v,rfl,ho,hb⟩;rw[vt.out] at ho;have HO:=zH (ho.base_le eP.out.size);have HB:=zH (ak eP.out hb);clear ho hb;go_wp2_with fail;go_ret
   exact⟨_,rfl,HO.out,HB.out⟩
def CE (w:World) (v n d:Nat) (en:Ending) (w':World):Prop:=
 ∃(s:Value) (qs:List (BitVec 32)),en=.returned (.tuple #[s,.int .u64 ((v%d:Nat):Int)])/\Own w' bb w.heap.size 172 s qs/\val qs=v/d/\qs.length=n/\Below w.heap.size w w'
theorem Wj (a x:Nat) (ha:a<4294967296) (hx:x<4294967296):bits .or .u64 ((a:Int)*4294967296) (x:Int)=((a*4294967296+x:Nat):Int):=by
 have e:(a:Int)*4294967296=((a*4294967296:Nat):Int):=by omega
 rw[e,u64_or_nat _ _ (by omega) (by omega),AL _ _ hx]
theorem wG {S:Nat->Prop} {A:Option Addr} {n c:Nat} {xs:List (BitVec 32)} {w:World} (d:Nat) (h:RS w S A n c xs) (hS:∀b,S b->b<w.heap.size) (hn:n<=1073741824) (hd:0<d) (P0:d<4294967296) : Calls Tryz.prog 171 #[.slice A n c,.int .u64 d] w (CE w (val xs) n d):=by
 obtain⟨i0,hi,jw,eL,gN⟩:=info_parts Tryz.u32Info;have HI:=zH hi;have oG:=zH jw;have jm:=zH eL;have j1:=zH gN;have H:=zH h;have HL:=zH h.len;clear h hi jw eL gN;go_enter Tryz.func171,Tryz.ntmps171;go_wp2_with (refine bJ (α:=BitVec 32) _ rfl _ _ _ rfl rfl w.heap.size i0 (.int .u32 0) Tryz.underlying26 HI.out oG.out jm.out rfl .i64 .i64 (n:Int) (n:Int) n rfl rfl rfl rfl (by rw[j1.out];omega) (by unfold maxLen;omega) (Nat.le_refl _) 0#32 bb (λ_ h=>h.elim) (λ_ _=>rfl) ?_; intro w1 oL hg1; have ic:=zH oL; have eP:=zH ((Below.refl w.heap.size w).grown hg1 (Nat.le_refl _) (λk hk=>by cases hk)); clear oL hg1);obtain⟨g,hg⟩:∃g,w.heap.size=g:=⟨_,rfl⟩;rw[hg] at ic;rw[hg];have HG:=zH hg;clear hg;go_loopw [7,8] (λrv i wr=>∃(k r:Nat) (z:Int) (qs:List (BitVec 32)),k<=n/\i=.int .i64 z/\z+1=k/\rv=.int .u64 r/\r<d/\qs.length=n/\val (qs.drop k)*d+r=val (xs.drop k)/\Own wr bb g 172 (.slice (some ⟨g,0,none⟩) n n) qs/\Below w.heap.size w wr)
  (λ_ i _=>(intOf i+1).toNat)
 case atStart=>exact⟨n,0,(n:Int)-1,List.replicate n 0#32,Nat.le_refl _,rfl,by omega,rfl,hd,by simp,by rw[List.drop_eq_nil_of_le (by simp),List.drop_eq_nil_of_le (by rw[HL.out];exact Nat.le_refl _)];simp[val],ic.out,eP.out⟩
 case round=>
  clear ic eP;obtain⟨k,r,z,qs,hk,rfl,hz,rfl,hr,zM,gK,ho,hb⟩:=hrel;have ic:=zH ho;have eP:=zH hb;have Hr:=zH zM;have jI:=zH gK;clear ho hb zM gK;rcases k with _|k
  ·obtain rfl:z= -1:=by omega
   have hdm:=xJ (jI.out) hr;rw[List.drop_zero,List.drop_zero] at hdm;have HD:=zH hdm;clear hdm hz;go_wp2_with fail;go_ret2
   exact⟨_,qs,by rw[<-HD.out.2];rfl,by rw[HG.out];exact ic.out,HD.out.1,Hr.out,eP.out⟩
  ·obtain rfl:z=k:=by omega
   have nP:(k:Int)<(n:Int):=by omega
   obtain⟨b,o,a,rfl,_,hx,e1⟩:=(H.out.below eP.out hS).limb_at (k:=k) (by omega);have hal:=a.isLt;have UF:=jJ hx;obtain⟨eC,lF⟩:=ic.out.limb (k:=k) (by rw[Hr.out];omega);obtain⟨x,lP⟩:∃x,r*4294967296+a.toNat=x:=⟨_,rfl⟩;have hs:=DG (B:=4294967296) lP jI.out;rw[<-UF] at hs;have zM:=Lr hr hal lP;have kj:=Wj r a.toNat (by omega) hal;rw[lP] at kj;have hxb:x<18446744073709551616:=by omega
   obtain⟨q,hq⟩:∃q,x/d=q:=⟨_,rfl⟩;obtain⟨r',iV⟩:∃r',x%d=r':=⟨_,rfl⟩;have xu:r'<d:=by rw[<-iV];exact Nat.mod_lt _ hd
   rw[hq] at hs zM;rw[iV] at hs;have UG:(x:Int).tdiv (d:Int)=(q:Int):=by rw[<-hq];rfl
   have PT:(x:Int).tmod (d:Int)=(r':Int):=by rw[<-iV];rfl
   have acz:(x:Int)/(d:Int)=(q:Int):=by rw[<-hq];rfl
   have acq:(x:Int)%(d:Int)=(r':Int):=by rw[<-iV];rfl
   have haw:IntKind.u64.wrap (a.toNat:Int)=(a.toNat:Int):=by rw[IntKind.wrap_u64];omega
   have xq:=iy q;obtain⟨zq,Nb⟩:∃z,BitVec.ofNat 32 q=z:=⟨_,rfl⟩;have eQ:=dQ q;rw[Nb] at xq eQ;have oK:zq.toNat=q:=by omega
   have lM:val ((qs.set k zq).drop k)*d+r'=val (xs.drop k):=by
    rw[nS zq (by rw[Hr.out];omega),val,oK];exact hs
   have hd0:((d:Int)==0)=false:=by rw[beq_eq_false_iff_ne];omega
   have Fg:=zH lM;clear hs hx UF lP hq iV Nb eQ oK lM hz;go_wp2_with fail;go_roundw
   case rel=>exact⟨k,r',(k:Int)-1,qs.set k zq,by omega,by go_num,by omega,rfl,xu,by rw[List.length_set];exact Hr.out,Fg.out,ic.out.setLimb k zq,eP.out.setCell (by have:=HG.out;simp;omega) _⟩
   case measure=>simp[intOf]
end Go.Proofs.YtdbpbfglhbiadaaGreatDoor
