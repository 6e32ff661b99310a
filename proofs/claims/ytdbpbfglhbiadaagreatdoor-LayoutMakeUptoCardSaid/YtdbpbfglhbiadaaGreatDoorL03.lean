/- Nat2 Nat3 Nat4 Nat5 Nat6 -/
import Derived.Test.YtdbpbfglhbiadaaGreatDoorL02
import Derived.Test.YtdbpbfglhbiadaaGreatDoorL01
import Derived.Deep.DeepCutAuto
set_option maxHeartbeats 8000000
set_option maxRecDepth 100000
namespace Go.Proofs.YtdbpbfglhbiadaaGreatDoor
open Go.RowKit
theorem Own.rsAll {α:Type} [aF α] {w:World} {base:Nat} {e:TypeId} {A:Option Addr} {n c:Nat} {xs:List α} (h:Own w bz base e (.slice A n c) xs):RS w (·<w.heap.size) A n c xs:=h.rs (fun _ h=>h.elim) (fun _ _ h=>h)
theorem Ov (n:Nat) (h:n<18446744073709551616):val [BitVec.ofNat 32 n,BitVec.ofNat 32 (n/4294967296)]=n:=by
 simp only[val,BitVec.toNat_ofNat];omega
theorem Bt (n:Nat) (w:World) (h:n<18446744073709551616):Calls Tryz.prog 219 #[.int .u64 n] w (jQ w 172 (du n)):=by
 have hv:=Ov n h;obtain⟨x,hx⟩:∃x,BitVec.ofNat 32 n=x:=⟨_,rfl⟩;obtain⟨y,hy⟩:∃y,BitVec.ofNat 32 (n/4294967296)=y:=⟨_,rfl⟩;have h1:IntKind.u32.wrap (n:Int)=(x.toNat:Int):=by rw[←hx,IntKind.wrap_u32,BitVec.toNat_ofNat];omega
 have h2:IntKind.u32.wrap ((n:Int)/4294967296)=(y.toNat:Int):=by rw[←hy,IntKind.wrap_u32,BitVec.toNat_ofNat];omega
 rw[hx,hy] at hv;have HV:=zH hv;clear hv hx hy;go_enter Tryz.func219,Tryz.ntmps219;go_wp2_with fail;have hb:Below w.heap.size w (w.alloc (.cells #[.int .u32 (x.toNat:Int),.int .u32 (y.toNat:Int)] 172)):=(Below.refl _ _).alloc (Nat.le_refl _) _;have hr:RS (w.alloc (.cells #[.int .u32 (x.toNat:Int),.int .u32 (y.toNat:Int)] 172)) (fun _=>True) (some ⟨w.heap.size,0,none⟩) 2 2 [x,y]:=
  RS.of_blk (t:=172) (cs:=#[.int .u32 (x.toNat:Int),.int .u32 (y.toNat:Int)]) (dI.new _ _ _) (Flat.limbs [x,y]) rfl (Nat.le_refl _) (by decide) trivial
 refine(kh hr (by omega)).mono ?_;rintro e w2 ⟨v,rfl,ho,cm⟩;rw[HV.out] at ho;have HO:=zH (ho.base_le (Nat.le_trans hb.size (Nat.le_refl _)));have HB:=zH (ao hb cm);clear ho hb cm hr h1 h2;go_wp2_with fail;go_ret
 exact⟨_,rfl,HO.out,HB.out⟩
theorem G4 {S S2:Nat→Prop} {A A2:Option Addr} {n c n2 c2:Nat} {xs ys:List (BitVec 32)} {w:World} (h:RS w S A n c xs) (h2:RS w S2 A2 n2 c2 ys) : Calls Tryz.prog 221 #[.slice A n c,.slice A2 n2 c2] w (yt w (.int .i64 (kP (val xs) (val ys)))):=by
 have H:=zH h;have H2:=zH h2;have ZP:=fc xs;have ZO:=fc ys;have hlx:=dY xs;have hly:=dY ys;have yF:=zH ZP;have yE:=zH ZO;have HLX:=zH hlx;have HLY:=zH hly;clear h h2 ZP ZO hlx hly;go_enter Tryz.func221,Tryz.ntmps221;go_wp2_with fail;refine(fi H.out).mono ?_;rintro e w' ⟨A3,n3,c3,rfl,hr,rfl⟩;have HR:=zH hr;clear hr;go_wp2_with fail;refine(fi H2.out).mono ?_;rintro e w' ⟨A4,n4,c4,rfl,hr,rfl⟩;have pk:=zH hr;have hm3:=HR.out.max;have hm4:=hr.max;clear hr;obtain⟨l3,hl3⟩:∃l,dy xs=l:=⟨_,rfl⟩;obtain⟨l4,hl4⟩:∃l,dy ys=l:=⟨_,rfl⟩;rw[hl3] at HR yF HLX;rw[hl4] at pk yE HLY;have AN:=zH HR.out.len;have FE:=zH pk.out.len;clear hl3 hl4;by_cases hlt:n3=n4
 ·subst hlt;have hb:((n3:Int) !=(n3:Int))=false:=by simp
  go_wp2_with fail;go_loopw [5,27,37] (fun v _ _ wr=>∃(k m:Nat) (z:Int),k≤n3∧v=.int .i64 z∧z+1=k∧l3.drop k=l4.drop k∧wr=w.drewN m) (fun v _ _ _=>(intOf v+1).toNat)
  case atStart=>exact⟨n3,0,(n3:Int)-1,Nat.le_refl _,rfl,by omega,by rw[List.drop_eq_nil_of_le (by rw[AN.out];exact Nat.le_refl _),List.drop_eq_nil_of_le (by rw[FE.out];exact Nat.le_refl _)],rfl⟩
  case round=>
   obtain⟨k,m,z,hk,rfl,hz,hd,rfl⟩:=hrel;have HD:=zH hd;clear hd;rcases k with _|k
   ·obtain rfl:z= -1:=by omega
    have he:kP (val xs) (val ys)=0:=by
     have h1:=HD.out;rw[List.drop_zero,List.drop_zero] at h1;rw[←yF.out,←yE.out,h1,sK]
    have HE:=zH he;clear he hz;go_wp2_with fail;go_ret
    exact⟨iu (by rw[HE.out];rfl),_,rfl⟩
   ·obtain rfl:z=k:=by omega
    obtain⟨b,o,x,rfl,_,hx,e1⟩:=HR.out.limb_at (k:=k) (by omega);obtain⟨b2,o2,y,rfl,_,hy,e2⟩:=pk.out.limb_at (k:=k) (by omega);have gX:(k:Int)<(n3:Int):=by omega
    have HX:=zH hx;have HY:=zH hy;clear hx hy hz;rcases Nat.lt_trichotomy x.toNat y.toNat with hc|hc|hc
    ·have he:kP (val xs) (val ys)= -1:=by
      rw[←yF.out,←yE.out];exact pc (nZ HD.out HX.out HY.out hc)
     have HE:=zH he;have d1:decide (x.toNat<y.toNat)=true:=decide_eq_true (by omega);clear he hc;go_wp2_with fail;go_quiet (fail)
     go_wp2_with fail;go_ret
     exact⟨iu (by rw[HE.out];rfl),_,World.drewN_drewN _ _ _⟩
    ·have oD:x=y:=BitVec.eq_of_toNat_eq hc;have hn:=Ce HD.out HX.out (by rw[oD];exact HY.out);have HN:=zH hn;have d1:decide (x.toNat<y.toNat)=false:=decide_eq_false (by omega);have d2:decide (y.toNat<x.toNat)=false:=decide_eq_false (by omega);clear hn oD hc;go_wp2_with fail;go_quiet (fail)
     go_wp2_with fail;go_quiet (fail)
     go_wp2_with fail;go_roundw
     case rel=>exact⟨k,_,(k:Int)-1,by omega,by go_num,by omega,HN.out,by first|rfl|(rw[World.drewN_drewN,World.drewN_drewN])|(rw[World.drewN_drewN])⟩
     case measure=>simp[intOf]
    ·have he:kP (val xs) (val ys)=1:=by
      rw[←yF.out,←yE.out];exact pd (nZ HD.out.symm HY.out HX.out hc)
     have HE:=zH he;have d1:decide (x.toNat<y.toNat)=false:=decide_eq_false (by omega);have d2:decide (y.toNat<x.toNat)=true:=decide_eq_true (by omega);clear he hc;go_wp2_with fail;go_quiet (fail)
     go_wp2_with fail;go_quiet (fail)
     go_wp2_with fail;go_ret
     exact⟨iu (by rw[HE.out];rfl),_,(congrArg (fun w=>World.drewN w _) (World.drewN_drewN _ _ _)).trans (World.drewN_drewN _ _ _)⟩
 ·have hb:((n3:Int) !=(n4:Int))=true:=by simp;omega
  by_cases h3:n3<n4
  ·have he:kP (val xs) (val ys)= -1:=pc (mj (by rw[HLX.out,HLY.out,AN.out,FE.out];exact h3));have HE:=zH he;clear he;go_wp2_with fail;go_ret
   exact⟨iu (by rw[HE.out];rfl),0,rfl⟩
  ·have he:kP (val xs) (val ys)=1:=pd (mj (by rw[HLX.out,HLY.out,AN.out,FE.out];omega));have HE:=zH he;clear he;go_wp2_with fail;go_ret
   exact⟨iu (by rw[HE.out];rfl),0,rfl⟩
theorem Tryz.u32Info:(Tryz.prog.info? 172).map (fun i=>(i.zero,i.size,i.bytes))=some (some (.int .u32 0),1,4):=by kernel_rfl
theorem jr (s:Nat):IntKind.u32.wrap (s:Int)=((BitVec.ofNat 32 s).toNat:Int):=by rw[IntKind.wrap_u32,BitVec.toNat_ofNat];omega
theorem eN (s:Nat):(BitVec.ofNat 32 s).toNat=s%4294967296:=by rw[BitVec.toNat_ofNat]
theorem eh {l:List (BitVec 32)} (k:Nat):(l.getD k 0#32).toNat<4294967296:=(l.getD k 0#32).isLt
theorem VW {S S2:Nat→Prop} {A A2:Option Addr} {n c n2 c2:Nat} {xs ys:List (BitVec 32)} {w:World} (h:RS w S A n c xs) (h2:RS w S2 A2 n2 c2 ys) (hS:∀b,S b→b<w.heap.size) (iM:∀b,S2 b→b<w.heap.size) (hn:n≤1073741824) (hn2:n2≤1073741824) : Calls Tryz.prog 227 #[.slice A n c,.slice A2 n2 c2] w (jQ w 172 (du (val xs+val ys))):=by
 obtain⟨i0,hi,kI,fF,iO⟩:=info_parts Tryz.u32Info;have HI:=zH hi;have qR:=zH kI;have ku:=zH fF;have lC:=zH iO;have H:=zH h;have H2:=zH h2;have HL:=zH h.len;have pG:=zH h2.len;have yF:=zH (fc xs);have yE:=zH (fc ys);clear h h2 hi kI fF iO;go_enter Tryz.func227,Tryz.ntmps227;go_wp2_with fail;refine(fi H.out).mono ?_;rintro e w' ⟨A3,n3,c3,rfl,hr,rfl⟩;have hl3:n3≤1073741824:=by have:=bU xs;have:=hr.len;have:=HL.out;omega
 have HR:=zH hr;clear hr;go_wp2_with fail;refine(fi H2.out).mono ?_;rintro e w' ⟨A4,n4,c4,rfl,hr,rfl⟩;have hl4:n4≤1073741824:=by have:=bU ys;have:=hr.len;have:=pG.out;omega
 have pk:=zH hr;clear hr;obtain⟨la,iP⟩:∃l,dy xs=l:=⟨_,rfl⟩;obtain⟨lb,lw⟩:∃l,dy ys=l:=⟨_,rfl⟩;rw[iP] at HR yF;rw[lw] at pk yE;have AN:=zH HR.out.len;have FE:=zH pk.out.len;clear iP lw;go_upto_region 2 with(fail);go_cut [5] (fun v wx=>∃m:Nat,v=.int .i64 m∧n3≤m∧n4≤m∧m≤1073741824∧w=wx)
 case first=>
  by_cases hc:(n3:Int)<(n4:Int)
  ·go_wp2_with fail;go_meet
   exact⟨n4,rfl,by omega,by omega,by omega,rfl⟩
  ·go_wp2_with fail;go_meet
   exact⟨n3,rfl,by omega,by omega,by omega,rfl⟩
 case rest=>
 obtain⟨m,rfl,hm3,hm4,hm,rfl⟩:=hcut;have Jm:(m:Int)+1=((m+1:Nat):Int):=by omega
 obtain⟨M,hM⟩:∃M,m+1=M:=⟨_,rfl⟩;rw[hM] at Jm;have hMb:M≤1073741825:=by omega
 have HM:=zH hM;clear hM;go_wp2_with (refine ct (α:=BitVec 32) _ rfl _ _ _ rfl rfl w.heap.size i0 (.int .u32 0) Tryz.underlying26 HI.out qR.out ku.out rfl .i64 .i64 (M:Int) (M:Int) M rfl rfl rfl rfl (by rw[lC.out];omega) (by unfold maxLen;omega) (Nat.le_refl _) 0#32 bz (fun _ h=>h.elim) (fun _ _=>rfl) ?_; intro w1 qX hg1; have jk:=zH qX; have fK:=zH ((Below.refl w.heap.size w).grown hg1 (Nat.le_refl _) (fun k hk=>by cases hk)); clear qX hg1);obtain⟨g,hg⟩:∃g,w.heap.size=g:=⟨_,rfl⟩;rw[hg] at jk;rw[hg];have HG:=zH hg;clear hg Jm;go_loopw [7,8,9,23] (fun cv _ _ i wr=>∃(k cr:Nat) (zs:List (BitVec 32)),k≤m∧i=.int .i64 k∧cv=.int .u64 cr∧cr≤1∧zs.length=M∧val (zs.take k)+4294967296^k*cr=val (la.take k)+val (lb.take k)∧Own wr bz g 172 (.slice (some ⟨g,0,none⟩) M M) zs∧Below w.heap.size w wr)
  (fun _ _ _ i _=>m-(intOf i).toNat)
 case atStart=>exact⟨0,0,List.replicate M 0#32,by omega,rfl,rfl,by omega,by simp,by simp[val],jk.out,fK.out⟩
 case round=>
  clear jk fK;obtain⟨k,cr,zs,hk,rfl,rfl,hcr,z9,iL,ho,hb⟩:=hrel;have jk:=zH ho;have fK:=zH hb;have tl:=zH z9;have kU:=zH iL;clear ho hb z9 iL;by_cases hlt:k<m
  ·have hkM:(k:Int)<(M:Int):=by have:=HM.out;omega
   have hx:=AN.out;obtain⟨g',u,uE,_,_,hu,ft,nC⟩:=jk.out.get1 rfl (show zs[k]?=some (zs.getD k 0#32) by rw[List.getD_eq_getElem?_getD,List.getElem?_eq_getElem (by rw[tl.out];have:=HM.out;omega)];rfl);injection uE with uE
   injection uE with uE
   subst uE;obtain⟨x,nS⟩:∃x,(la.getD k 0#32).toNat=x:=⟨_,rfl⟩;obtain⟨y,Py⟩:∃y,(lb.getD k 0#32).toNat=y:=⟨_,rfl⟩;have pC:x<4294967296:=by rw[←nS];exact eh k
   have Ec:y<4294967296:=by rw[←Py];exact eh k
   have e1:=bp la k;have e2:=bp lb k;rw[nS] at e1;rw[Py] at e2;obtain⟨s,hs⟩:∃s,x+y+cr=s:=⟨_,rfl⟩;have h3:=Fh hs kU.out;rw[←e1,←e2] at h3;have nM:(x:Int)+(y:Int)+(cr:Int)=(s:Int):=by omega
   have fU:s<8589934592:=by omega
   have Ac:=jr s;have UK:(s:Int)/4294967296=((s/4294967296:Nat):Int):=rfl;obtain⟨z,hz⟩:∃z,BitVec.ofNat 32 s=z:=⟨_,rfl⟩;obtain⟨Vu,Qi⟩:∃Vu,s/4294967296=Vu:=⟨_,rfl⟩;have fL:=eN s;rw[hz] at Ac fL;rw[Qi] at UK h3;rw[←fL] at h3;have vn:Vu≤1:=by omega
   have HXX:=zH nS;have HYY:=zH Py;have HH3:=zH h3;clear nS Py e1 e2 hs h3 hz Qi fL hu hx;go_wp2_with fail;refine(lq k (HR.out.below fK.out hS)).mono ?_;rintro e w' ⟨rfl,rfl⟩;rw[HXX.out];go_wp2_with fail;refine(lq k (pk.out.below fK.out iM)).mono ?_;rintro e w' ⟨rfl,rfl⟩;rw[HYY.out];go_wp2_with fail;go_roundw
   case rel=>
    obtain⟨q1,q2⟩:=jk.out.stored (k:=k) (u:=.int .u32 (z.toNat:Int)) (x:=z) rfl rfl;refine⟨k+1,Vu,zs.set k z,by omega,by go_num,rfl,vn,by rw[List.length_set];exact tl.out,?_,q1,fK.out.setCell (by have:=HG.out;simp;omega) _⟩;rw[fh z (by rw[tl.out];have:=HM.out;omega),Nat.pow_succ];exact HH3.out
   case measure=>simp[intOf];omega
  ·have hkm:k=m:=by omega
   subst hkm;have hkM:(k:Int)<(M:Int):=by have:=HM.out;omega
   obtain⟨g',u,uE,_,_,hu,ft,nC⟩:=jk.out.get1 rfl (show zs[k]?=some (zs.getD k 0#32) by rw[List.getD_eq_getElem?_getD,List.getElem?_eq_getElem (by rw[tl.out];have:=HM.out;omega)];rfl);injection uE with uE
   injection uE with uE
   subst uE;have Ac:=jr cr;obtain⟨z,hz⟩:∃z,BitVec.ofNat 32 cr=z:=⟨_,rfl⟩;have fL:=eN cr;rw[hz] at Ac fL;have ZH:z.toNat=cr:=by omega
   obtain⟨q1,q2⟩:=jk.out.stored (k:=k) (u:=.int .u32 (z.toNat:Int)) (x:=z) rfl rfl;have eD:val (zs.set k z)=val xs+val ys:=by
    have h1:=fh z (l:=zs) (k:=k) (by rw[tl.out];have:=HM.out;omega);rw[bL _ _ (by rw[List.length_set,tl.out];have:=HM.out;omega),ZH,kU.out,bL _ _ (by rw[AN.out];exact hm3),bL _ _ (by rw[FE.out];exact hm4),yF.out,yE.out] at h1;exact h1
   have hq:=q1.rsAll;have Z1:Below w.heap.size w (wr.setCell ⟨g,k,none⟩ (.int .u32 (z.toNat:Int))):=fK.out.setCell (by have:=HG.out;simp;omega) _;have yy:=zH eD;have HQ:=zH hq;have HQB:=zH Z1;clear eD hq Z1 q1 q2 ZH fL hz hu hlt;go_wp2_with fail;refine(kh HQ.out (by omega)).mono ?_;rintro e w2 ⟨v,rfl,ho,hb⟩;rw[yy.out] at ho;have HO:=zH (ho.base_le HQB.out.size);have HB:=zH (ao HQB.out hb);clear ho hb;go_wp2_with fail;go_ret
   exact⟨_,rfl,HO.out,HB.out⟩
def XA {α:Type} [aF α] (w:World) (e:TypeId) (xs:List α) (u:Value) (en:Ending) (w':World):Prop:=
 ∃v',en=.returned (.tuple #[v',u])∧Own w' bz w.heap.size e v' xs∧Below w.heap.size w w'
theorem S4 {S S2:Nat→Prop} {A A2:Option Addr} {n c n2 c2:Nat} {xs ys:List (BitVec 32)} {w:World} (h:RS w S A n c xs) (h2:RS w S2 A2 n2 c2 ys) (hlt:val xs<val ys) : Calls Tryz.prog 228 #[.slice A n c,.slice A2 n2 c2] w (XA w 172 ([]:List (BitVec 32)) (.bool false)):=by
 have H:=zH h;have H2:=zH h2;have yF:=zH (fc xs);have yE:=zH (fc ys);have HC:=zH (pc hlt);clear h h2 hlt;go_enter Tryz.func228,Tryz.ntmps228;go_wp2_with fail;refine(fi H.out).mono ?_;rintro e w' ⟨A3,n3,c3,rfl,hr,rfl⟩;have HR:=zH hr;clear hr;go_wp2_with fail;refine(fi H2.out).mono ?_;rintro e w' ⟨A4,n4,c4,rfl,hr,rfl⟩;have pk:=zH hr;clear hr;go_wp2_with fail;refine(G4 HR.out pk.out).mono ?_;rintro e w' ⟨rfl,m,rfl⟩;rw[yF.out,yE.out,HC.out];go_wp2_with fail;go_ret2
 exact⟨_,rfl,Own.nil _ _ _,below_drewN (Below.refl _ _) _⟩
theorem Ip {S S2:Nat→Prop} {A A2:Option Addr} {n c n2 c2:Nat} {xs ys:List (BitVec 32)} {w:World} (h:RS w S A n c xs) (h2:RS w S2 A2 n2 c2 ys) (hS:∀b,S b→b<w.heap.size) (iM:∀b,S2 b→b<w.heap.size) (hn:n≤1073741824) (yV:val ys≤val xs) : Calls Tryz.prog 228 #[.slice A n c,.slice A2 n2 c2] w (XA w 172 (du (val xs-val ys)) (.bool true)):=by
 obtain⟨i0,hi,kI,fF,iO⟩:=info_parts Tryz.u32Info;have HI:=zH hi;have qR:=zH kI;have ku:=zH fF;have lC:=zH iO;have H:=zH h;have H2:=zH h2;have HL:=zH h.len;have yF:=zH (fc xs);have yE:=zH (fc ys);have bG:(dy ys).length≤(dy xs).length:=by rw[←dY,←dY];exact gf yV
 have hc:kP (val xs) (val ys)=0∨kP (val xs) (val ys)=1:=by
  rcases Nat.lt_or_ge (val ys) (val xs) with h|h
  ·exact .inr (pd h)
  ·exact .inl (by rw[Nat.le_antisymm yV h];exact sK _)
 have mL:=zH bG;have HLE:=zH yV;clear h h2 hi kI fF iO bG yV;go_enter Tryz.func228,Tryz.ntmps228;go_wp2_with fail;refine(fi H.out).mono ?_;rintro e w' ⟨A3,n3,c3,rfl,hr,rfl⟩;have hl3:n3≤1073741824:=by have:=bU xs;have:=hr.len;have:=HL.out;omega
 have HR:=zH hr;clear hr;go_wp2_with fail;refine(fi H2.out).mono ?_;rintro e w' ⟨A4,n4,c4,rfl,hr,rfl⟩;have pk:=zH hr;clear hr;obtain⟨la,iP⟩:∃l,dy xs=l:=⟨_,rfl⟩;obtain⟨lb,lw⟩:∃l,dy ys=l:=⟨_,rfl⟩;rw[iP] at HR yF mL;rw[lw] at pk yE mL;have AN:=zH HR.out.len;have FE:=zH pk.out.len;clear iP lw;have HCC:=zH hc;clear hc;go_upto_region 2 with(fail);go_cut [17] (fun v wx=>v=.bool false∧Below w.heap.size w wx)
 case first=>
  go_wp2_with fail;refine(G4 HR.out pk.out).mono ?_;rintro e w0 ⟨rfl,mm,rfl⟩;rw[yF.out,yE.out];rcases HCC.out with hc|hc
  all_goals
   rw[hc];clear hc;go_wp2_with fail;go_meet
   exact⟨rfl,below_drewN (Below.refl _ _) _⟩
 case rest=>
 obtain⟨rfl,hb0⟩:=hcut;obtain⟨w0,rfl⟩:∃w0:World,w0=wc:=⟨_,rfl⟩;have XF:=zH hb0;have HR0:=zH (HR.out.below XF.out hS);have amX:=zH (pk.out.below XF.out iM);have HS0:Hid (∀b,S b→b<w0.heap.size):=zH fun b hb=>Nat.lt_of_lt_of_le (hS b hb) XF.out.size;have amS:Hid (∀b,S2 b→b<w0.heap.size):=zH fun b hb=>Nat.lt_of_lt_of_le (iM b hb) XF.out.size;clear hb0;go_wp2_with (refine ct (α:=BitVec 32) _ rfl _ _ _ rfl rfl w0.heap.size i0 (.int .u32 0) Tryz.underlying26 HI.out qR.out ku.out rfl .i64 .i64 (n3:Int) (n3:Int) n3 rfl rfl rfl rfl (by rw[lC.out];omega) (by unfold maxLen;omega) (Nat.le_refl _) 0#32 bz (fun _ h=>h.elim) (fun _ _=>rfl) ?_; intro w1 qX hg1; have jk:=zH qX; have fK:=zH ((Below.refl w0.heap.size w0).grown hg1 (Nat.le_refl _) (fun k hk=>by cases hk)); clear qX hg1);obtain⟨g,hg⟩:∃g,w0.heap.size=g:=⟨_,rfl⟩;rw[hg] at jk;rw[hg];have HG:=zH hg;clear hg;go_loopw [7,8,9,23] (fun bv _ _ i wr=>∃(k br:Nat) (zs:List (BitVec 32)),k≤n3∧i=.int .i64 k∧bv=.int .u64 br∧br≤1∧zs.length=n3∧val (zs.take k)+val (lb.take k)=val (la.take k)+4294967296^k*br∧Own wr bz g 172 (.slice (some ⟨g,0,none⟩) n3 n3) zs∧Below w0.heap.size w0 wr)
  (fun _ _ _ i _=>n3-(intOf i).toNat)
 case atStart=>exact⟨0,0,List.replicate n3 0#32,by omega,rfl,rfl,by omega,by simp,by simp[val],jk.out,fK.out⟩
 case round=>
  clear jk fK;obtain⟨k,br,zs,hk,rfl,rfl,hbr,z9,iL,ho,hb⟩:=hrel;have jk:=zH ho;have fK:=zH hb;have tl:=zH z9;have kU:=zH iL;clear ho hb z9 iL;by_cases hlt:k<n3
  ·have hkM:(k:Int)<(n3:Int):=by omega
   obtain⟨g',u,uE,_,_,hu,ft,nC⟩:=jk.out.get1 rfl (show zs[k]?=some (zs.getD k 0#32) by rw[List.getD_eq_getElem?_getD,List.getElem?_eq_getElem (by rw[tl.out];exact hlt)];rfl);injection uE with uE
   injection uE with uE
   subst uE;obtain⟨x,nS⟩:∃x,(la.getD k 0#32).toNat=x:=⟨_,rfl⟩;obtain⟨y,Py⟩:∃y,(lb.getD k 0#32).toNat=y:=⟨_,rfl⟩;have pC:x<4294967296:=by rw[←nS];exact eh k
   have Ec:y<4294967296:=by rw[←Py];exact eh k
   have e1:=bp la k;have e2:=bp lb k;rw[nS] at e1;rw[Py] at e2;obtain⟨s,hs⟩:∃s,4294967296+x-y-br=s:=⟨_,rfl⟩;have h3:=Nq hbr pC Ec hs kU.out;rw[←e1,←e2] at h3;have nM:4294967296+(x:Int)-(y:Int)-(br:Int)=(s:Int):=by omega
   have fU:s<8589934592:=by omega
   have Ac:=jr s;have UK:(s:Int)/4294967296=((s/4294967296:Nat):Int):=rfl;obtain⟨z,hz⟩:∃z,BitVec.ofNat 32 s=z:=⟨_,rfl⟩;obtain⟨d,hd⟩:∃d,s/4294967296=d:=⟨_,rfl⟩;have fL:=eN s;rw[hz] at Ac fL;rw[hd] at UK h3;rw[←fL] at h3;have hdl:d≤1:=by omega
   obtain⟨br',afJ⟩:∃br',1-d=br':=⟨_,rfl⟩;rw[afJ] at h3;have cK:1-(d:Int)=(br':Int):=by omega
   have yD:br'≤1:=by omega
   have HXX:=zH nS;have HYY:=zH Py;have HH3:=zH h3;clear nS Py e1 e2 hs h3 hz hd afJ fL hu;go_wp2_with fail;refine(lq k (HR0.out.below fK.out HS0.out)).mono ?_;rintro e w' ⟨rfl,rfl⟩;rw[HXX.out];go_wp2_with fail;refine(lq k (amX.out.below fK.out amS.out)).mono ?_;rintro e w' ⟨rfl,rfl⟩;rw[HYY.out];go_wp2_with fail;go_roundw
   case rel=>
    obtain⟨q1,q2⟩:=jk.out.stored (k:=k) (u:=.int .u32 (z.toNat:Int)) (x:=z) rfl rfl;refine⟨k+1,br',zs.set k z,by omega,by go_num,rfl,yD,by rw[List.length_set];exact tl.out,?_,q1,fK.out.setCell (by have:=HG.out;simp;omega) _⟩;rw[fh z (by rw[tl.out];exact hlt),Nat.pow_succ];exact HH3.out
   case measure=>simp[intOf];omega
  ·have hkm:k=n3:=by omega
   subst hkm;have eD:val zs=val xs-val ys:=by
    have h1:=kU.out;rw[bL _ _ (by rw[tl.out];exact Nat.le_refl _),bL la _ (by rw[AN.out];exact Nat.le_refl _),bL lb _ (by have:=mL.out;rw[AN.out] at this;exact this),yF.out,yE.out] at h1;have h2:=eI zs;rw[tl.out] at h2;have h3:=HLE.out;have hb0:br=0:=by
     rcases Nat.eq_zero_or_pos br with h|h
     ·exact h
     ·have:br=1:=by omega
      rw[this,Nat.mul_one] at h1;omega
    rw[hb0,Nat.mul_zero] at h1;omega
   have yy:=zH eD;clear eD hlt;go_wp2_with fail;refine(kh jk.out.rsAll (by omega)).mono ?_;rintro e w2 ⟨v,rfl,ho,hb⟩;rw[yy.out] at ho;have pn:=ao XF.out fK.out;have HO:=zH (ho.base_le pn.size);have HB:=zH (ao pn hb);clear ho hb pn;go_wp2_with fail;go_ret2
   exact⟨_,rfl,HO.out,HB.out⟩
theorem Qu {l:List (BitVec 32)} {k:Nat} (h:k<l.length):l[k]?=some (l.getD k 0#32):=by
 rw[List.getD_eq_getElem?_getD,List.getElem?_eq_getElem h];rfl
theorem Own.limb {w:World} {base g n c:Nat} {e:TypeId} {xs:List (BitVec 32)} (h:Own w bz base e (.slice (some ⟨g,0,none⟩) n c) xs) {k:Nat} (hk:k<xs.length):w.cell? ⟨g,k,none⟩=some (.int .u32 ((xs.getD k 0#32).toNat:Int))∧w.frozen? ⟨g,k,none⟩=false:=by
 obtain⟨g',u,uE,_,_,hu,ft,nC⟩:=h.get1 rfl (Qu hk);injection uE with uE
 injection uE with uE
 subst uE;have vO:[u]=[R2 (xs.getD k 0#32)]:=hu;injection vO with vO
 subst vO;exact⟨ft,nC⟩
theorem Own.setLimb {w:World} {base g n c:Nat} {e:TypeId} {xs:List (BitVec 32)} (h:Own w bz base e (.slice (some ⟨g,0,none⟩) n c) xs) (k:Nat) (z:BitVec 32):Own (w.setCell ⟨g,k,none⟩ (.int .u32 (z.toNat:Int))) bz base e (.slice (some ⟨g,0,none⟩) n c) (xs.set k z):=
 (h.stored (k:=k) (u:=.int .u32 (z.toNat:Int)) (x:=z) rfl rfl).1
theorem Bz {S S2:Nat→Prop} {A A2:Option Addr} {n c n2 c2:Nat} {xs ys:List (BitVec 32)} {w:World} (h:RS w S A n c xs) (h2:RS w S2 A2 n2 c2 ys) (hS:∀b,S b→b<w.heap.size) (iM:∀b,S2 b→b<w.heap.size) (hn:n≤1073741824) (hn2:n2≤1073741824) : Calls Tryz.prog 193 #[.slice A n c,.slice A2 n2 c2] w (jQ w 172 (du (val xs*val ys))):=by
 obtain⟨i0,hi,kI,fF,iO⟩:=info_parts Tryz.u32Info;have HI:=zH hi;have qR:=zH kI;have ku:=zH fF;have lC:=zH iO;have H:=zH h;have H2:=zH h2;have HL:=zH h.len;have pG:=zH h2.len;have yF:=zH (fc xs);have yE:=zH (fc ys);clear h h2 hi kI fF iO;go_enter Tryz.func193,Tryz.ntmps193;go_wp2_with fail;refine(fi H.out).mono ?_;rintro e w' ⟨A3,n3,c3,rfl,hr,rfl⟩;have hl3:n3≤1073741824:=by have:=bU xs;have:=hr.len;have:=HL.out;omega
 have HR:=zH hr;clear hr;go_wp2_with fail;refine(fi H2.out).mono ?_;rintro e w' ⟨A4,n4,c4,rfl,hr,rfl⟩;have hl4:n4≤1073741824:=by have:=bU ys;have:=hr.len;have:=pG.out;omega
 have pk:=zH hr;clear hr;obtain⟨la,iP⟩:∃l,dy xs=l:=⟨_,rfl⟩;obtain⟨lb,lw⟩:∃l,dy ys=l:=⟨_,rfl⟩;rw[iP] at HR yF;rw[lw] at pk yE;have AN:=zH HR.out.len;have FE:=zH pk.out.len;clear iP lw;have Jm:(n3:Int)+(n4:Int)=((n3+n4:Nat):Int):=by omega
 obtain⟨M,hM⟩:∃M,n3+n4=M:=⟨_,rfl⟩;rw[hM] at Jm;have hMb:M≤2147483648:=by omega
 have HM:=zH hM;clear hM;go_wp2_with (refine ct (α:=BitVec 32) _ rfl _ _ _ rfl rfl w.heap.size i0 (.int .u32 0) Tryz.underlying26 HI.out qR.out ku.out rfl .i64 .i64 (M:Int) (M:Int) M rfl rfl rfl rfl (by rw[lC.out];omega) (by unfold maxLen;omega) (Nat.le_refl _) 0#32 bz (fun _ h=>h.elim) (fun _ _=>rfl) ?_; intro w1 qX hg1; have jk:=zH qX; have fK:=zH ((Below.refl w.heap.size w).grown hg1 (Nat.le_refl _) (fun k hk=>by cases hk)); clear qX hg1);obtain⟨g,hg⟩:∃g,w.heap.size=g:=⟨_,rfl⟩;rw[hg] at jk;rw[hg];have HG:=zH hg;clear hg Jm;go_loopw [24] (fun i wr=>∃(k:Nat) (zs:List (BitVec 32)),k≤n3∧i=.int .i64 k∧zs.length=M∧val (zs.take (k+n4))=val (la.take k)*val lb∧Own wr bz g 172 (.slice (some ⟨g,0,none⟩) M M) zs∧Below w.heap.size w wr)
  (fun i _=>n3-(intOf i).toNat)
 case atStart=>exact⟨0,List.replicate M 0#32,by omega,rfl,by simp,by rw[List.take_replicate,yH];simp[val],jk.out,fK.out⟩
 case round=>
  clear jk fK;obtain⟨k,zs,hk,rfl,z9,iL,ho,hb⟩:=hrel;have jk:=zH ho;have fK:=zH hb;have tl:=zH z9;have kU:=zH iL;clear ho hb z9 iL;by_cases hlt:k<n3
  ·have hk3:(k:Int)<(n3:Int):=by omega
   obtain⟨b,o,x0,rfl,CE,hx,e1⟩:=(HR.out.below fK.out hS).limb_at hlt;have hxg:(la.getD k 0#32).toNat=x0.toNat:=by rw[List.getD_eq_getElem?_getD,hx];rfl
   have pC:=x0.isLt;have hxw:IntKind.u64.wrap (x0.toNat:Int)=(x0.toNat:Int):=by rw[IntKind.wrap_u64];omega
   have HXG:=zH hxg;clear hxg hx;go_wp2_with fail;obtain⟨wd,rfl⟩:∃wd:World,wd=wr:=⟨_,rfl⟩;go_loopw [8,31] (fun cv j wr=>∃(q cr:Nat) (ts:List (BitVec 32)),q≤n4∧j=.int .i64 q∧cv=.int .u64 cr∧cr<4294967296∧ts.length=M∧ts.drop (k+q)=zs.drop (k+q)∧val (ts.take (k+q))+4294967296^(k+q)*cr=val (zs.take (k+q))+4294967296^k*(x0.toNat*val (lb.take q))∧Own wr bz g 172 (.slice (some ⟨g,0,none⟩) M M) ts∧Below w.heap.size w wr)
    (fun _ j _=>n4-(intOf j).toNat)
   case atStart=>exact⟨0,0,zs,by omega,rfl,rfl,by omega,tl.out,rfl,by simp[val],jk.out,fK.out⟩
   case round=>
    clear jk fK;obtain⟨q,cr,ts,hq,rfl,rfl,hcr,Fv,Qe,W5,ho,hb⟩:=hrel;have oT:=zH ho;have fg:=zH hb;have J1:=zH Fv;have HDR:=zH Qe;have XE:=zH W5;clear ho hb Fv Qe W5;by_cases jX:q<n4
    ·have hq4:(q:Int)<(n4:Int):=by omega
     obtain⟨b2,o2,y0,rfl,afP,hy,e2⟩:=(pk.out.below fg.out iM).limb_at jX;have hyg:(lb.getD q 0#32).toNat=y0.toNat:=by rw[List.getD_eq_getElem?_getD,hy];rfl
     have Ec:=y0.isLt;have hyw:IntKind.u64.wrap (y0.toNat:Int)=(y0.toNat:Int):=by rw[IntKind.wrap_u64];omega
     have akt:(k:Int)+(q:Int)=((k+q:Nat):Int):=by omega
     have aab:k+q<M:=by have:=HM.out;omega
     obtain⟨ft,nC⟩:=oT.out.limb (k:=k+q) (by rw[J1.out];exact aab);have Cv:(zs.getD (k+q) 0#32)=ts.getD (k+q) 0#32:=by
      have h1:=congrArg (·[0]?) HDR.out;simp only[List.getElem?_drop,Nat.add_zero] at h1;rw[List.getD_eq_getElem?_getD,List.getD_eq_getElem?_getD,h1]
     have e3:=bp zs (k+q);have e4:=bp lb q;rw[hyg] at e4;rw[Cv] at e3;obtain⟨z0,kI⟩:∃z0,ts.getD (k+q) 0#32=z0:=⟨_,rfl⟩;rw[kI] at ft e3;have ajL:=z0.isLt;have hzw:IntKind.u64.wrap (z0.toNat:Int)=(z0.toNat:Int):=by rw[IntKind.wrap_u64];omega
     obtain⟨cK,cm⟩:=K7 pC Ec ajL hcr;obtain⟨s,hs⟩:∃s,x0.toNat*y0.toNat+z0.toNat+cr=s:=⟨_,rfl⟩;have h3:=OK (B:=4294967296) (p:=4294967296^(k+q)) (pi:=4294967296^k) (pj:=4294967296^q) (by rw[Nat.pow_add]) hs XE.out;rw[←e3,←e4] at h3;obtain⟨p,hp⟩:∃p,x0.toNat*y0.toNat=p:=⟨_,rfl⟩;have hpi:(x0.toNat:Int)*(y0.toNat:Int)=(p:Int):=by rw[←hp];exact(Int.natCast_mul _ _).symm
     rw[hp] at cK cm hs;have nM:(p:Int)+(z0.toNat:Int)+(cr:Int)=(s:Int):=by omega
     have Fw:(p:Int)+(z0.toNat:Int)<18446744073709551616:=by omega
     have hs3:s<18446744073709551616:=by omega
     have Ac:=jr s;have UK:(s:Int)/4294967296=((s/4294967296:Nat):Int):=rfl;obtain⟨z,hz⟩:∃z,BitVec.ofNat 32 s=z:=⟨_,rfl⟩;obtain⟨Vu,Qi⟩:∃Vu,s/4294967296=Vu:=⟨_,rfl⟩;have fL:=eN s;rw[hz] at Ac fL;rw[Qi] at UK h3;rw[←fL] at h3;have vn:Vu<4294967296:=by omega
     obtain⟨r,hr⟩:∃r,k+q=r:=⟨_,rfl⟩;rw[hr] at akt aab ft nC;have hrM:(r:Int)<(M:Int):=by omega
     have HH3:=zH h3;have Fo:=zH hr;clear hyg e3 e4 hs hp hz Qi fL kI Cv hy h3 hr cm;go_wp2_with fail;go_roundw
     case rel=>
      have hkr:k+(q+1)=r+1:=by have:=Fo.out;omega
      refine⟨q+1,Vu,ts.set r z,by omega,by go_num,rfl,vn,by rw[List.length_set];exact J1.out,?_,?_,oT.out.setLimb r z,fg.out.setCell (by have:=HG.out;simp;omega) _⟩
      ·rw[hkr,List.drop_set_of_lt (by omega),←Fo.out,←List.drop_drop,HDR.out,List.drop_drop]
      ·rw[hkr,fh z (by rw[J1.out];exact aab),←Fo.out,Nat.pow_succ];exact HH3.out
     case measure=>simp[intOf];omega
    ·have Z0:q=n4:=by omega
     have hkM:(k:Int)+(n4:Int)=((k+n4:Nat):Int):=by omega
     obtain⟨r,hr⟩:∃r,k+n4=r:=⟨_,rfl⟩;have hrM:r<M:=by have:=HM.out;omega
     obtain⟨ft,nC⟩:=oT.out.limb (k:=r) (by rw[J1.out];exact hrM);have hri:(r:Int)<(M:Int):=by omega
     rw[hr] at hkM;have Ac:=jr cr;obtain⟨z,hz⟩:∃z,BitVec.ofNat 32 cr=z:=⟨_,rfl⟩;have fL:=eN cr;rw[hz] at Ac fL;have ZH:z.toNat=cr:=by omega
     have nP:val ((ts.set r z).take (r+1))=val (la.take (k+1))*val lb:=by
      have h1:=XE.out;rw[Z0,hr,bL lb _ (by rw[FE.out];exact Nat.le_refl _)] at h1;have h2:=kU.out;rw[hr] at h2;rw[h2] at h1;have h4:=bp la k;rw[HXG.out] at h4;rw[fh z (by rw[J1.out];exact hrM),ZH,h1,h4,Nat.add_mul,Nat.mul_assoc]
     have HJ:=zH nP;have Fo:=zH hr;clear nP Z0 hr ZH fL hz hcr;go_wp2_with fail;go_roundw
     case rel=>
      refine⟨k+1,ts.set r z,by omega,by go_num,by rw[List.length_set];exact J1.out,?_,oT.out.setLimb r z,fg.out.setCell (by have:=HG.out;simp;omega) _⟩;have hkr:k+1+n4=r+1:=by have:=Fo.out;omega
      rw[hkr];exact HJ.out
     case measure=>simp[intOf];omega
  ·have gX:k=n3:=by omega
   have eD:val zs=val xs*val ys:=by
    have h1:=kU.out;rw[gX,bL _ _ (by rw[tl.out];have:=HM.out;omega),bL la _ (by rw[AN.out];exact Nat.le_refl _),yF.out,yE.out] at h1;exact h1
   have yy:=zH eD;clear eD gX;go_wp2_with fail;refine(kh jk.out.rsAll (by omega)).mono ?_;rintro e w2 ⟨v,rfl,ho,hb⟩;rw[yy.out] at ho;have HO:=zH (ho.base_le fK.out.size);have HB:=zH (ao fK.out hb);clear ho hb;go_wp2_with fail;go_ret
   exact⟨_,rfl,HO.out,HB.out⟩
def Fj (w:World) (v n d:Nat) (en:Ending) (w':World):Prop:=
 ∃(s:Value) (qs:List (BitVec 32)),en=.returned (.tuple #[s,.int .u64 ((v%d:Nat):Int)])∧Own w' bz w.heap.size 172 s qs∧val qs=v/d∧qs.length=n∧Below w.heap.size w w'
theorem YR (a x:Nat) (ha:a<4294967296) (hx:x<4294967296):bits .or .u64 ((a:Int)*4294967296) (x:Int)=((a*4294967296+x:Nat):Int):=by
 have e:(a:Int)*4294967296=((a*4294967296:Nat):Int):=by omega
 rw[e,u64_or_nat _ _ (by omega) (by omega),Dw _ _ hx]
theorem zl {S:Nat→Prop} {A:Option Addr} {n c:Nat} {xs:List (BitVec 32)} {w:World} (d:Nat) (h:RS w S A n c xs) (hS:∀b,S b→b<w.heap.size) (hn:n≤1073741824) (hd:0<d) (Sz:d<4294967296) : Calls Tryz.prog 171 #[.slice A n c,.int .u64 d] w (Fj w (val xs) n d):=by
 obtain⟨i0,hi,kI,fF,iO⟩:=info_parts Tryz.u32Info;have HI:=zH hi;have qR:=zH kI;have ku:=zH fF;have lC:=zH iO;have H:=zH h;have HL:=zH h.len;clear h hi kI fF iO;go_enter Tryz.func171,Tryz.ntmps171;go_wp2_with (refine ct (α:=BitVec 32) _ rfl _ _ _ rfl rfl w.heap.size i0 (.int .u32 0) Tryz.underlying26 HI.out qR.out ku.out rfl .i64 .i64 (n:Int) (n:Int) n rfl rfl rfl rfl (by rw[lC.out];omega) (by unfold maxLen;omega) (Nat.le_refl _) 0#32 bz (fun _ h=>h.elim) (fun _ _=>rfl) ?_; intro w1 qX hg1; have jk:=zH qX; have fK:=zH ((Below.refl w.heap.size w).grown hg1 (Nat.le_refl _) (fun k hk=>by cases hk)); clear qX hg1);obtain⟨g,hg⟩:∃g,w.heap.size=g:=⟨_,rfl⟩;rw[hg] at jk;rw[hg];have HG:=zH hg;clear hg;go_loopw [7,8] (fun rv i wr=>∃(k r:Nat) (z:Int) (qs:List (BitVec 32)),k≤n∧i=.int .i64 z∧z+1=k∧rv=.int .u64 r∧r<d∧qs.length=n∧val (qs.drop k)*d+r=val (xs.drop k)∧Own wr bz g 172 (.slice (some ⟨g,0,none⟩) n n) qs∧Below w.heap.size w wr)
  (fun _ i _=>(intOf i+1).toNat)
 case atStart=>exact⟨n,0,(n:Int)-1,List.replicate n 0#32,Nat.le_refl _,rfl,by omega,rfl,hd,by simp,by rw[List.drop_eq_nil_of_le (by simp),List.drop_eq_nil_of_le (by rw[HL.out];exact Nat.le_refl _)];simp[val],jk.out,fK.out⟩
 case round=>
  clear jk fK;obtain⟨k,r,z,qs,hk,rfl,hz,rfl,hr,CB,iL,ho,hb⟩:=hrel;have jk:=zH ho;have fK:=zH hb;have J3:=zH CB;have kU:=zH iL;clear ho hb CB iL;rcases k with _|k
  ·obtain rfl:z= -1:=by omega
   have hdm:=AB (kU.out) hr;rw[List.drop_zero,List.drop_zero] at hdm;have HD:=zH hdm;clear hdm hz;go_wp2_with fail;go_ret2
   exact⟨_,qs,by rw[←HD.out.2];rfl,by rw[HG.out];exact jk.out,HD.out.1,J3.out,fK.out⟩
  ·obtain rfl:z=k:=by omega
   have gX:(k:Int)<(n:Int):=by omega
   obtain⟨b,o,a,rfl,_,hx,e1⟩:=(H.out.below fK.out hS).limb_at (k:=k) (by omega);have hal:=a.isLt;have WV:=kV hx;obtain⟨ft,nC⟩:=jk.out.limb (k:=k) (by rw[J3.out];omega);obtain⟨x,nS⟩:∃x,r*4294967296+a.toNat=x:=⟨_,rfl⟩;have hs:=F4 (B:=4294967296) nS kU.out;rw[←WV] at hs;have CB:=NH hr hal nS;have lT:=YR r a.toNat (by omega) hal;rw[nS] at lT;have hxb:x<18446744073709551616:=by omega
   obtain⟨q,hq⟩:∃q,x/d=q:=⟨_,rfl⟩;obtain⟨r',j4⟩:∃r',x%d=r':=⟨_,rfl⟩;have Af:r'<d:=by rw[←j4];exact Nat.mod_lt _ hd
   rw[hq] at hs CB;rw[j4] at hs;have WW:(x:Int).tdiv (d:Int)=(q:Int):=by rw[←hq];rfl
   have Sp:(x:Int).tmod (d:Int)=(r':Int):=by rw[←j4];rfl
   have ae7:(x:Int)/(d:Int)=(q:Int):=by rw[←hq];rfl
   have aeZ:(x:Int)%(d:Int)=(r':Int):=by rw[←j4];rfl
   have haw:IntKind.u64.wrap (a.toNat:Int)=(a.toNat:Int):=by rw[IntKind.wrap_u64];omega
   have Ac:=jr q;obtain⟨zq,Px⟩:∃z,BitVec.ofNat 32 q=z:=⟨_,rfl⟩;have fL:=eN q;rw[Px] at Ac fL;have qW:zq.toNat=q:=by omega
   have nP:val ((qs.set k zq).drop k)*d+r'=val (xs.drop k):=by
    rw[pX zq (by rw[J3.out];omega),val,qW];exact hs
   have hd0:((d:Int)==0)=false:=by rw[beq_eq_false_iff_ne];omega
   have HJ:=zH nP;clear hs hx WV nS hq j4 Px fL qW nP hz;go_wp2_with fail;go_roundw
   case rel=>exact⟨k,r',(k:Int)-1,qs.set k zq,by omega,by go_num,by omega,rfl,Af,by rw[List.length_set];exact J3.out,HJ.out,jk.out.setLimb k zq,fK.out.setCell (by have:=HG.out;simp;omega) _⟩
   case measure=>simp[intOf]
end Go.Proofs.YtdbpbfglhbiadaaGreatDoor
