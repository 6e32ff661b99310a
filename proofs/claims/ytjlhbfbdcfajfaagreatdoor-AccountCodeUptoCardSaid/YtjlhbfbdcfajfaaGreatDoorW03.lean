/- Nat2 Nat3 Nat4 Nat5 Nat6 -/
import Derived.Test.YtjlhbfbdcfajfaaGreatDoorW02
import Derived.Test.YtjlhbfbdcfajfaaGreatDoorW01
import Derived.Deep.DeepCutAuto
set_option maxHeartbeats 8000000
set_option maxRecDepth 100000
namespace Go.Proofs.YtjlhbfbdcfajfaaGreatDoor
open Go.RowKit
theorem Own.rsAll {α:Type} [aG α] {w:World} {base:Nat} {e:TypeId} {A:Option Addr} {n c:Nat} {xs:List α} (h:Own w bw base e (.slice A n c) xs):RS w (·<w.heap.size) A n c xs:=h.rs (fun _ h=>h.elim) (fun _ _ h=>h)
theorem Oe (n:Nat) (h:n<18446744073709551616):val [BitVec.ofNat 32 n,BitVec.ofNat 32 (n/4294967296)]=n:=by
 simp only[val,BitVec.toNat_ofNat];omega
theorem Bh (n:Nat) (w:World) (h:n<18446744073709551616):Calls Tryz.prog 158 #[.int .u64 n] w (jR w 98 (dm n)):=by
 have hv:=Oe n h;obtain⟨x,hx⟩:∃x,BitVec.ofNat 32 n=x:=⟨_,rfl⟩;obtain⟨y,hy⟩:∃y,BitVec.ofNat 32 (n/4294967296)=y:=⟨_,rfl⟩;have h1:IntKind.u32.wrap (n:Int)=(x.toNat:Int):=by rw[←hx,IntKind.wrap_u32,BitVec.toNat_ofNat];omega
 have h2:IntKind.u32.wrap ((n:Int)/4294967296)=(y.toNat:Int):=by rw[←hy,IntKind.wrap_u32,BitVec.toNat_ofNat];omega
 rw[hx,hy] at hv;have HV:=zH hv;clear hv hx hy;go_enter Tryz.func158,Tryz.ntmps158;go_wp2_with fail;have hb:Below w.heap.size w (w.alloc (.cells #[.int .u32 (x.toNat:Int),.int .u32 (y.toNat:Int)] 98)):=(Below.refl _ _).alloc (Nat.le_refl _) _;have hr:RS (w.alloc (.cells #[.int .u32 (x.toNat:Int),.int .u32 (y.toNat:Int)] 98)) (fun _=>True) (some ⟨w.heap.size,0,none⟩) 2 2 [x,y]:=
  RS.of_blk (t:=98) (cs:=#[.int .u32 (x.toNat:Int),.int .u32 (y.toNat:Int)]) (dE.new _ _ _) (Flat.limbs [x,y]) rfl (Nat.le_refl _) (by decide) trivial
 refine(kf hr (by omega)).mono ?_;rintro e w2 ⟨v,rfl,ho,cj⟩;rw[HV.out] at ho;have HO:=zH (ho.base_le (Nat.le_trans hb.size (Nat.le_refl _)));have HB:=zH (ak hb cj);clear ho hb cj hr h1 h2;go_wp2_with fail;go_ret
 exact⟨_,rfl,HO.out,HB.out⟩
theorem GU {S S2:Nat→Prop} {A A2:Option Addr} {n c n2 c2:Nat} {xs ys:List (BitVec 32)} {w:World} (h:RS w S A n c xs) (h2:RS w S2 A2 n2 c2 ys) : Calls Tryz.prog 160 #[.slice A n c,.slice A2 n2 c2] w (yc w (.int .i64 (kM (val xs) (val ys)))):=by
 have H:=zH h;have H2:=zH h2;have Zl:=fb xs;have Zk:=fb ys;have hlx:=dU xs;have hly:=dU ys;have yp:=zH Zl;have yo:=zH Zk;have HLX:=zH hlx;have HLY:=zH hly;clear h h2 Zl Zk hlx hly;go_enter Tryz.func160,Tryz.ntmps160;go_wp2_with fail;refine(fh H.out).mono ?_;rintro e w' ⟨A3,n3,c3,rfl,hr,rfl⟩;have HR:=zH hr;clear hr;go_wp2_with fail;refine(fh H2.out).mono ?_;rintro e w' ⟨A4,n4,c4,rfl,hr,rfl⟩;have pe:=zH hr;have hm3:=HR.out.max;have hm4:=hr.max;clear hr;obtain⟨l3,hl3⟩:∃l,dt xs=l:=⟨_,rfl⟩;obtain⟨l4,hl4⟩:∃l,dt ys=l:=⟨_,rfl⟩;rw[hl3] at HR yp HLX;rw[hl4] at pe yo HLY;have AG:=zH HR.out.len;have Ft:=zH pe.out.len;clear hl3 hl4;by_cases hlt:n3=n4
 ·subst hlt;have hb:((n3:Int) !=(n3:Int))=false:=by simp
  go_wp2_with fail;go_loopw [5,27,37] (fun v _ _ wr=>∃(k m:Nat) (z:Int),k≤n3∧v=.int .i64 z∧z+1=k∧l3.drop k=l4.drop k∧wr=w.drewN m) (fun v _ _ _=>(intOf v+1).toNat)
  case atStart=>exact⟨n3,0,(n3:Int)-1,Nat.le_refl _,rfl,by omega,by rw[List.drop_eq_nil_of_le (by rw[AG.out];exact Nat.le_refl _),List.drop_eq_nil_of_le (by rw[Ft.out];exact Nat.le_refl _)],rfl⟩
  case round=>
   obtain⟨k,m,z,hk,rfl,hz,hd,rfl⟩:=hrel;have HD:=zH hd;clear hd;rcases k with _|k
   ·obtain rfl:z= -1:=by omega
    have he:kM (val xs) (val ys)=0:=by
     have h1:=HD.out;rw[List.drop_zero,List.drop_zero] at h1;rw[←yp.out,←yo.out,h1,sk]
    have HE:=zH he;clear he hz;go_wp2_with fail;go_ret
    exact⟨iw (by rw[HE.out];rfl),_,rfl⟩
   ·obtain rfl:z=k:=by omega
    obtain⟨b,o,x,rfl,_,hx,e1⟩:=HR.out.limb_at (k:=k) (by omega);obtain⟨b2,o2,y,rfl,_,hy,e2⟩:=pe.out.limb_at (k:=k) (by omega);have gV:(k:Int)<(n3:Int):=by omega
    have HX:=zH hx;have HY:=zH hy;clear hx hy hz;rcases Nat.lt_trichotomy x.toNat y.toNat with hc|hc|hc
    ·have he:kM (val xs) (val ys)= -1:=by
      rw[←yp.out,←yo.out];exact o8 (nW HD.out HX.out HY.out hc)
     have HE:=zH he;have d1:decide (x.toNat<y.toNat)=true:=decide_eq_true (by omega);clear he hc;go_wp2_with fail;go_quiet (fail)
     go_wp2_with fail;go_ret
     exact⟨iw (by rw[HE.out];rfl),_,World.drewN_drewN _ _ _⟩
    ·have ox:x=y:=BitVec.eq_of_toNat_eq hc;have hn:=B6 HD.out HX.out (by rw[ox];exact HY.out);have HN:=zH hn;have d1:decide (x.toNat<y.toNat)=false:=decide_eq_false (by omega);have d2:decide (y.toNat<x.toNat)=false:=decide_eq_false (by omega);clear hn ox hc;go_wp2_with fail;go_quiet (fail)
     go_wp2_with fail;go_quiet (fail)
     go_wp2_with fail;go_roundw
     case rel=>exact⟨k,_,(k:Int)-1,by omega,by go_num,by omega,HN.out,by first|rfl|(rw[World.drewN_drewN,World.drewN_drewN])|(rw[World.drewN_drewN])⟩
     case measure=>simp[intOf]
    ·have he:kM (val xs) (val ys)=1:=by
      rw[←yp.out,←yo.out];exact o9 (nW HD.out.symm HY.out HX.out hc)
     have HE:=zH he;have d1:decide (x.toNat<y.toNat)=false:=decide_eq_false (by omega);have d2:decide (y.toNat<x.toNat)=true:=decide_eq_true (by omega);clear he hc;go_wp2_with fail;go_quiet (fail)
     go_wp2_with fail;go_quiet (fail)
     go_wp2_with fail;go_ret
     exact⟨iw (by rw[HE.out];rfl),_,(congrArg (fun w=>World.drewN w _) (World.drewN_drewN _ _ _)).trans (World.drewN_drewN _ _ _)⟩
 ·have hb:((n3:Int) !=(n4:Int))=true:=by simp;omega
  by_cases h3:n3<n4
  ·have he:kM (val xs) (val ys)= -1:=o8 (mh (by rw[HLX.out,HLY.out,AG.out,Ft.out];exact h3));have HE:=zH he;clear he;go_wp2_with fail;go_ret
   exact⟨iw (by rw[HE.out];rfl),0,rfl⟩
  ·have he:kM (val xs) (val ys)=1:=o9 (mh (by rw[HLX.out,HLY.out,AG.out,Ft.out];omega));have HE:=zH he;clear he;go_wp2_with fail;go_ret
   exact⟨iw (by rw[HE.out];rfl),0,rfl⟩
theorem Tryz.u32Info:(Tryz.prog.info? 98).map (fun i=>(i.zero,i.size,i.bytes))=some (some (.int .u32 0),1,4):=by kernel_rfl
theorem jt (s:Nat):IntKind.u32.wrap (s:Int)=((BitVec.ofNat 32 s).toNat:Int):=by rw[IntKind.wrap_u32,BitVec.toNat_ofNat];omega
theorem eP (s:Nat):(BitVec.ofNat 32 s).toNat=s%4294967296:=by rw[BitVec.toNat_ofNat]
theorem d9 {l:List (BitVec 32)} (k:Nat):(l.getD k 0#32).toNat<4294967296:=(l.getD k 0#32).isLt
theorem VU {S S2:Nat→Prop} {A A2:Option Addr} {n c n2 c2:Nat} {xs ys:List (BitVec 32)} {w:World} (h:RS w S A n c xs) (h2:RS w S2 A2 n2 c2 ys) (hS:∀b,S b→b<w.heap.size) (iN:∀b,S2 b→b<w.heap.size) (hn:n≤1073741824) (hn2:n2≤1073741824) : Calls Tryz.prog 190 #[.slice A n c,.slice A2 n2 c2] w (jR w 98 (dm (val xs+val ys))):=by
 obtain⟨i0,hi,kG,fH,iP⟩:=info_parts Tryz.u32Info;have HI:=zH hi;have qJ:=zH kG;have kr:=zH fH;have lA:=zH iP;have H:=zH h;have H2:=zH h2;have HL:=zH h.len;have pE:=zH h2.len;have yp:=zH (fb xs);have yo:=zH (fb ys);clear h h2 hi kG fH iP;go_enter Tryz.func190,Tryz.ntmps190;go_wp2_with fail;refine(fh H.out).mono ?_;rintro e w' ⟨A3,n3,c3,rfl,hr,rfl⟩;have hl3:n3≤1073741824:=by have:=bT xs;have:=hr.len;have:=HL.out;omega
 have HR:=zH hr;clear hr;go_wp2_with fail;refine(fh H2.out).mono ?_;rintro e w' ⟨A4,n4,c4,rfl,hr,rfl⟩;have hl4:n4≤1073741824:=by have:=bT ys;have:=hr.len;have:=pE.out;omega
 have pe:=zH hr;clear hr;obtain⟨la,iQ⟩:∃l,dt xs=l:=⟨_,rfl⟩;obtain⟨lb,lq⟩:∃l,dt ys=l:=⟨_,rfl⟩;rw[iQ] at HR yp;rw[lq] at pe yo;have AG:=zH HR.out.len;have Ft:=zH pe.out.len;clear iQ lq;go_upto_region 2 with(fail);go_cut [5] (fun v wx=>∃m:Nat,v=.int .i64 m∧n3≤m∧n4≤m∧m≤1073741824∧w=wx)
 case first=>
  by_cases hc:(n3:Int)<(n4:Int)
  ·go_wp2_with fail;go_meet
   exact⟨n4,rfl,by omega,by omega,by omega,rfl⟩
  ·go_wp2_with fail;go_meet
   exact⟨n3,rfl,by omega,by omega,by omega,rfl⟩
 case rest=>
 obtain⟨m,rfl,hm3,hm4,hm,rfl⟩:=hcut;have Jd:(m:Int)+1=((m+1:Nat):Int):=by omega
 obtain⟨M,hM⟩:∃M,m+1=M:=⟨_,rfl⟩;rw[hM] at Jd;have hMb:M≤1073741825:=by omega
 have HM:=zH hM;clear hM;go_wp2_with (refine ck (α:=BitVec 32) _ rfl _ _ _ rfl rfl w.heap.size i0 (.int .u32 0) Tryz.underlying26 HI.out qJ.out kr.out rfl .i64 .i64 (M:Int) (M:Int) M rfl rfl rfl rfl (by rw[lA.out];omega) (by unfold maxLen;omega) (Nat.le_refl _) 0#32 bw (fun _ h=>h.elim) (fun _ _=>rfl) ?_; intro w1 qN hg1; have jm:=zH qN; have fL:=zH ((Below.refl w.heap.size w).grown hg1 (Nat.le_refl _) (fun k hk=>by cases hk)); clear qN hg1);obtain⟨g,hg⟩:∃g,w.heap.size=g:=⟨_,rfl⟩;rw[hg] at jm;rw[hg];have HG:=zH hg;clear hg Jd;go_loopw [7,8,9,23] (fun cv _ _ i wr=>∃(k cr:Nat) (zs:List (BitVec 32)),k≤m∧i=.int .i64 k∧cv=.int .u64 cr∧cr≤1∧zs.length=M∧val (zs.take k)+4294967296^k*cr=val (la.take k)+val (lb.take k)∧Own wr bw g 98 (.slice (some ⟨g,0,none⟩) M M) zs∧Below w.heap.size w wr)
  (fun _ _ _ i _=>m-(intOf i).toNat)
 case atStart=>exact⟨0,0,List.replicate M 0#32,by omega,rfl,rfl,by omega,by simp,by simp[val],jm.out,fL.out⟩
 case round=>
  clear jm fL;obtain⟨k,cr,zs,hk,rfl,rfl,hcr,zM,iM,ho,hb⟩:=hrel;have jm:=zH ho;have fL:=zH hb;have sK:=zH zM;have kR:=zH iM;clear ho hb zM iM;by_cases hlt:k<m
  ·have hkM:(k:Int)<(M:Int):=by have:=HM.out;omega
   have hx:=AG.out;obtain⟨g',u,uj,_,_,hu,fu,nD⟩:=jm.out.get1 rfl (show zs[k]?=some (zs.getD k 0#32) by rw[List.getD_eq_getElem?_getD,List.getElem?_eq_getElem (by rw[sK.out];have:=HM.out;omega)];rfl);injection uj with uj
   injection uj with uj
   subst uj;obtain⟨x,nQ⟩:∃x,(la.getD k 0#32).toNat=x:=⟨_,rfl⟩;obtain⟨y,Pd⟩:∃y,(lb.getD k 0#32).toNat=y:=⟨_,rfl⟩;have nA:x<4294967296:=by rw[←nQ];exact d9 k
   have DY:y<4294967296:=by rw[←Pd];exact d9 k
   have e1:=bo la k;have e2:=bo lb k;rw[nQ] at e1;rw[Pd] at e2;obtain⟨s,hs⟩:∃s,x+y+cr=s:=⟨_,rfl⟩;have h3:=E1 hs kR.out;rw[←e1,←e2] at h3;have nJ:(x:Int)+(y:Int)+(cr:Int)=(s:Int):=by omega
   have fU:s<8589934592:=by omega
   have zN:=jt s;have UE:(s:Int)/4294967296=((s/4294967296:Nat):Int):=rfl;obtain⟨z,hz⟩:∃z,BitVec.ofNat 32 s=z:=⟨_,rfl⟩;obtain⟨Vs,PX⟩:∃Vs,s/4294967296=Vs:=⟨_,rfl⟩;have fM:=eP s;rw[hz] at zN fM;rw[PX] at UE h3;rw[←fM] at h3;have uZ:Vs≤1:=by omega
   have HXX:=zH nQ;have HYY:=zH Pd;have HH3:=zH h3;clear nQ Pd e1 e2 hs h3 hz PX fM hu hx;go_wp2_with fail;refine(lk k (HR.out.below fL.out hS)).mono ?_;rintro e w' ⟨rfl,rfl⟩;rw[HXX.out];go_wp2_with fail;refine(lk k (pe.out.below fL.out iN)).mono ?_;rintro e w' ⟨rfl,rfl⟩;rw[HYY.out];go_wp2_with fail;go_roundw
   case rel=>
    obtain⟨q1,q2⟩:=jm.out.stored (k:=k) (u:=.int .u32 (z.toNat:Int)) (x:=z) rfl rfl;refine⟨k+1,Vs,zs.set k z,by omega,by go_num,rfl,uZ,by rw[List.length_set];exact sK.out,?_,q1,fL.out.setCell (by have:=HG.out;simp;omega) _⟩;rw[fg z (by rw[sK.out];have:=HM.out;omega),Nat.pow_succ];exact HH3.out
   case measure=>simp[intOf];omega
  ·have hkm:k=m:=by omega
   subst hkm;have hkM:(k:Int)<(M:Int):=by have:=HM.out;omega
   obtain⟨g',u,uj,_,_,hu,fu,nD⟩:=jm.out.get1 rfl (show zs[k]?=some (zs.getD k 0#32) by rw[List.getD_eq_getElem?_getD,List.getElem?_eq_getElem (by rw[sK.out];have:=HM.out;omega)];rfl);injection uj with uj
   injection uj with uj
   subst uj;have zN:=jt cr;obtain⟨z,hz⟩:∃z,BitVec.ofNat 32 cr=z:=⟨_,rfl⟩;have fM:=eP cr;rw[hz] at zN fM;have Zd:z.toNat=cr:=by omega
   obtain⟨q1,q2⟩:=jm.out.stored (k:=k) (u:=.int .u32 (z.toNat:Int)) (x:=z) rfl rfl;have eB:val (zs.set k z)=val xs+val ys:=by
    have h1:=fg z (l:=zs) (k:=k) (by rw[sK.out];have:=HM.out;omega);rw[bK _ _ (by rw[List.length_set,sK.out];have:=HM.out;omega),Zd,kR.out,bK _ _ (by rw[AG.out];exact hm3),bK _ _ (by rw[Ft.out];exact hm4),yp.out,yo.out] at h1;exact h1
   have hq:=q1.rsAll;have Zv:Below w.heap.size w (wr.setCell ⟨g,k,none⟩ (.int .u32 (z.toNat:Int))):=fL.out.setCell (by have:=HG.out;simp;omega) _;have yh:=zH eB;have HQ:=zH hq;have HQB:=zH Zv;clear eB hq Zv q1 q2 Zd fM hz hu hlt;go_wp2_with fail;refine(kf HQ.out (by omega)).mono ?_;rintro e w2 ⟨v,rfl,ho,hb⟩;rw[yh.out] at ho;have HO:=zH (ho.base_le HQB.out.size);have HB:=zH (ak HQB.out hb);clear ho hb;go_wp2_with fail;go_ret
   exact⟨_,rfl,HO.out,HB.out⟩
def Xx {α:Type} [aG α] (w:World) (e:TypeId) (xs:List α) (u:Value) (en:Ending) (w':World):Prop:=
 ∃v',en=.returned (.tuple #[v',u])∧Own w' bw w.heap.size e v' xs∧Below w.heap.size w w'
theorem SQ {S S2:Nat→Prop} {A A2:Option Addr} {n c n2 c2:Nat} {xs ys:List (BitVec 32)} {w:World} (h:RS w S A n c xs) (h2:RS w S2 A2 n2 c2 ys) (hlt:val xs<val ys) : Calls Tryz.prog 191 #[.slice A n c,.slice A2 n2 c2] w (Xx w 98 ([]:List (BitVec 32)) (.bool false)):=by
 have H:=zH h;have H2:=zH h2;have yp:=zH (fb xs);have yo:=zH (fb ys);have HC:=zH (o8 hlt);clear h h2 hlt;go_enter Tryz.func191,Tryz.ntmps191;go_wp2_with fail;refine(fh H.out).mono ?_;rintro e w' ⟨A3,n3,c3,rfl,hr,rfl⟩;have HR:=zH hr;clear hr;go_wp2_with fail;refine(fh H2.out).mono ?_;rintro e w' ⟨A4,n4,c4,rfl,hr,rfl⟩;have pe:=zH hr;clear hr;go_wp2_with fail;refine(GU HR.out pe.out).mono ?_;rintro e w' ⟨rfl,m,rfl⟩;rw[yp.out,yo.out,HC.out];go_wp2_with fail;go_ret2
 exact⟨_,rfl,Own.nil _ _ _,below_drewN (Below.refl _ _) _⟩
theorem Ia {S S2:Nat→Prop} {A A2:Option Addr} {n c n2 c2:Nat} {xs ys:List (BitVec 32)} {w:World} (h:RS w S A n c xs) (h2:RS w S2 A2 n2 c2 ys) (hS:∀b,S b→b<w.heap.size) (iN:∀b,S2 b→b<w.heap.size) (hn:n≤1073741824) (yH:val ys≤val xs) : Calls Tryz.prog 191 #[.slice A n c,.slice A2 n2 c2] w (Xx w 98 (dm (val xs-val ys)) (.bool true)):=by
 obtain⟨i0,hi,kG,fH,iP⟩:=info_parts Tryz.u32Info;have HI:=zH hi;have qJ:=zH kG;have kr:=zH fH;have lA:=zH iP;have H:=zH h;have H2:=zH h2;have HL:=zH h.len;have yp:=zH (fb xs);have yo:=zH (fb ys);have bO:(dt ys).length≤(dt xs).length:=by rw[←dU,←dU];exact gf yH
 have hc:kM (val xs) (val ys)=0∨kM (val xs) (val ys)=1:=by
  rcases Nat.lt_or_ge (val ys) (val xs) with h|h
  ·exact .inr (o9 h)
  ·exact .inl (by rw[Nat.le_antisymm yH h];exact sk _)
 have mH:=zH bO;have HLE:=zH yH;clear h h2 hi kG fH iP bO yH;go_enter Tryz.func191,Tryz.ntmps191;go_wp2_with fail;refine(fh H.out).mono ?_;rintro e w' ⟨A3,n3,c3,rfl,hr,rfl⟩;have hl3:n3≤1073741824:=by have:=bT xs;have:=hr.len;have:=HL.out;omega
 have HR:=zH hr;clear hr;go_wp2_with fail;refine(fh H2.out).mono ?_;rintro e w' ⟨A4,n4,c4,rfl,hr,rfl⟩;have pe:=zH hr;clear hr;obtain⟨la,iQ⟩:∃l,dt xs=l:=⟨_,rfl⟩;obtain⟨lb,lq⟩:∃l,dt ys=l:=⟨_,rfl⟩;rw[iQ] at HR yp mH;rw[lq] at pe yo mH;have AG:=zH HR.out.len;have Ft:=zH pe.out.len;clear iQ lq;have HCC:=zH hc;clear hc;go_upto_region 2 with(fail);go_cut [17] (fun v wx=>v=.bool false∧Below w.heap.size w wx)
 case first=>
  go_wp2_with fail;refine(GU HR.out pe.out).mono ?_;rintro e w0 ⟨rfl,mm,rfl⟩;rw[yp.out,yo.out];rcases HCC.out with hc|hc
  all_goals
   rw[hc];clear hc;go_wp2_with fail;go_meet
   exact⟨rfl,below_drewN (Below.refl _ _) _⟩
 case rest=>
 obtain⟨rfl,hb0⟩:=hcut;obtain⟨w0,rfl⟩:∃w0:World,w0=wc:=⟨_,rfl⟩;have XC:=zH hb0;have HR0:=zH (HR.out.below XC.out hS);have amK:=zH (pe.out.below XC.out iN);have HS0:Hid (∀b,S b→b<w0.heap.size):=zH fun b hb=>Nat.lt_of_lt_of_le (hS b hb) XC.out.size;have amF:Hid (∀b,S2 b→b<w0.heap.size):=zH fun b hb=>Nat.lt_of_lt_of_le (iN b hb) XC.out.size;clear hb0;go_wp2_with (refine ck (α:=BitVec 32) _ rfl _ _ _ rfl rfl w0.heap.size i0 (.int .u32 0) Tryz.underlying26 HI.out qJ.out kr.out rfl .i64 .i64 (n3:Int) (n3:Int) n3 rfl rfl rfl rfl (by rw[lA.out];omega) (by unfold maxLen;omega) (Nat.le_refl _) 0#32 bw (fun _ h=>h.elim) (fun _ _=>rfl) ?_; intro w1 qN hg1; have jm:=zH qN; have fL:=zH ((Below.refl w0.heap.size w0).grown hg1 (Nat.le_refl _) (fun k hk=>by cases hk)); clear qN hg1);obtain⟨g,hg⟩:∃g,w0.heap.size=g:=⟨_,rfl⟩;rw[hg] at jm;rw[hg];have HG:=zH hg;clear hg;go_loopw [7,8,9,23] (fun bv _ _ i wr=>∃(k br:Nat) (zs:List (BitVec 32)),k≤n3∧i=.int .i64 k∧bv=.int .u64 br∧br≤1∧zs.length=n3∧val (zs.take k)+val (lb.take k)=val (la.take k)+4294967296^k*br∧Own wr bw g 98 (.slice (some ⟨g,0,none⟩) n3 n3) zs∧Below w0.heap.size w0 wr)
  (fun _ _ _ i _=>n3-(intOf i).toNat)
 case atStart=>exact⟨0,0,List.replicate n3 0#32,by omega,rfl,rfl,by omega,by simp,by simp[val],jm.out,fL.out⟩
 case round=>
  clear jm fL;obtain⟨k,br,zs,hk,rfl,rfl,Z8,zM,iM,ho,hb⟩:=hrel;have jm:=zH ho;have fL:=zH hb;have sK:=zH zM;have kR:=zH iM;clear ho hb zM iM;by_cases hlt:k<n3
  ·have hkM:(k:Int)<(n3:Int):=by omega
   obtain⟨g',u,uj,_,_,hu,fu,nD⟩:=jm.out.get1 rfl (show zs[k]?=some (zs.getD k 0#32) by rw[List.getD_eq_getElem?_getD,List.getElem?_eq_getElem (by rw[sK.out];exact hlt)];rfl);injection uj with uj
   injection uj with uj
   subst uj;obtain⟨x,nQ⟩:∃x,(la.getD k 0#32).toNat=x:=⟨_,rfl⟩;obtain⟨y,Pd⟩:∃y,(lb.getD k 0#32).toNat=y:=⟨_,rfl⟩;have nA:x<4294967296:=by rw[←nQ];exact d9 k
   have DY:y<4294967296:=by rw[←Pd];exact d9 k
   have e1:=bo la k;have e2:=bo lb k;rw[nQ] at e1;rw[Pd] at e2;obtain⟨s,hs⟩:∃s,4294967296+x-y-br=s:=⟨_,rfl⟩;have h3:=Na Z8 nA DY hs kR.out;rw[←e1,←e2] at h3;have nJ:4294967296+(x:Int)-(y:Int)-(br:Int)=(s:Int):=by omega
   have fU:s<8589934592:=by omega
   have zN:=jt s;have UE:(s:Int)/4294967296=((s/4294967296:Nat):Int):=rfl;obtain⟨z,hz⟩:∃z,BitVec.ofNat 32 s=z:=⟨_,rfl⟩;obtain⟨d,hd⟩:∃d,s/4294967296=d:=⟨_,rfl⟩;have fM:=eP s;rw[hz] at zN fM;rw[hd] at UE h3;rw[←fM] at h3;have ZT:d≤1:=by omega
   obtain⟨br',aeY⟩:∃br',1-d=br':=⟨_,rfl⟩;rw[aeY] at h3;have cI:1-(d:Int)=(br':Int):=by omega
   have ym:br'≤1:=by omega
   have HXX:=zH nQ;have HYY:=zH Pd;have HH3:=zH h3;clear nQ Pd e1 e2 hs h3 hz hd aeY fM hu;go_wp2_with fail;refine(lk k (HR0.out.below fL.out HS0.out)).mono ?_;rintro e w' ⟨rfl,rfl⟩;rw[HXX.out];go_wp2_with fail;refine(lk k (amK.out.below fL.out amF.out)).mono ?_;rintro e w' ⟨rfl,rfl⟩;rw[HYY.out];go_wp2_with fail;go_roundw
   case rel=>
    obtain⟨q1,q2⟩:=jm.out.stored (k:=k) (u:=.int .u32 (z.toNat:Int)) (x:=z) rfl rfl;refine⟨k+1,br',zs.set k z,by omega,by go_num,rfl,ym,by rw[List.length_set];exact sK.out,?_,q1,fL.out.setCell (by have:=HG.out;simp;omega) _⟩;rw[fg z (by rw[sK.out];exact hlt),Nat.pow_succ];exact HH3.out
   case measure=>simp[intOf];omega
  ·have hkm:k=n3:=by omega
   subst hkm;have eB:val zs=val xs-val ys:=by
    have h1:=kR.out;rw[bK _ _ (by rw[sK.out];exact Nat.le_refl _),bK la _ (by rw[AG.out];exact Nat.le_refl _),bK lb _ (by have:=mH.out;rw[AG.out] at this;exact this),yp.out,yo.out] at h1;have h2:=eJ zs;rw[sK.out] at h2;have h3:=HLE.out;have hb0:br=0:=by
     rcases Nat.eq_zero_or_pos br with h|h
     ·exact h
     ·have:br=1:=by omega
      rw[this,Nat.mul_one] at h1;omega
    rw[hb0,Nat.mul_zero] at h1;omega
   have yh:=zH eB;clear eB hlt;go_wp2_with fail;refine(kf jm.out.rsAll (by omega)).mono ?_;rintro e w2 ⟨v,rfl,ho,hb⟩;rw[yh.out] at ho;have pf:=ak XC.out fL.out;have HO:=zH (ho.base_le pf.size);have HB:=zH (ak pf hb);clear ho hb pf;go_wp2_with fail;go_ret2
   exact⟨_,rfl,HO.out,HB.out⟩
theorem Ql {l:List (BitVec 32)} {k:Nat} (h:k<l.length):l[k]?=some (l.getD k 0#32):=by
 rw[List.getD_eq_getElem?_getD,List.getElem?_eq_getElem h];rfl
theorem Own.limb {w:World} {base g n c:Nat} {e:TypeId} {xs:List (BitVec 32)} (h:Own w bw base e (.slice (some ⟨g,0,none⟩) n c) xs) {k:Nat} (hk:k<xs.length):w.cell? ⟨g,k,none⟩=some (.int .u32 ((xs.getD k 0#32).toNat:Int))∧w.frozen? ⟨g,k,none⟩=false:=by
 obtain⟨g',u,uj,_,_,hu,fu,nD⟩:=h.get1 rfl (Ql hk);injection uj with uj
 injection uj with uj
 subst uj;have D1:[u]=[RY (xs.getD k 0#32)]:=hu;injection D1 with D1
 subst D1;exact⟨fu,nD⟩
theorem Own.setLimb {w:World} {base g n c:Nat} {e:TypeId} {xs:List (BitVec 32)} (h:Own w bw base e (.slice (some ⟨g,0,none⟩) n c) xs) (k:Nat) (z:BitVec 32):Own (w.setCell ⟨g,k,none⟩ (.int .u32 (z.toNat:Int))) bw base e (.slice (some ⟨g,0,none⟩) n c) (xs.set k z):=
 (h.stored (k:=k) (u:=.int .u32 (z.toNat:Int)) (x:=z) rfl rfl).1
theorem Bm {S S2:Nat→Prop} {A A2:Option Addr} {n c n2 c2:Nat} {xs ys:List (BitVec 32)} {w:World} (h:RS w S A n c xs) (h2:RS w S2 A2 n2 c2 ys) (hS:∀b,S b→b<w.heap.size) (iN:∀b,S2 b→b<w.heap.size) (hn:n≤1073741824) (hn2:n2≤1073741824) : Calls Tryz.prog 167 #[.slice A n c,.slice A2 n2 c2] w (jR w 98 (dm (val xs*val ys))):=by
 obtain⟨i0,hi,kG,fH,iP⟩:=info_parts Tryz.u32Info;have HI:=zH hi;have qJ:=zH kG;have kr:=zH fH;have lA:=zH iP;have H:=zH h;have H2:=zH h2;have HL:=zH h.len;have pE:=zH h2.len;have yp:=zH (fb xs);have yo:=zH (fb ys);clear h h2 hi kG fH iP;go_enter Tryz.func167,Tryz.ntmps167;go_wp2_with fail;refine(fh H.out).mono ?_;rintro e w' ⟨A3,n3,c3,rfl,hr,rfl⟩;have hl3:n3≤1073741824:=by have:=bT xs;have:=hr.len;have:=HL.out;omega
 have HR:=zH hr;clear hr;go_wp2_with fail;refine(fh H2.out).mono ?_;rintro e w' ⟨A4,n4,c4,rfl,hr,rfl⟩;have hl4:n4≤1073741824:=by have:=bT ys;have:=hr.len;have:=pE.out;omega
 have pe:=zH hr;clear hr;obtain⟨la,iQ⟩:∃l,dt xs=l:=⟨_,rfl⟩;obtain⟨lb,lq⟩:∃l,dt ys=l:=⟨_,rfl⟩;rw[iQ] at HR yp;rw[lq] at pe yo;have AG:=zH HR.out.len;have Ft:=zH pe.out.len;clear iQ lq;have Jd:(n3:Int)+(n4:Int)=((n3+n4:Nat):Int):=by omega
 obtain⟨M,hM⟩:∃M,n3+n4=M:=⟨_,rfl⟩;rw[hM] at Jd;have hMb:M≤2147483648:=by omega
 have HM:=zH hM;clear hM;go_wp2_with (refine ck (α:=BitVec 32) _ rfl _ _ _ rfl rfl w.heap.size i0 (.int .u32 0) Tryz.underlying26 HI.out qJ.out kr.out rfl .i64 .i64 (M:Int) (M:Int) M rfl rfl rfl rfl (by rw[lA.out];omega) (by unfold maxLen;omega) (Nat.le_refl _) 0#32 bw (fun _ h=>h.elim) (fun _ _=>rfl) ?_; intro w1 qN hg1; have jm:=zH qN; have fL:=zH ((Below.refl w.heap.size w).grown hg1 (Nat.le_refl _) (fun k hk=>by cases hk)); clear qN hg1);obtain⟨g,hg⟩:∃g,w.heap.size=g:=⟨_,rfl⟩;rw[hg] at jm;rw[hg];have HG:=zH hg;clear hg Jd;go_loopw [24] (fun i wr=>∃(k:Nat) (zs:List (BitVec 32)),k≤n3∧i=.int .i64 k∧zs.length=M∧val (zs.take (k+n4))=val (la.take k)*val lb∧Own wr bw g 98 (.slice (some ⟨g,0,none⟩) M M) zs∧Below w.heap.size w wr)
  (fun i _=>n3-(intOf i).toNat)
 case atStart=>exact⟨0,List.replicate M 0#32,by omega,rfl,by simp,by rw[List.take_replicate,yr];simp[val],jm.out,fL.out⟩
 case round=>
  clear jm fL;obtain⟨k,zs,hk,rfl,zM,iM,ho,hb⟩:=hrel;have jm:=zH ho;have fL:=zH hb;have sK:=zH zM;have kR:=zH iM;clear ho hb zM iM;by_cases hlt:k<n3
  ·have hk3:(k:Int)<(n3:Int):=by omega
   obtain⟨b,o,x0,rfl,Cu,hx,e1⟩:=(HR.out.below fL.out hS).limb_at hlt;have hxg:(la.getD k 0#32).toNat=x0.toNat:=by rw[List.getD_eq_getElem?_getD,hx];rfl
   have nA:=x0.isLt;have hxw:IntKind.u64.wrap (x0.toNat:Int)=(x0.toNat:Int):=by rw[IntKind.wrap_u64];omega
   have HXG:=zH hxg;clear hxg hx;go_wp2_with fail;obtain⟨wd,rfl⟩:∃wd:World,wd=wr:=⟨_,rfl⟩;go_loopw [8,31] (fun cv j wr=>∃(q cr:Nat) (ts:List (BitVec 32)),q≤n4∧j=.int .i64 q∧cv=.int .u64 cr∧cr<4294967296∧ts.length=M∧ts.drop (k+q)=zs.drop (k+q)∧val (ts.take (k+q))+4294967296^(k+q)*cr=val (zs.take (k+q))+4294967296^k*(x0.toNat*val (lb.take q))∧Own wr bw g 98 (.slice (some ⟨g,0,none⟩) M M) ts∧Below w.heap.size w wr)
    (fun _ j _=>n4-(intOf j).toNat)
   case atStart=>exact⟨0,0,zs,by omega,rfl,rfl,by omega,sK.out,rfl,by simp[val],jm.out,fL.out⟩
   case round=>
    clear jm fL;obtain⟨q,cr,ts,hq,rfl,rfl,hcr,Fe,hdr,WX,ho,hb⟩:=hrel;have oR:=zH ho;have fe:=zH hb;have JU:=zH Fe;have HDR:=zH hdr;have XB:=zH WX;clear ho hb Fe hdr WX;by_cases jX:q<n4
    ·have hq4:(q:Int)<(n4:Int):=by omega
     obtain⟨b2,o2,y0,rfl,ae5,hy,e2⟩:=(pe.out.below fe.out iN).limb_at jX;have hyg:(lb.getD q 0#32).toNat=y0.toNat:=by rw[List.getD_eq_getElem?_getD,hy];rfl
     have DY:=y0.isLt;have hyw:IntKind.u64.wrap (y0.toNat:Int)=(y0.toNat:Int):=by rw[IntKind.wrap_u64];omega
     have akj:(k:Int)+(q:Int)=((k+q:Nat):Int):=by omega
     have ZE:k+q<M:=by have:=HM.out;omega
     obtain⟨fu,nD⟩:=oR.out.limb (k:=k+q) (by rw[JU.out];exact ZE);have Co:(zs.getD (k+q) 0#32)=ts.getD (k+q) 0#32:=by
      have h1:=congrArg (·[0]?) HDR.out;simp only[List.getElem?_drop,Nat.add_zero] at h1;rw[List.getD_eq_getElem?_getD,List.getD_eq_getElem?_getD,h1]
     have e3:=bo zs (k+q);have e4:=bo lb q;rw[hyg] at e4;rw[Co] at e3;obtain⟨z0,kG⟩:∃z0,ts.getD (k+q) 0#32=z0:=⟨_,rfl⟩;rw[kG] at fu e3;have ajx:=z0.isLt;have hzw:IntKind.u64.wrap (z0.toNat:Int)=(z0.toNat:Int):=by rw[IntKind.wrap_u64];omega
     obtain⟨cI,cj⟩:=KX nA DY ajx hcr;obtain⟨s,hs⟩:∃s,x0.toNat*y0.toNat+z0.toNat+cr=s:=⟨_,rfl⟩;have h3:=Ov (B:=4294967296) (p:=4294967296^(k+q)) (pi:=4294967296^k) (pj:=4294967296^q) (by rw[Nat.pow_add]) hs XB.out;rw[←e3,←e4] at h3;obtain⟨p,hp⟩:∃p,x0.toNat*y0.toNat=p:=⟨_,rfl⟩;have hpi:(x0.toNat:Int)*(y0.toNat:Int)=(p:Int):=by rw[←hp];exact(Int.natCast_mul _ _).symm
     rw[hp] at cI cj hs;have nJ:(p:Int)+(z0.toNat:Int)+(cr:Int)=(s:Int):=by omega
     have Ff:(p:Int)+(z0.toNat:Int)<18446744073709551616:=by omega
     have hs3:s<18446744073709551616:=by omega
     have zN:=jt s;have UE:(s:Int)/4294967296=((s/4294967296:Nat):Int):=rfl;obtain⟨z,hz⟩:∃z,BitVec.ofNat 32 s=z:=⟨_,rfl⟩;obtain⟨Vs,PX⟩:∃Vs,s/4294967296=Vs:=⟨_,rfl⟩;have fM:=eP s;rw[hz] at zN fM;rw[PX] at UE h3;rw[←fM] at h3;have uZ:Vs<4294967296:=by omega
     obtain⟨r,hr⟩:∃r,k+q=r:=⟨_,rfl⟩;rw[hr] at akj ZE fu nD;have hrM:(r:Int)<(M:Int):=by omega
     have HH3:=zH h3;have E6:=zH hr;clear hyg e3 e4 hs hp hz PX fM kG Co hy h3 hr cj;go_wp2_with fail;go_roundw
     case rel=>
      have hkr:k+(q+1)=r+1:=by have:=E6.out;omega
      refine⟨q+1,Vs,ts.set r z,by omega,by go_num,rfl,uZ,by rw[List.length_set];exact JU.out,?_,?_,oR.out.setLimb r z,fe.out.setCell (by have:=HG.out;simp;omega) _⟩
      ·rw[hkr,List.drop_set_of_lt (by omega),←E6.out,←List.drop_drop,HDR.out,List.drop_drop]
      ·rw[hkr,fg z (by rw[JU.out];exact ZE),←E6.out,Nat.pow_succ];exact HH3.out
     case measure=>simp[intOf];omega
    ·have Zu:q=n4:=by omega
     have hkM:(k:Int)+(n4:Int)=((k+n4:Nat):Int):=by omega
     obtain⟨r,hr⟩:∃r,k+n4=r:=⟨_,rfl⟩;have hrM:r<M:=by have:=HM.out;omega
     obtain⟨fu,nD⟩:=oR.out.limb (k:=r) (by rw[JU.out];exact hrM);have Zr:(r:Int)<(M:Int):=by omega
     rw[hr] at hkM;have zN:=jt cr;obtain⟨z,hz⟩:∃z,BitVec.ofNat 32 cr=z:=⟨_,rfl⟩;have fM:=eP cr;rw[hz] at zN fM;have Zd:z.toNat=cr:=by omega
     have pA:val ((ts.set r z).take (r+1))=val (la.take (k+1))*val lb:=by
      have h1:=XB.out;rw[Zu,hr,bK lb _ (by rw[Ft.out];exact Nat.le_refl _)] at h1;have h2:=kR.out;rw[hr] at h2;rw[h2] at h1;have h4:=bo la k;rw[HXG.out] at h4;rw[fg z (by rw[JU.out];exact hrM),Zd,h1,h4,Nat.add_mul,Nat.mul_assoc]
     have Hl:=zH pA;have E6:=zH hr;clear pA Zu hr Zd fM hz hcr;go_wp2_with fail;go_roundw
     case rel=>
      refine⟨k+1,ts.set r z,by omega,by go_num,by rw[List.length_set];exact JU.out,?_,oR.out.setLimb r z,fe.out.setCell (by have:=HG.out;simp;omega) _⟩;have hkr:k+1+n4=r+1:=by have:=E6.out;omega
      rw[hkr];exact Hl.out
     case measure=>simp[intOf];omega
  ·have gV:k=n3:=by omega
   have eB:val zs=val xs*val ys:=by
    have h1:=kR.out;rw[gV,bK _ _ (by rw[sK.out];have:=HM.out;omega),bK la _ (by rw[AG.out];exact Nat.le_refl _),yp.out,yo.out] at h1;exact h1
   have yh:=zH eB;clear eB gV;go_wp2_with fail;refine(kf jm.out.rsAll (by omega)).mono ?_;rintro e w2 ⟨v,rfl,ho,hb⟩;rw[yh.out] at ho;have HO:=zH (ho.base_le fL.out.size);have HB:=zH (ak fL.out hb);clear ho hb;go_wp2_with fail;go_ret
   exact⟨_,rfl,HO.out,HB.out⟩
def E3 (w:World) (v n d:Nat) (en:Ending) (w':World):Prop:=
 ∃(s:Value) (qs:List (BitVec 32)),en=.returned (.tuple #[s,.int .u64 ((v%d:Nat):Int)])∧Own w' bw w.heap.size 98 s qs∧val qs=v/d∧qs.length=n∧Below w.heap.size w w'
theorem Yx (a x:Nat) (ha:a<4294967296) (hx:x<4294967296):bits .or .u64 ((a:Int)*4294967296) (x:Int)=((a*4294967296+x:Nat):Int):=by
 have e:(a:Int)*4294967296=((a*4294967296:Nat):Int):=by omega
 rw[e,u64_or_nat _ _ (by omega) (by omega),Do _ _ hx]
theorem yV {S:Nat→Prop} {A:Option Addr} {n c:Nat} {xs:List (BitVec 32)} {w:World} (d:Nat) (h:RS w S A n c xs) (hS:∀b,S b→b<w.heap.size) (hn:n≤1073741824) (hd:0<d) (Sp:d<4294967296) : Calls Tryz.prog 130 #[.slice A n c,.int .u64 d] w (E3 w (val xs) n d):=by
 obtain⟨i0,hi,kG,fH,iP⟩:=info_parts Tryz.u32Info;have HI:=zH hi;have qJ:=zH kG;have kr:=zH fH;have lA:=zH iP;have H:=zH h;have HL:=zH h.len;clear h hi kG fH iP;go_enter Tryz.func130,Tryz.ntmps130;go_wp2_with (refine ck (α:=BitVec 32) _ rfl _ _ _ rfl rfl w.heap.size i0 (.int .u32 0) Tryz.underlying26 HI.out qJ.out kr.out rfl .i64 .i64 (n:Int) (n:Int) n rfl rfl rfl rfl (by rw[lA.out];omega) (by unfold maxLen;omega) (Nat.le_refl _) 0#32 bw (fun _ h=>h.elim) (fun _ _=>rfl) ?_; intro w1 qN hg1; have jm:=zH qN; have fL:=zH ((Below.refl w.heap.size w).grown hg1 (Nat.le_refl _) (fun k hk=>by cases hk)); clear qN hg1);obtain⟨g,hg⟩:∃g,w.heap.size=g:=⟨_,rfl⟩;rw[hg] at jm;rw[hg];have HG:=zH hg;clear hg;go_loopw [7,8] (fun rv i wr=>∃(k r:Nat) (z:Int) (qs:List (BitVec 32)),k≤n∧i=.int .i64 z∧z+1=k∧rv=.int .u64 r∧r<d∧qs.length=n∧val (qs.drop k)*d+r=val (xs.drop k)∧Own wr bw g 98 (.slice (some ⟨g,0,none⟩) n n) qs∧Below w.heap.size w wr)
  (fun _ i _=>(intOf i+1).toNat)
 case atStart=>exact⟨n,0,(n:Int)-1,List.replicate n 0#32,Nat.le_refl _,rfl,by omega,rfl,hd,by simp,by rw[List.drop_eq_nil_of_le (by simp),List.drop_eq_nil_of_le (by rw[HL.out];exact Nat.le_refl _)];simp[val],jm.out,fL.out⟩
 case round=>
  clear jm fL;obtain⟨k,r,z,qs,hk,rfl,hz,rfl,hr,Cr,iM,ho,hb⟩:=hrel;have jm:=zH ho;have fL:=zH hb;have JW:=zH Cr;have kR:=zH iM;clear ho hb Cr iM;rcases k with _|k
  ·obtain rfl:z= -1:=by omega
   have hdm:=Ai (kR.out) hr;rw[List.drop_zero,List.drop_zero] at hdm;have HD:=zH hdm;clear hdm hz;go_wp2_with fail;go_ret2
   exact⟨_,qs,by rw[←HD.out.2];rfl,by rw[HG.out];exact jm.out,HD.out.1,JW.out,fL.out⟩
  ·obtain rfl:z=k:=by omega
   have gV:(k:Int)<(n:Int):=by omega
   obtain⟨b,o,a,rfl,_,hx,e1⟩:=(H.out.below fL.out hS).limb_at (k:=k) (by omega);have hal:=a.isLt;have BC:=kS hx;obtain⟨fu,nD⟩:=jm.out.limb (k:=k) (by rw[JW.out];omega);obtain⟨x,nQ⟩:∃x,r*4294967296+a.toNat=x:=⟨_,rfl⟩;have hs:=FS (B:=4294967296) nQ kR.out;rw[←BC] at hs;have Cr:=Nr hr hal nQ;have lP:=Yx r a.toNat (by omega) hal;rw[nQ] at lP;have hxb:x<18446744073709551616:=by omega
   obtain⟨q,hq⟩:∃q,x/d=q:=⟨_,rfl⟩;obtain⟨r',j3⟩:∃r',x%d=r':=⟨_,rfl⟩;have zP:r'<d:=by rw[←j3];exact Nat.mod_lt _ hd
   rw[hq] at hs Cr;rw[j3] at hs;have WQ:(x:Int).tdiv (d:Int)=(q:Int):=by rw[←hq];rfl
   have Sg:(x:Int).tmod (d:Int)=(r':Int):=by rw[←j3];rfl
   have aek:(x:Int)/(d:Int)=(q:Int):=by rw[←hq];rfl
   have aec:(x:Int)%(d:Int)=(r':Int):=by rw[←j3];rfl
   have haw:IntKind.u64.wrap (a.toNat:Int)=(a.toNat:Int):=by rw[IntKind.wrap_u64];omega
   have zN:=jt q;obtain⟨zq,Pb⟩:∃z,BitVec.ofNat 32 q=z:=⟨_,rfl⟩;have fM:=eP q;rw[Pb] at zN fM;have qM:zq.toNat=q:=by omega
   have pA:val ((qs.set k zq).drop k)*d+r'=val (xs.drop k):=by
    rw[pU zq (by rw[JW.out];omega),val,qM];exact hs
   have hd0:((d:Int)==0)=false:=by rw[beq_eq_false_iff_ne];omega
   have Hl:=zH pA;clear hs hx BC nQ hq j3 Pb fM qM pA hz;go_wp2_with fail;go_roundw
   case rel=>exact⟨k,r',(k:Int)-1,qs.set k zq,by omega,by go_num,by omega,rfl,zP,by rw[List.length_set];exact JW.out,Hl.out,jm.out.setLimb k zq,fL.out.setCell (by have:=HG.out;simp;omega) _⟩
   case measure=>simp[intOf]
end Go.Proofs.YtjlhbfbdcfajfaaGreatDoor
