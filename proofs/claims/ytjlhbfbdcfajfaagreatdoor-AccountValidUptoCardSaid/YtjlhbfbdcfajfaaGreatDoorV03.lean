/- Nat2 Nat3 Nat4 Nat5 Nat6 -/
import Derived.Test.YtjlhbfbdcfajfaaGreatDoorV02
import Derived.Test.YtjlhbfbdcfajfaaGreatDoorV01
import Derived.Deep.DeepCutAuto
set_option maxHeartbeats 8000000
set_option maxRecDepth 100000
namespace Go.Proofs.YtjlhbfbdcfajfaaGreatDoor
open Go.RowKit
theorem Own.rsAll {α:Type} [aK α] {w:World} {base:Nat} {e:TypeId} {A:Option Addr} {n c:Nat} {xs:List α} (h:Own w bq base e (.slice A n c) xs):RS w (·<w.heap.size) A n c xs:=h.rs (fun _ h=>h.elim) (fun _ _ h=>h)
theorem MC (n:Nat) (h:n<18446744073709551616):val [BitVec.ofNat 32 n,BitVec.ofNat 32 (n/4294967296)]=n:=by
 simp only[val,BitVec.toNat_ofNat];omega
theorem zP (n:Nat) (w:World) (h:n<18446744073709551616):Calls Tryz.prog 158 #[.int .u64 n] w (jF w 98 (dc n)):=by
 have hv:=MC n h;obtain⟨x,hx⟩:∃x,BitVec.ofNat 32 n=x:=⟨_,rfl⟩;obtain⟨y,hy⟩:∃y,BitVec.ofNat 32 (n/4294967296)=y:=⟨_,rfl⟩;have h1:IntKind.u32.wrap (n:Int)=(x.toNat:Int):=by rw[←hx,IntKind.wrap_u32,BitVec.toNat_ofNat];omega
 have h2:IntKind.u32.wrap ((n:Int)/4294967296)=(y.toNat:Int):=by rw[←hy,IntKind.wrap_u32,BitVec.toNat_ofNat];omega
 rw[hx,hy] at hv;have HV:=zH hv;clear hv hx hy;go_enter Tryz.func158,Tryz.ntmps158;go_wp2_with fail;have hb:Below w.heap.size w (w.alloc (.cells #[.int .u32 (x.toNat:Int),.int .u32 (y.toNat:Int)] 98)):=(Below.refl _ _).alloc (Nat.le_refl _) _;have hr:RS (w.alloc (.cells #[.int .u32 (x.toNat:Int),.int .u32 (y.toNat:Int)] 98)) (fun _=>True) (some ⟨w.heap.size,0,none⟩) 2 2 [x,y]:=
  RS.of_blk (t:=98) (cs:=#[.int .u32 (x.toNat:Int),.int .u32 (y.toNat:Int)]) (dy.new _ _ _) (Flat.limbs [x,y]) rfl (Nat.le_refl _) (by decide) trivial
 refine(j0 hr (by omega)).mono ?_;rintro e w2 ⟨v,rfl,ho,bZ⟩;rw[HV.out] at ho;have HO:=zH (ho.base_le (Nat.le_trans hb.size (Nat.le_refl _)));have HB:=zH (ak hb bZ);clear ho hb bZ hr h1 h2;go_wp2_with fail;go_ret
 exact⟨_,rfl,HO.out,HB.out⟩
theorem FG {S S2:Nat→Prop} {A A2:Option Addr} {n c n2 c2:Nat} {xs ys:List (BitVec 32)} {w:World} (h:RS w S A n c xs) (h2:RS w S2 A2 n2 c2 ys) : Calls Tryz.prog 160 #[.slice A n c,.slice A2 n2 c2] w (xb w (.int .i64 (kA (val xs) (val ys)))):=by
 have H:=zH h;have H2:=zH h2;have WU:=eN xs;have WT:=eN ys;have hlx:=dN xs;have hly:=dN ys;have xn:=zH WU;have xm:=zH WT;have ZB:=zH hlx;have HLY:=zH hly;clear h h2 WU WT hlx hly;go_enter Tryz.func160,Tryz.ntmps160;go_wp2_with fail;refine(eR H.out).mono ?_;rintro e w' ⟨A3,n3,c3,rfl,hr,rfl⟩;have HR:=zH hr;clear hr;go_wp2_with fail;refine(eR H2.out).mono ?_;rintro e w' ⟨A4,n4,c4,rfl,hr,rfl⟩;have oM:=zH hr;have hm3:=HR.out.max;have hm4:=hr.max;clear hr;obtain⟨l3,hl3⟩:∃l,dh xs=l:=⟨_,rfl⟩;obtain⟨l4,hl4⟩:∃l,dh ys=l:=⟨_,rfl⟩;rw[hl3] at HR xn ZB;rw[hl4] at oM xm HLY;have zi:=zH HR.out.len;have Eb:=zH oM.out.len;clear hl3 hl4;by_cases hlt:n3=n4
 ·subst hlt;have hb:((n3:Int) !=(n3:Int))=false:=by simp
  go_wp2_with fail;go_loopw [5,27,37] (fun v _ _ wr=>∃(k m:Nat) (z:Int),k≤n3∧v=.int .i64 z∧z+1=k∧l3.drop k=l4.drop k∧wr=w.drewN m) (fun v _ _ _=>(intOf v+1).toNat)
  case atStart=>exact⟨n3,0,(n3:Int)-1,Nat.le_refl _,rfl,by omega,by rw[List.drop_eq_nil_of_le (by rw[zi.out];exact Nat.le_refl _),List.drop_eq_nil_of_le (by rw[Eb.out];exact Nat.le_refl _)],rfl⟩
  case round=>
   obtain⟨k,m,z,hk,rfl,hz,hd,rfl⟩:=hrel;have HD:=zH hd;clear hd;rcases k with _|k
   ·obtain rfl:z= -1:=by omega
    have he:kA (val xs) (val ys)=0:=by
     have h1:=HD.out;rw[List.drop_zero,List.drop_zero] at h1;rw[←xn.out,←xm.out,h1,rj]
    have HE:=zH he;clear he hz;go_wp2_with fail;go_ret
    exact⟨hZ (by rw[HE.out];rfl),_,rfl⟩
   ·obtain rfl:z=k:=by omega
    obtain⟨b,o,x,rfl,_,hx,e1⟩:=HR.out.limb_at (k:=k) (by omega);obtain⟨b2,o2,y,rfl,_,hy,e2⟩:=oM.out.limb_at (k:=k) (by omega);have gM:(k:Int)<(n3:Int):=by omega
    have HX:=zH hx;have HY:=zH hy;clear hx hy hz;rcases Nat.lt_trichotomy x.toNat y.toNat with hc|hc|hc
    ·have he:kA (val xs) (val ys)= -1:=by
      rw[←xn.out,←xm.out];exact oI (nD HD.out HX.out HY.out hc)
     have HE:=zH he;have d1:decide (x.toNat<y.toNat)=true:=decide_eq_true (by omega);clear he hc;go_wp2_with fail;go_quiet (fail)
     go_wp2_with fail;go_ret
     exact⟨hZ (by rw[HE.out];rfl),_,World.drewN_drewN _ _ _⟩
    ·have nW:x=y:=BitVec.eq_of_toNat_eq hc;have hn:=AJ HD.out HX.out (by rw[nW];exact HY.out);have HN:=zH hn;have d1:decide (x.toNat<y.toNat)=false:=decide_eq_false (by omega);have d2:decide (y.toNat<x.toNat)=false:=decide_eq_false (by omega);clear hn nW hc;go_wp2_with fail;go_quiet (fail)
     go_wp2_with fail;go_quiet (fail)
     go_wp2_with fail;go_roundw
     case rel=>exact⟨k,_,(k:Int)-1,by omega,by go_num,by omega,HN.out,by first|rfl|(rw[World.drewN_drewN,World.drewN_drewN])|(rw[World.drewN_drewN])⟩
     case measure=>simp[intOf]
    ·have he:kA (val xs) (val ys)=1:=by
      rw[←xn.out,←xm.out];exact oJ (nD HD.out.symm HY.out HX.out hc)
     have HE:=zH he;have d1:decide (x.toNat<y.toNat)=false:=decide_eq_false (by omega);have d2:decide (y.toNat<x.toNat)=true:=decide_eq_true (by omega);clear he hc;go_wp2_with fail;go_quiet (fail)
     go_wp2_with fail;go_quiet (fail)
     go_wp2_with fail;go_ret
     exact⟨hZ (by rw[HE.out];rfl),_,(congrArg (fun w=>World.drewN w _) (World.drewN_drewN _ _ _)).trans (World.drewN_drewN _ _ _)⟩
 ·have hb:((n3:Int) !=(n4:Int))=true:=by simp;omega
  by_cases h3:n3<n4
  ·have he:kA (val xs) (val ys)= -1:=oI (lM (by rw[ZB.out,HLY.out,zi.out,Eb.out];exact h3));have HE:=zH he;clear he;go_wp2_with fail;go_ret
   exact⟨hZ (by rw[HE.out];rfl),0,rfl⟩
  ·have he:kA (val xs) (val ys)=1:=oJ (lM (by rw[ZB.out,HLY.out,zi.out,Eb.out];omega));have HE:=zH he;clear he;go_wp2_with fail;go_ret
   exact⟨hZ (by rw[HE.out];rfl),0,rfl⟩
theorem Tryz.u32Info:(Tryz.prog.info? 98).map (fun i=>(i.zero,i.size,i.bytes))=some (some (.int .u32 0),1,4):=by kernel_rfl
theorem jg (s:Nat):IntKind.u32.wrap (s:Int)=((BitVec.ofNat 32 s).toNat:Int):=by rw[IntKind.wrap_u32,BitVec.toNat_ofNat];omega
theorem eE (s:Nat):(BitVec.ofNat 32 s).toNat=s%4294967296:=by rw[BitVec.toNat_ofNat]
theorem dT {l:List (BitVec 32)} (k:Nat):(l.getD k 0#32).toNat<4294967296:=(l.getD k 0#32).isLt
theorem TS {S S2:Nat→Prop} {A A2:Option Addr} {n c n2 c2:Nat} {xs ys:List (BitVec 32)} {w:World} (h:RS w S A n c xs) (h2:RS w S2 A2 n2 c2 ys) (hS:∀b,S b→b<w.heap.size) (iC:∀b,S2 b→b<w.heap.size) (hn:n≤1073741824) (hn2:n2≤1073741824) : Calls Tryz.prog 190 #[.slice A n c,.slice A2 n2 c2] w (jF w 98 (dc (val xs+val ys))):=by
 obtain⟨i0,hi,kr,fu,iE⟩:=info_parts Tryz.u32Info;have HI:=zH hi;have pY:=zH kr;have ka:=zH fu;have k8:=zH iE;have H:=zH h;have H2:=zH h2;have HL:=zH h.len;have o0:=zH h2.len;have xn:=zH (eN xs);have xm:=zH (eN ys);clear h h2 hi kr fu iE;go_enter Tryz.func190,Tryz.ntmps190;go_wp2_with fail;refine(eR H.out).mono ?_;rintro e w' ⟨A3,n3,c3,rfl,hr,rfl⟩;have hl3:n3≤1073741824:=by have:=bQ xs;have:=hr.len;have:=HL.out;omega
 have HR:=zH hr;clear hr;go_wp2_with fail;refine(eR H2.out).mono ?_;rintro e w' ⟨A4,n4,c4,rfl,hr,rfl⟩;have hl4:n4≤1073741824:=by have:=bQ ys;have:=hr.len;have:=o0.out;omega
 have oM:=zH hr;clear hr;obtain⟨la,iF⟩:∃l,dh xs=l:=⟨_,rfl⟩;obtain⟨lb,kV⟩:∃l,dh ys=l:=⟨_,rfl⟩;rw[iF] at HR xn;rw[kV] at oM xm;have zi:=zH HR.out.len;have Eb:=zH oM.out.len;clear iF kV;go_upto_region 2 with(fail);go_cut [5] (fun v wx=>∃m:Nat,v=.int .i64 m∧n3≤m∧n4≤m∧m≤1073741824∧w=wx)
 case first=>
  by_cases hc:(n3:Int)<(n4:Int)
  ·go_wp2_with fail;go_meet
   exact⟨n4,rfl,by omega,by omega,by omega,rfl⟩
  ·go_wp2_with fail;go_meet
   exact⟨n3,rfl,by omega,by omega,by omega,rfl⟩
 case rest=>
 obtain⟨m,rfl,hm3,hm4,hm,rfl⟩:=hcut;have Hq:(m:Int)+1=((m+1:Nat):Int):=by omega
 obtain⟨M,hM⟩:∃M,m+1=M:=⟨_,rfl⟩;rw[hM] at Hq;have hMb:M≤1073741825:=by omega
 have HM:=zH hM;clear hM;go_wp2_with (refine cf (α:=BitVec 32) _ rfl _ _ _ rfl rfl w.heap.size i0 (.int .u32 0) Tryz.underlying26 HI.out pY.out ka.out rfl .i64 .i64 (M:Int) (M:Int) M rfl rfl rfl rfl (by rw[k8.out];omega) (by unfold maxLen;omega) (Nat.le_refl _) 0#32 bq (fun _ h=>h.elim) (fun _ _=>rfl) ?_; intro w1 qf hg1; have ja:=zH qf; have fy:=zH ((Below.refl w.heap.size w).grown hg1 (Nat.le_refl _) (fun k hk=>by cases hk)); clear qf hg1);obtain⟨g,hg⟩:∃g,w.heap.size=g:=⟨_,rfl⟩;rw[hg] at ja;rw[hg];have HG:=zH hg;clear hg Hq;go_loopw [7,8,9,23] (fun cv _ _ i wr=>∃(k cr:Nat) (zs:List (BitVec 32)),k≤m∧i=.int .i64 k∧cv=.int .u64 cr∧cr≤1∧zs.length=M∧val (zs.take k)+4294967296^k*cr=val (la.take k)+val (lb.take k)∧Own wr bq g 98 (.slice (some ⟨g,0,none⟩) M M) zs∧Below w.heap.size w wr)
  (fun _ _ _ i _=>m-(intOf i).toNat)
 case atStart=>exact⟨0,0,List.replicate M 0#32,by omega,rfl,rfl,by omega,by simp,by simp[val],ja.out,fy.out⟩
 case round=>
  clear ja fy;obtain⟨k,cr,zs,hk,rfl,rfl,hcr,yB,iB,ho,hb⟩:=hrel;have ja:=zH ho;have fy:=zH hb;have rH:=zH yB;have kF:=zH iB;clear ho hb yB iB;by_cases hlt:k<m
  ·have hkM:(k:Int)<(M:Int):=by have:=HM.out;omega
   have hx:=zi.out;obtain⟨g',u,tx,_,_,hu,fg,mY⟩:=ja.out.get1 rfl (show zs[k]?=some (zs.getD k 0#32) by rw[List.getD_eq_getElem?_getD,List.getElem?_eq_getElem (by rw[rH.out];have:=HM.out;omega)];rfl);injection tx with tx
   injection tx with tx
   subst tx;obtain⟨x,nk⟩:∃x,(la.getD k 0#32).toNat=x:=⟨_,rfl⟩;obtain⟨y,Nz⟩:∃y,(lb.getD k 0#32).toNat=y:=⟨_,rfl⟩;have nl:x<4294967296:=by rw[←nk];exact dT k
   have Cu:y<4294967296:=by rw[←Nz];exact dT k
   have e1:=bn la k;have e2:=bn lb k;rw[nk] at e1;rw[Nz] at e2;obtain⟨s,hs⟩:∃s,x+y+cr=s:=⟨_,rfl⟩;have h3:=DL hs kF.out;rw[←e1,←e2] at h3;have nc:(x:Int)+(y:Int)+(cr:Int)=(s:Int):=by omega
   have fJ:s<8589934592:=by omega
   have yC:=jg s;have Sj:(s:Int)/4294967296=((s/4294967296:Nat):Int):=rfl;obtain⟨z,hz⟩:∃z,BitVec.ofNat 32 s=z:=⟨_,rfl⟩;obtain⟨Tq,Oi⟩:∃Tq,s/4294967296=Tq:=⟨_,rfl⟩;have fA:=eE s;rw[hz] at yC fA;rw[Oi] at Sj h3;rw[←fA] at h3;have uh:Tq≤1:=by omega
   have HXX:=zH nk;have HYY:=zH Nz;have HH3:=zH h3;clear nk Nz e1 e2 hs h3 hz Oi fA hu hx;go_wp2_with fail;refine(kS k (HR.out.below fy.out hS)).mono ?_;rintro e w' ⟨rfl,rfl⟩;rw[HXX.out];go_wp2_with fail;refine(kS k (oM.out.below fy.out iC)).mono ?_;rintro e w' ⟨rfl,rfl⟩;rw[HYY.out];go_wp2_with fail;go_roundw
   case rel=>
    obtain⟨q1,q2⟩:=ja.out.stored (k:=k) (u:=.int .u32 (z.toNat:Int)) (x:=z) rfl rfl;refine⟨k+1,Tq,zs.set k z,by omega,by go_num,rfl,uh,by rw[List.length_set];exact rH.out,?_,q1,fy.out.setCell (by have:=HG.out;simp;omega) _⟩;rw[eQ z (by rw[rH.out];have:=HM.out;omega),Nat.pow_succ];exact HH3.out
   case measure=>simp[intOf];omega
  ·have hkm:k=m:=by omega
   subst hkm;have hkM:(k:Int)<(M:Int):=by have:=HM.out;omega
   obtain⟨g',u,tx,_,_,hu,fg,mY⟩:=ja.out.get1 rfl (show zs[k]?=some (zs.getD k 0#32) by rw[List.getD_eq_getElem?_getD,List.getElem?_eq_getElem (by rw[rH.out];have:=HM.out;omega)];rfl);injection tx with tx
   injection tx with tx
   subst tx;have yC:=jg cr;obtain⟨z,hz⟩:∃z,BitVec.ofNat 32 cr=z:=⟨_,rfl⟩;have fA:=eE cr;rw[hz] at yC fA;have WM:z.toNat=cr:=by omega
   obtain⟨q1,q2⟩:=ja.out.stored (k:=k) (u:=.int .u32 (z.toNat:Int)) (x:=z) rfl rfl;have et:val (zs.set k z)=val xs+val ys:=by
    have h1:=eQ z (l:=zs) (k:=k) (by rw[rH.out];have:=HM.out;omega);rw[bI _ _ (by rw[List.length_set,rH.out];have:=HM.out;omega),WM,kF.out,bI _ _ (by rw[zi.out];exact hm3),bI _ _ (by rw[Eb.out];exact hm4),xn.out,xm.out] at h1;exact h1
   have hq:=q1.rsAll;have W8:Below w.heap.size w (wr.setCell ⟨g,k,none⟩ (.int .u32 (z.toNat:Int))):=fy.out.setCell (by have:=HG.out;simp;omega) _;have xg:=zH et;have HQ:=zH hq;have ZA:=zH W8;clear et hq W8 q1 q2 WM fA hz hu hlt;go_wp2_with fail;refine(j0 HQ.out (by omega)).mono ?_;rintro e w2 ⟨v,rfl,ho,hb⟩;rw[xg.out] at ho;have HO:=zH (ho.base_le ZA.out.size);have HB:=zH (ak ZA.out hb);clear ho hb;go_wp2_with fail;go_ret
   exact⟨_,rfl,HO.out,HB.out⟩
def Vn {α:Type} [aK α] (w:World) (e:TypeId) (xs:List α) (u:Value) (en:Ending) (w':World):Prop:=
 ∃v',en=.returned (.tuple #[v',u])∧Own w' bq w.heap.size e v' xs∧Below w.heap.size w w'
theorem Qx {S S2:Nat→Prop} {A A2:Option Addr} {n c n2 c2:Nat} {xs ys:List (BitVec 32)} {w:World} (h:RS w S A n c xs) (h2:RS w S2 A2 n2 c2 ys) (hlt:val xs<val ys) : Calls Tryz.prog 191 #[.slice A n c,.slice A2 n2 c2] w (Vn w 98 ([]:List (BitVec 32)) (.bool false)):=by
 have H:=zH h;have H2:=zH h2;have xn:=zH (eN xs);have xm:=zH (eN ys);have HC:=zH (oI hlt);clear h h2 hlt;go_enter Tryz.func191,Tryz.ntmps191;go_wp2_with fail;refine(eR H.out).mono ?_;rintro e w' ⟨A3,n3,c3,rfl,hr,rfl⟩;have HR:=zH hr;clear hr;go_wp2_with fail;refine(eR H2.out).mono ?_;rintro e w' ⟨A4,n4,c4,rfl,hr,rfl⟩;have oM:=zH hr;clear hr;go_wp2_with fail;refine(FG HR.out oM.out).mono ?_;rintro e w' ⟨rfl,m,rfl⟩;rw[xn.out,xm.out,HC.out];go_wp2_with fail;go_ret2
 exact⟨_,rfl,Own.nil _ _ _,below_drewN (Below.refl _ _) _⟩
theorem Gi {S S2:Nat→Prop} {A A2:Option Addr} {n c n2 c2:Nat} {xs ys:List (BitVec 32)} {w:World} (h:RS w S A n c xs) (h2:RS w S2 A2 n2 c2 ys) (hS:∀b,S b→b<w.heap.size) (iC:∀b,S2 b→b<w.heap.size) (hn:n≤1073741824) (xG:val ys≤val xs) : Calls Tryz.prog 191 #[.slice A n c,.slice A2 n2 c2] w (Vn w 98 (dc (val xs-val ys)) (.bool true)):=by
 obtain⟨i0,hi,kr,fu,iE⟩:=info_parts Tryz.u32Info;have HI:=zH hi;have pY:=zH kr;have ka:=zH fu;have k8:=zH iE;have H:=zH h;have H2:=zH h2;have HL:=zH h.len;have xn:=zH (eN xs);have xm:=zH (eN ys);have bM:(dh ys).length≤(dh xs).length:=by rw[←dN,←dN];exact fT xG
 have hc:kA (val xs) (val ys)=0∨kA (val xs) (val ys)=1:=by
  rcases Nat.lt_or_ge (val ys) (val xs) with h|h
  ·exact .inr (oJ h)
  ·exact .inl (by rw[Nat.le_antisymm xG h];exact rj _)
 have mf:=zH bM;have HLE:=zH xG;clear h h2 hi kr fu iE bM xG;go_enter Tryz.func191,Tryz.ntmps191;go_wp2_with fail;refine(eR H.out).mono ?_;rintro e w' ⟨A3,n3,c3,rfl,hr,rfl⟩;have hl3:n3≤1073741824:=by have:=bQ xs;have:=hr.len;have:=HL.out;omega
 have HR:=zH hr;clear hr;go_wp2_with fail;refine(eR H2.out).mono ?_;rintro e w' ⟨A4,n4,c4,rfl,hr,rfl⟩;have oM:=zH hr;clear hr;obtain⟨la,iF⟩:∃l,dh xs=l:=⟨_,rfl⟩;obtain⟨lb,kV⟩:∃l,dh ys=l:=⟨_,rfl⟩;rw[iF] at HR xn mf;rw[kV] at oM xm mf;have zi:=zH HR.out.len;have Eb:=zH oM.out.len;clear iF kV;have HCC:=zH hc;clear hc;go_upto_region 2 with(fail);go_cut [17] (fun v wx=>v=.bool false∧Below w.heap.size w wx)
 case first=>
  go_wp2_with fail;refine(FG HR.out oM.out).mono ?_;rintro e w0 ⟨rfl,mm,rfl⟩;rw[xn.out,xm.out];rcases HCC.out with hc|hc
  all_goals
   rw[hc];clear hc;go_wp2_with fail;go_meet
   exact⟨rfl,below_drewN (Below.refl _ _) _⟩
 case rest=>
 obtain⟨rfl,hb0⟩:=hcut;obtain⟨w0,rfl⟩:∃w0:World,w0=wc:=⟨_,rfl⟩;have Vs:=zH hb0;have HR0:=zH (HR.out.below Vs.out hS);have ajf:=zH (oM.out.below Vs.out iC);have HS0:Hid (∀b,S b→b<w0.heap.size):=zH fun b hb=>Nat.lt_of_lt_of_le (hS b hb) Vs.out.size;have aja:Hid (∀b,S2 b→b<w0.heap.size):=zH fun b hb=>Nat.lt_of_lt_of_le (iC b hb) Vs.out.size;clear hb0;go_wp2_with (refine cf (α:=BitVec 32) _ rfl _ _ _ rfl rfl w0.heap.size i0 (.int .u32 0) Tryz.underlying26 HI.out pY.out ka.out rfl .i64 .i64 (n3:Int) (n3:Int) n3 rfl rfl rfl rfl (by rw[k8.out];omega) (by unfold maxLen;omega) (Nat.le_refl _) 0#32 bq (fun _ h=>h.elim) (fun _ _=>rfl) ?_; intro w1 qf hg1; have ja:=zH qf; have fy:=zH ((Below.refl w0.heap.size w0).grown hg1 (Nat.le_refl _) (fun k hk=>by cases hk)); clear qf hg1);obtain⟨g,hg⟩:∃g,w0.heap.size=g:=⟨_,rfl⟩;rw[hg] at ja;rw[hg];have HG:=zH hg;clear hg;go_loopw [7,8,9,23] (fun bv _ _ i wr=>∃(k br:Nat) (zs:List (BitVec 32)),k≤n3∧i=.int .i64 k∧bv=.int .u64 br∧br≤1∧zs.length=n3∧val (zs.take k)+val (lb.take k)=val (la.take k)+4294967296^k*br∧Own wr bq g 98 (.slice (some ⟨g,0,none⟩) n3 n3) zs∧Below w0.heap.size w0 wr)
  (fun _ _ _ i _=>n3-(intOf i).toNat)
 case atStart=>exact⟨0,0,List.replicate n3 0#32,by omega,rfl,rfl,by omega,by simp,by simp[val],ja.out,fy.out⟩
 case round=>
  clear ja fy;obtain⟨k,br,zs,hk,rfl,rfl,XF,yB,iB,ho,hb⟩:=hrel;have ja:=zH ho;have fy:=zH hb;have rH:=zH yB;have kF:=zH iB;clear ho hb yB iB;by_cases hlt:k<n3
  ·have hkM:(k:Int)<(n3:Int):=by omega
   obtain⟨g',u,tx,_,_,hu,fg,mY⟩:=ja.out.get1 rfl (show zs[k]?=some (zs.getD k 0#32) by rw[List.getD_eq_getElem?_getD,List.getElem?_eq_getElem (by rw[rH.out];exact hlt)];rfl);injection tx with tx
   injection tx with tx
   subst tx;obtain⟨x,nk⟩:∃x,(la.getD k 0#32).toNat=x:=⟨_,rfl⟩;obtain⟨y,Nz⟩:∃y,(lb.getD k 0#32).toNat=y:=⟨_,rfl⟩;have nl:x<4294967296:=by rw[←nk];exact dT k
   have Cu:y<4294967296:=by rw[←Nz];exact dT k
   have e1:=bn la k;have e2:=bn lb k;rw[nk] at e1;rw[Nz] at e2;obtain⟨s,hs⟩:∃s,4294967296+x-y-br=s:=⟨_,rfl⟩;have h3:=LK XF nl Cu hs kF.out;rw[←e1,←e2] at h3;have nc:4294967296+(x:Int)-(y:Int)-(br:Int)=(s:Int):=by omega
   have fJ:s<8589934592:=by omega
   have yC:=jg s;have Sj:(s:Int)/4294967296=((s/4294967296:Nat):Int):=rfl;obtain⟨z,hz⟩:∃z,BitVec.ofNat 32 s=z:=⟨_,rfl⟩;obtain⟨d,hd⟩:∃d,s/4294967296=d:=⟨_,rfl⟩;have fA:=eE s;rw[hz] at yC fA;rw[hd] at Sj h3;rw[←fA] at h3;have Xs:d≤1:=by omega
   obtain⟨br',ab3⟩:∃br',1-d=br':=⟨_,rfl⟩;rw[ab3] at h3;have cI:1-(d:Int)=(br':Int):=by omega
   have xl:br'≤1:=by omega
   have HXX:=zH nk;have HYY:=zH Nz;have HH3:=zH h3;clear nk Nz e1 e2 hs h3 hz hd ab3 fA hu;go_wp2_with fail;refine(kS k (HR0.out.below fy.out HS0.out)).mono ?_;rintro e w' ⟨rfl,rfl⟩;rw[HXX.out];go_wp2_with fail;refine(kS k (ajf.out.below fy.out aja.out)).mono ?_;rintro e w' ⟨rfl,rfl⟩;rw[HYY.out];go_wp2_with fail;go_roundw
   case rel=>
    obtain⟨q1,q2⟩:=ja.out.stored (k:=k) (u:=.int .u32 (z.toNat:Int)) (x:=z) rfl rfl;refine⟨k+1,br',zs.set k z,by omega,by go_num,rfl,xl,by rw[List.length_set];exact rH.out,?_,q1,fy.out.setCell (by have:=HG.out;simp;omega) _⟩;rw[eQ z (by rw[rH.out];exact hlt),Nat.pow_succ];exact HH3.out
   case measure=>simp[intOf];omega
  ·have hkm:k=n3:=by omega
   subst hkm;have et:val zs=val xs-val ys:=by
    have h1:=kF.out;rw[bI _ _ (by rw[rH.out];exact Nat.le_refl _),bI la _ (by rw[zi.out];exact Nat.le_refl _),bI lb _ (by have:=mf.out;rw[zi.out] at this;exact this),xn.out,xm.out] at h1;have h2:=ey zs;rw[rH.out] at h2;have h3:=HLE.out;have hb0:br=0:=by
     rcases Nat.eq_zero_or_pos br with h|h
     ·exact h
     ·have:br=1:=by omega
      rw[this,Nat.mul_one] at h1;omega
    rw[hb0,Nat.mul_zero] at h1;omega
   have xg:=zH et;clear et hlt;go_wp2_with fail;refine(j0 ja.out.rsAll (by omega)).mono ?_;rintro e w2 ⟨v,rfl,ho,hb⟩;rw[xg.out] at ho;have oN:=ak Vs.out fy.out;have HO:=zH (ho.base_le oN.size);have HB:=zH (ak oN hb);clear ho hb oN;go_wp2_with fail;go_ret2
   exact⟨_,rfl,HO.out,HB.out⟩
theorem Oy {l:List (BitVec 32)} {k:Nat} (h:k<l.length):l[k]?=some (l.getD k 0#32):=by
 rw[List.getD_eq_getElem?_getD,List.getElem?_eq_getElem h];rfl
theorem Own.limb {w:World} {base g n c:Nat} {e:TypeId} {xs:List (BitVec 32)} (h:Own w bq base e (.slice (some ⟨g,0,none⟩) n c) xs) {k:Nat} (hk:k<xs.length):w.cell? ⟨g,k,none⟩=some (.int .u32 ((xs.getD k 0#32).toNat:Int))∧w.frozen? ⟨g,k,none⟩=false:=by
 obtain⟨g',u,tx,_,_,hu,fg,mY⟩:=h.get1 rfl (Oy hk);injection tx with tx
 injection tx with tx
 subst tx;have Cw:[u]=[PT (xs.getD k 0#32)]:=hu;injection Cw with Cw
 subst Cw;exact⟨fg,mY⟩
theorem Own.setLimb {w:World} {base g n c:Nat} {e:TypeId} {xs:List (BitVec 32)} (h:Own w bq base e (.slice (some ⟨g,0,none⟩) n c) xs) (k:Nat) (z:BitVec 32):Own (w.setCell ⟨g,k,none⟩ (.int .u32 (z.toNat:Int))) bq base e (.slice (some ⟨g,0,none⟩) n c) (xs.set k z):=
 (h.stored (k:=k) (u:=.int .u32 (z.toNat:Int)) (x:=z) rfl rfl).1
theorem zV {S S2:Nat→Prop} {A A2:Option Addr} {n c n2 c2:Nat} {xs ys:List (BitVec 32)} {w:World} (h:RS w S A n c xs) (h2:RS w S2 A2 n2 c2 ys) (hS:∀b,S b→b<w.heap.size) (iC:∀b,S2 b→b<w.heap.size) (hn:n≤1073741824) (hn2:n2≤1073741824) : Calls Tryz.prog 167 #[.slice A n c,.slice A2 n2 c2] w (jF w 98 (dc (val xs*val ys))):=by
 obtain⟨i0,hi,kr,fu,iE⟩:=info_parts Tryz.u32Info;have HI:=zH hi;have pY:=zH kr;have ka:=zH fu;have k8:=zH iE;have H:=zH h;have H2:=zH h2;have HL:=zH h.len;have o0:=zH h2.len;have xn:=zH (eN xs);have xm:=zH (eN ys);clear h h2 hi kr fu iE;go_enter Tryz.func167,Tryz.ntmps167;go_wp2_with fail;refine(eR H.out).mono ?_;rintro e w' ⟨A3,n3,c3,rfl,hr,rfl⟩;have hl3:n3≤1073741824:=by have:=bQ xs;have:=hr.len;have:=HL.out;omega
 have HR:=zH hr;clear hr;go_wp2_with fail;refine(eR H2.out).mono ?_;rintro e w' ⟨A4,n4,c4,rfl,hr,rfl⟩;have hl4:n4≤1073741824:=by have:=bQ ys;have:=hr.len;have:=o0.out;omega
 have oM:=zH hr;clear hr;obtain⟨la,iF⟩:∃l,dh xs=l:=⟨_,rfl⟩;obtain⟨lb,kV⟩:∃l,dh ys=l:=⟨_,rfl⟩;rw[iF] at HR xn;rw[kV] at oM xm;have zi:=zH HR.out.len;have Eb:=zH oM.out.len;clear iF kV;have Hq:(n3:Int)+(n4:Int)=((n3+n4:Nat):Int):=by omega
 obtain⟨M,hM⟩:∃M,n3+n4=M:=⟨_,rfl⟩;rw[hM] at Hq;have hMb:M≤2147483648:=by omega
 have HM:=zH hM;clear hM;go_wp2_with (refine cf (α:=BitVec 32) _ rfl _ _ _ rfl rfl w.heap.size i0 (.int .u32 0) Tryz.underlying26 HI.out pY.out ka.out rfl .i64 .i64 (M:Int) (M:Int) M rfl rfl rfl rfl (by rw[k8.out];omega) (by unfold maxLen;omega) (Nat.le_refl _) 0#32 bq (fun _ h=>h.elim) (fun _ _=>rfl) ?_; intro w1 qf hg1; have ja:=zH qf; have fy:=zH ((Below.refl w.heap.size w).grown hg1 (Nat.le_refl _) (fun k hk=>by cases hk)); clear qf hg1);obtain⟨g,hg⟩:∃g,w.heap.size=g:=⟨_,rfl⟩;rw[hg] at ja;rw[hg];have HG:=zH hg;clear hg Hq;go_loopw [24] (fun i wr=>∃(k:Nat) (zs:List (BitVec 32)),k≤n3∧i=.int .i64 k∧zs.length=M∧val (zs.take (k+n4))=val (la.take k)*val lb∧Own wr bq g 98 (.slice (some ⟨g,0,none⟩) M M) zs∧Below w.heap.size w wr)
  (fun i _=>n3-(intOf i).toNat)
 case atStart=>exact⟨0,List.replicate M 0#32,by omega,rfl,by simp,by rw[List.take_replicate,xp];simp[val],ja.out,fy.out⟩
 case round=>
  clear ja fy;obtain⟨k,zs,hk,rfl,yB,iB,ho,hb⟩:=hrel;have ja:=zH ho;have fy:=zH hb;have rH:=zH yB;have kF:=zH iB;clear ho hb yB iB;by_cases hlt:k<n3
  ·have hk3:(k:Int)<(n3:Int):=by omega
   obtain⟨b,o,x0,rfl,Bf,hx,e1⟩:=(HR.out.below fy.out hS).limb_at hlt;have hxg:(la.getD k 0#32).toNat=x0.toNat:=by rw[List.getD_eq_getElem?_getD,hx];rfl
   have nl:=x0.isLt;have hxw:IntKind.u64.wrap (x0.toNat:Int)=(x0.toNat:Int):=by rw[IntKind.wrap_u64];omega
   have HXG:=zH hxg;clear hxg hx;go_wp2_with fail;obtain⟨wd,rfl⟩:∃wd:World,wd=wr:=⟨_,rfl⟩;go_loopw [8,31] (fun cv j wr=>∃(q cr:Nat) (ts:List (BitVec 32)),q≤n4∧j=.int .i64 q∧cv=.int .u64 cr∧cr<4294967296∧ts.length=M∧ts.drop (k+q)=zs.drop (k+q)∧val (ts.take (k+q))+4294967296^(k+q)*cr=val (zs.take (k+q))+4294967296^k*(x0.toNat*val (lb.take q))∧Own wr bq g 98 (.slice (some ⟨g,0,none⟩) M M) ts∧Below w.heap.size w wr)
    (fun _ j _=>n4-(intOf j).toNat)
   case atStart=>exact⟨0,0,zs,by omega,rfl,rfl,by omega,rH.out,rfl,by simp[val],ja.out,fy.out⟩
   case round=>
    clear ja fy;obtain⟨q,cr,ts,hq,rfl,rfl,hcr,D1,hdr,UQ,ho,hb⟩:=hrel;have ot:=zH ho;have eP:=zH hb;have IE:=zH D1;have HDR:=zH hdr;have Vr:=zH UQ;clear ho hb D1 hdr UQ;by_cases jJ:q<n4
    ·have hq4:(q:Int)<(n4:Int):=by omega
     obtain⟨b2,o2,y0,rfl,ab9,hy,e2⟩:=(oM.out.below eP.out iC).limb_at jJ;have hyg:(lb.getD q 0#32).toNat=y0.toNat:=by rw[List.getD_eq_getElem?_getD,hy];rfl
     have Cu:=y0.isLt;have hyw:IntKind.u64.wrap (y0.toNat:Int)=(y0.toNat:Int):=by rw[IntKind.wrap_u64];omega
     have ag2:(k:Int)+(q:Int)=((k+q:Nat):Int):=by omega
     have Xg:k+q<M:=by have:=HM.out;omega
     obtain⟨fg,mY⟩:=ot.out.limb (k:=k+q) (by rw[IE.out];exact Xg);have Ba:(zs.getD (k+q) 0#32)=ts.getD (k+q) 0#32:=by
      have h1:=congrArg (·[0]?) HDR.out;simp only[List.getElem?_drop,Nat.add_zero] at h1;rw[List.getD_eq_getElem?_getD,List.getD_eq_getElem?_getD,h1]
     have e3:=bn zs (k+q);have e4:=bn lb q;rw[hyg] at e4;rw[Ba] at e3;obtain⟨z0,kr⟩:∃z0,ts.getD (k+q) 0#32=z0:=⟨_,rfl⟩;rw[kr] at fg e3;have agf:=z0.isLt;have hzw:IntKind.u64.wrap (z0.toNat:Int)=(z0.toNat:Int):=by rw[IntKind.wrap_u64];omega
     obtain⟨cI,bZ⟩:=JF nl Cu agf hcr;obtain⟨s,hs⟩:∃s,x0.toNat*y0.toNat+z0.toNat+cr=s:=⟨_,rfl⟩;have h3:=MP (B:=4294967296) (p:=4294967296^(k+q)) (pi:=4294967296^k) (pj:=4294967296^q) (by rw[Nat.pow_add]) hs Vr.out;rw[←e3,←e4] at h3;obtain⟨p,hp⟩:∃p,x0.toNat*y0.toNat=p:=⟨_,rfl⟩;have hpi:(x0.toNat:Int)*(y0.toNat:Int)=(p:Int):=by rw[←hp];exact(Int.natCast_mul _ _).symm
     rw[hp] at cI bZ hs;have nc:(p:Int)+(z0.toNat:Int)+(cr:Int)=(s:Int):=by omega
     have D2:(p:Int)+(z0.toNat:Int)<18446744073709551616:=by omega
     have hs3:s<18446744073709551616:=by omega
     have yC:=jg s;have Sj:(s:Int)/4294967296=((s/4294967296:Nat):Int):=rfl;obtain⟨z,hz⟩:∃z,BitVec.ofNat 32 s=z:=⟨_,rfl⟩;obtain⟨Tq,Oi⟩:∃Tq,s/4294967296=Tq:=⟨_,rfl⟩;have fA:=eE s;rw[hz] at yC fA;rw[Oi] at Sj h3;rw[←fA] at h3;have uh:Tq<4294967296:=by omega
     obtain⟨r,hr⟩:∃r,k+q=r:=⟨_,rfl⟩;rw[hr] at ag2 Xg fg mY;have hrM:(r:Int)<(M:Int):=by omega
     have HH3:=zH h3;have DU:=zH hr;clear hyg e3 e4 hs hp hz Oi fA kr Ba hy h3 hr bZ;go_wp2_with fail;go_roundw
     case rel=>
      have hkr:k+(q+1)=r+1:=by have:=DU.out;omega
      refine⟨q+1,Tq,ts.set r z,by omega,by go_num,rfl,uh,by rw[List.length_set];exact IE.out,?_,?_,ot.out.setLimb r z,eP.out.setCell (by have:=HG.out;simp;omega) _⟩
      ·rw[hkr,List.drop_set_of_lt (by omega),←DU.out,←List.drop_drop,HDR.out,List.drop_drop]
      ·rw[hkr,eQ z (by rw[IE.out];exact Xg),←DU.out,Nat.pow_succ];exact HH3.out
     case measure=>simp[intOf];omega
    ·have W7:q=n4:=by omega
     have hkM:(k:Int)+(n4:Int)=((k+n4:Nat):Int):=by omega
     obtain⟨r,hr⟩:∃r,k+n4=r:=⟨_,rfl⟩;have hrM:r<M:=by have:=HM.out;omega
     obtain⟨fg,mY⟩:=ot.out.limb (k:=r) (by rw[IE.out];exact hrM);have W4:(r:Int)<(M:Int):=by omega
     rw[hr] at hkM;have yC:=jg cr;obtain⟨z,hz⟩:∃z,BitVec.ofNat 32 cr=z:=⟨_,rfl⟩;have fA:=eE cr;rw[hz] at yC fA;have WM:z.toNat=cr:=by omega
     have oX:val ((ts.set r z).take (r+1))=val (la.take (k+1))*val lb:=by
      have h1:=Vr.out;rw[W7,hr,bI lb _ (by rw[Eb.out];exact Nat.le_refl _)] at h1;have h2:=kF.out;rw[hr] at h2;rw[h2] at h1;have h4:=bn la k;rw[HXG.out] at h4;rw[eQ z (by rw[IE.out];exact hrM),WM,h1,h4,Nat.add_mul,Nat.mul_assoc]
     have F1:=zH oX;have DU:=zH hr;clear oX W7 hr WM fA hz hcr;go_wp2_with fail;go_roundw
     case rel=>
      refine⟨k+1,ts.set r z,by omega,by go_num,by rw[List.length_set];exact IE.out,?_,ot.out.setLimb r z,eP.out.setCell (by have:=HG.out;simp;omega) _⟩;have hkr:k+1+n4=r+1:=by have:=DU.out;omega
      rw[hkr];exact F1.out
     case measure=>simp[intOf];omega
  ·have gM:k=n3:=by omega
   have et:val zs=val xs*val ys:=by
    have h1:=kF.out;rw[gM,bI _ _ (by rw[rH.out];have:=HM.out;omega),bI la _ (by rw[zi.out];exact Nat.le_refl _),xn.out,xm.out] at h1;exact h1
   have xg:=zH et;clear et gM;go_wp2_with fail;refine(j0 ja.out.rsAll (by omega)).mono ?_;rintro e w2 ⟨v,rfl,ho,hb⟩;rw[xg.out] at ho;have HO:=zH (ho.base_le fy.out.size);have HB:=zH (ak fy.out hb);clear ho hb;go_wp2_with fail;go_ret
   exact⟨_,rfl,HO.out,HB.out⟩
def DR (w:World) (v n d:Nat) (en:Ending) (w':World):Prop:=
 ∃(s:Value) (qs:List (BitVec 32)),en=.returned (.tuple #[s,.int .u64 ((v%d:Nat):Int)])∧Own w' bq w.heap.size 98 s qs∧val qs=v/d∧qs.length=n∧Below w.heap.size w w'
theorem V7 (a x:Nat) (ha:a<4294967296) (hx:x<4294967296):bits .or .u64 ((a:Int)*4294967296) (x:Int)=((a*4294967296+x:Nat):Int):=by
 have e:(a:Int)*4294967296=((a*4294967296:Nat):Int):=by omega
 rw[e,u64_or_nat _ _ (by omega) (by omega),BS _ _ hx]
theorem xU {S:Nat→Prop} {A:Option Addr} {n c:Nat} {xs:List (BitVec 32)} {w:World} (d:Nat) (h:RS w S A n c xs) (hS:∀b,S b→b<w.heap.size) (hn:n≤1073741824) (hd:0<d) (Qd:d<4294967296) : Calls Tryz.prog 130 #[.slice A n c,.int .u64 d] w (DR w (val xs) n d):=by
 obtain⟨i0,hi,kr,fu,iE⟩:=info_parts Tryz.u32Info;have HI:=zH hi;have pY:=zH kr;have ka:=zH fu;have k8:=zH iE;have H:=zH h;have HL:=zH h.len;clear h hi kr fu iE;go_enter Tryz.func130,Tryz.ntmps130;go_wp2_with (refine cf (α:=BitVec 32) _ rfl _ _ _ rfl rfl w.heap.size i0 (.int .u32 0) Tryz.underlying26 HI.out pY.out ka.out rfl .i64 .i64 (n:Int) (n:Int) n rfl rfl rfl rfl (by rw[k8.out];omega) (by unfold maxLen;omega) (Nat.le_refl _) 0#32 bq (fun _ h=>h.elim) (fun _ _=>rfl) ?_; intro w1 qf hg1; have ja:=zH qf; have fy:=zH ((Below.refl w.heap.size w).grown hg1 (Nat.le_refl _) (fun k hk=>by cases hk)); clear qf hg1);obtain⟨g,hg⟩:∃g,w.heap.size=g:=⟨_,rfl⟩;rw[hg] at ja;rw[hg];have HG:=zH hg;clear hg;go_loopw [7,8] (fun rv i wr=>∃(k r:Nat) (z:Int) (qs:List (BitVec 32)),k≤n∧i=.int .i64 z∧z+1=k∧rv=.int .u64 r∧r<d∧qs.length=n∧val (qs.drop k)*d+r=val (xs.drop k)∧Own wr bq g 98 (.slice (some ⟨g,0,none⟩) n n) qs∧Below w.heap.size w wr)
  (fun _ i _=>(intOf i+1).toNat)
 case atStart=>exact⟨n,0,(n:Int)-1,List.replicate n 0#32,Nat.le_refl _,rfl,by omega,rfl,hd,by simp,by rw[List.drop_eq_nil_of_le (by simp),List.drop_eq_nil_of_le (by rw[HL.out];exact Nat.le_refl _)];simp[val],ja.out,fy.out⟩
 case round=>
  clear ja fy;obtain⟨k,r,z,qs,hk,rfl,hz,rfl,hr,Bd,iB,ho,hb⟩:=hrel;have ja:=zH ho;have fy:=zH hb;have IG:=zH Bd;have kF:=zH iB;clear ho hb Bd iB;rcases k with _|k
  ·obtain rfl:z= -1:=by omega
   have Zi:=yS (kF.out) hr;rw[List.drop_zero,List.drop_zero] at Zi;have HD:=zH Zi;clear Zi hz;go_wp2_with fail;go_ret2
   exact⟨_,qs,by rw[←HD.out.2];rfl,by rw[HG.out];exact ja.out,HD.out.1,IG.out,fy.out⟩
  ·obtain rfl:z=k:=by omega
   have gM:(k:Int)<(n:Int):=by omega
   obtain⟨b,o,a,rfl,_,hx,e1⟩:=(H.out.below fy.out hS).limb_at (k:=k) (by omega);have hal:=a.isLt;have UI:=kG hx;obtain⟨fg,mY⟩:=ja.out.limb (k:=k) (by rw[IG.out];omega);obtain⟨x,nk⟩:∃x,r*4294967296+a.toNat=x:=⟨_,rfl⟩;have hs:=EE (B:=4294967296) nk kF.out;rw[←UI] at hs;have Bd:=L3 hr hal nk;have ly:=V7 r a.toNat (by omega) hal;rw[nk] at ly;have hxb:x<18446744073709551616:=by omega
   obtain⟨q,hq⟩:∃q,x/d=q:=⟨_,rfl⟩;obtain⟨r',jQ⟩:∃r',x%d=r':=⟨_,rfl⟩;have yE:r'<d:=by rw[←jQ];exact Nat.mod_lt _ hd
   rw[hq] at hs Bd;rw[jQ] at hs;have UJ:(x:Int).tdiv (d:Int)=(q:Int):=by rw[←hq];rfl
   have P7:(x:Int).tmod (d:Int)=(r':Int):=by rw[←jQ];rfl
   have abn:(x:Int)/(d:Int)=(q:Int):=by rw[←hq];rfl
   have abf:(x:Int)%(d:Int)=(r':Int):=by rw[←jQ];rfl
   have haw:IntKind.u64.wrap (a.toNat:Int)=(a.toNat:Int):=by rw[IntKind.wrap_u64];omega
   have yC:=jg q;obtain⟨zq,Ny⟩:∃z,BitVec.ofNat 32 q=z:=⟨_,rfl⟩;have fA:=eE q;rw[Ny] at yC fA;have qe:zq.toNat=q:=by omega
   have oX:val ((qs.set k zq).drop k)*d+r'=val (xs.drop k):=by
    rw[pe zq (by rw[IG.out];omega),val,qe];exact hs
   have hd0:((d:Int)==0)=false:=by rw[beq_eq_false_iff_ne];omega
   have F1:=zH oX;clear hs hx UI nk hq jQ Ny fA qe oX hz;go_wp2_with fail;go_roundw
   case rel=>exact⟨k,r',(k:Int)-1,qs.set k zq,by omega,by go_num,by omega,rfl,yE,by rw[List.length_set];exact IG.out,F1.out,ja.out.setLimb k zq,fy.out.setCell (by have:=HG.out;simp;omega) _⟩
   case measure=>simp[intOf]
end Go.Proofs.YtjlhbfbdcfajfaaGreatDoor
