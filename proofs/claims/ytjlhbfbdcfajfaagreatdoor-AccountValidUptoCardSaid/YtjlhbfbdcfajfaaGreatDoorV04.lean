/- Nat7 Nat8 Nat9 -/
import Derived.Test.YtjlhbfbdcfajfaaGreatDoorV03
import Derived.Outline
import Derived.Test.YtjlhbfbdcfajfaaGreatDoorV02
set_option maxHeartbeats 8000000
set_option maxRecDepth 100000
namespace Go.Proofs.YtjlhbfbdcfajfaaGreatDoor
open Go.RowKit
def Vm (w:World) (v n:Nat) (en:Ending) (w':World):Prop:=
 ∃(s:Value) (zs:List (BitVec 32)),en=.returned s∧Own w' bq w.heap.size 98 s zs∧val zs=v∧zs.length=n∧Below w.heap.size w w'
theorem wz (M k:Nat):(List.replicate M 0#32).getD k 0#32=0#32:=by
 rw[List.getD_eq_getElem?_getD,List.getElem?_replicate];split<;>rfl
theorem pd {l:List (BitVec 32)} {k:Nat} (z:BitVec 32) (h:k<l.length):(l.set k z).getD k 0#32=z:=by
 rw[List.getD_eq_getElem?_getD,List.getElem?_set_self h];rfl
theorem xt {l:List (BitVec 32)} {k:Nat} (z:BitVec 32):(l.set (k+1) z).take (k+1)=l.take (k+1):=by
 rw[List.take_set,List.set_eq_of_length_le (by simp;omega)]
theorem G9 {S:Nat→Prop} {A:Option Addr} {n c:Nat} {xs:List (BitVec 32)} {w:World} (sh:Nat) (h:RS w S A n c xs) (hS:∀b,S b→b<w.heap.size) (hn:n≤1073741824) (hs:sh<32) : Calls Tryz.prog 163 #[.slice A n c,.int .i64 sh] w (Vm w (val xs*2^sh) (n+1)):=by
 obtain⟨i0,hi,kr,fu,iE⟩:=info_parts Tryz.u32Info;have HI:=zH hi;have pY:=zH kr;have ka:=zH fu;have k8:=zH iE;have H:=zH h;have HL:=zH h.len;clear h hi kr fu iE;have Hq:(n:Int)+1=((n+1:Nat):Int):=by omega
 obtain⟨M,hM⟩:∃M,n+1=M:=⟨_,rfl⟩;rw[hM] at Hq;rw[hM];have hMb:M≤1073741825:=by omega
 have HM:=zH hM;clear hM;go_enter Tryz.func163,Tryz.ntmps163;go_wp2_with (refine cf (α:=BitVec 32) _ rfl _ _ _ rfl rfl w.heap.size i0 (.int .u32 0) Tryz.underlying26 HI.out pY.out ka.out rfl .i64 .i64 (M:Int) (M:Int) M rfl rfl rfl rfl (by rw[k8.out];omega) (by unfold maxLen;omega) (Nat.le_refl _) 0#32 bq (fun _ h=>h.elim) (fun _ _=>rfl) ?_; intro w1 qf hg1; have ja:=zH qf; have fy:=zH ((Below.refl w.heap.size w).grown hg1 (Nat.le_refl _) (fun k hk=>by cases hk)); clear qf hg1);obtain⟨g,hg⟩:∃g,w.heap.size=g:=⟨_,rfl⟩;rw[hg] at ja;rw[hg];have HG:=zH hg;clear hg Hq;go_loopw [15] (fun i wr=>∃(k:Nat) (zs:List (BitVec 32)),k≤n∧i=.int .i64 k∧zs.length=M∧(zs.getD k 0#32).toNat<2^sh∧val (zs.take k)+4294967296^k*(zs.getD k 0#32).toNat=val (xs.take k)*2^sh∧Own wr bq g 98 (.slice (some ⟨g,0,none⟩) M M) zs∧Below w.heap.size w wr)
  (fun i _=>n-(intOf i).toNat)
 case atStart=>
  have hp:=Nat.two_pow_pos sh;refine⟨0,List.replicate M 0#32,by omega,rfl,by simp,?_,?_,ja.out,fy.out⟩
  ·rw[wz];exact hp
  ·rw[wz];simp[val]
 case round=>
  clear ja fy;obtain⟨k,zs,hk,rfl,yB,uh,iB,ho,hb⟩:=hrel;have ja:=zH ho;have fy:=zH hb;have rH:=zH yB;have kF:=zH iB;have HCL:=zH uh;clear ho hb yB iB uh;by_cases hlt:k<n
  ·have gM:(k:Int)<(n:Int):=by omega
   have hkM:(k:Int)<(M:Int):=by have:=HM.out;omega
   have aoj:(k:Int)+1<(M:Int):=by have:=HM.out;omega
   obtain⟨b,o,x,rfl,_,hx,e1⟩:=(H.out.below fy.out hS).limb_at hlt;have nl:=x.isLt;obtain⟨fg,mY⟩:=ja.out.limb (k:=k) (by rw[rH.out];have:=HM.out;omega);obtain⟨c0,Om⟩:∃c0,zs.getD k 0#32=c0:=⟨_,rfl⟩;rw[Om] at fg kF HCL;obtain⟨v,hv⟩:∃v,x.toNat*2^sh=v:=⟨_,rfl⟩;have h2p:2^sh≤2^31:=Nat.pow_le_pow_right (by omega) (by omega);have hvb:v<18446744073709551616:=by
    have:x.toNat*2^sh≤4294967295*2^31:=Nat.mul_le_mul (by omega) h2p;omega
   have hvw:IntKind.u64.wrap ((x.toNat:Int)*2^sh)=(v:Int):=by
    have:(x.toNat:Int)*2^sh=(v:Int):=by rw[←hv,Int.natCast_mul,Int.natCast_pow];rfl
    rw[this,IntKind.wrap_u64];omega
   have hxw:IntKind.u64.wrap (x.toNat:Int)=(x.toNat:Int):=by rw[IntKind.wrap_u64];omega
   have h1:=jg v;obtain⟨z1,fu⟩:∃z,BitVec.ofNat 32 v=z:=⟨_,rfl⟩;have WP:=eE v;rw[fu] at h1 WP;have ly:=Qq c0 z1;obtain⟨z2,iE⟩:∃z,c0||| z1=z:=⟨_,rfl⟩;have aa4:z2.toNat=c0.toNat+v%4294967296:=by
    rw[←iE,BitVec.toNat_or,WP,←hv];exact RU HCL.out (by omega)
   rw[iE] at ly;have hvd:(v:Int)/4294967296=((v/4294967296:Nat):Int):=rfl;have h3:=jg (v/4294967296);obtain⟨z3,hz3⟩:∃z,BitVec.ofNat 32 (v/4294967296)=z:=⟨_,rfl⟩;have WN:=eE (v/4294967296);rw[hz3] at h3 WN;have hl3:v/4294967296<2^sh:=by rw[←hv];exact RV nl
   have WO:z3.toNat=v/4294967296:=by rw[WN,Nat.mod_eq_of_lt (by omega)]
   have eM:=left_step (B:=4294967296) (x:=x.toNat) kF.out;rw[hv] at eM;have UI:=lg hx;have J0:k<zs.length:=by rw[rH.out];have:=HM.out;omega
   have Xh:k+1<(zs.set k z2).length:=by rw[List.length_set,rH.out];have:=HM.out;omega
   have oX:val (((zs.set k z2).set (k+1) z3).take (k+1))+4294967296^(k+1)*(((zs.set k z2).set (k+1) z3).getD (k+1) 0#32).toNat=val (xs.take (k+1))*2^sh:=by
    rw[xt,eQ z2 J0,pd z3 Xh,aa4,WO,UI,Nat.pow_succ];exact eM
   have Fh:(((zs.set k z2).set (k+1) z3).getD (k+1) 0#32).toNat<2^sh:=by rw[pd z3 Xh,WO];exact hl3
   obtain⟨vd,aa6⟩:∃vd,v/4294967296=vd:=⟨_,rfl⟩;rw[aa6] at hvd h3;clear aa6;have hO2:=ja.out.setLimb k z2;obtain⟨aho,aoq⟩:=hO2.limb (k:=k+1) Xh;have hO3:=hO2.setLimb (k+1) z3;have DX:=zH hO3;have F1:=zH oX;have HNL:=zH Fh;clear hv h2p fu WP iE aa4 hz3 WN hl3 WO eM UI J0 oX Fh hO2 hO3 hx Om;go_wp2_with fail;go_roundw
   case rel=>
    refine⟨k+1,_,by omega,by go_num,by rw[List.length_set,List.length_set];exact rH.out,HNL.out,F1.out,DX.out,(fy.out.setCell (by have:=HG.out;simp;omega) _).setCell (by have:=HG.out;simp;omega) _⟩
   case measure=>simp[intOf];omega
  ·have gM:k=n:=by omega
   have et:val zs=val xs*2^sh:=by
    have h1:=kF.out;rw[gM,←bn,bI _ _ (by rw[rH.out];have:=HM.out;omega),bI xs _ (by rw[HL.out];exact Nat.le_refl _)] at h1;exact h1
   have xg:=zH et;clear et gM;go_wp2_with fail;go_ret
   exact⟨_,zs,rfl,by rw[HG.out];exact ja.out,xg.out,rH.out,fy.out⟩
theorem aax (x y:Nat) (hx:x<4294967296) (hy:y<4294967296):bits .or .u64 (x:Int) ((y:Int)*4294967296)=((x+4294967296*y:Nat):Int):=by
 have e:(y:Int)*4294967296=((y*4294967296:Nat):Int):=by omega
 rw[e,u64_or_nat _ _ (by omega) (by omega),Nat.or_comm,BS _ _ hx];congr 1;omega
theorem Mf {S:Nat→Prop} {A:Option Addr} {n c:Nat} {xs:List (BitVec 32)} {w:World} (sh:Nat) (h:RS w S A n c xs) (hS:∀b,S b→b<w.heap.size) (hn:n≤1073741824) (hs:sh<32) : Calls Tryz.prog 165 #[.slice A n c,.int .i64 sh] w (Vm w (val xs/2^sh) n):=by
 obtain⟨i0,hi,kr,fu,iE⟩:=info_parts Tryz.u32Info;have HI:=zH hi;have pY:=zH kr;have ka:=zH fu;have k8:=zH iE;have H:=zH h;have HL:=zH h.len;clear h hi kr fu iE;go_enter Tryz.func165,Tryz.ntmps165;go_wp2_with (refine cf (α:=BitVec 32) _ rfl _ _ _ rfl rfl w.heap.size i0 (.int .u32 0) Tryz.underlying26 HI.out pY.out ka.out rfl .i64 .i64 (n:Int) (n:Int) n rfl rfl rfl rfl (by rw[k8.out];omega) (by unfold maxLen;omega) (Nat.le_refl _) 0#32 bq (fun _ h=>h.elim) (fun _ _=>rfl) ?_; intro w1 qf hg1; have ja:=zH qf; have fy:=zH ((Below.refl w.heap.size w).grown hg1 (Nat.le_refl _) (fun k hk=>by cases hk)); clear qf hg1);obtain⟨g,hg⟩:∃g,w.heap.size=g:=⟨_,rfl⟩;rw[hg] at ja;rw[hg];have HG:=zH hg;clear hg;go_loopw [6,12] (fun _ i wr=>∃(k:Nat) (zs:List (BitVec 32)),k≤n∧i=.int .i64 k∧zs.length=n∧val (zs.take k)=val xs/2^sh%4294967296^k∧Own wr bq g 98 (.slice (some ⟨g,0,none⟩) n n) zs∧Below w.heap.size w wr)
  (fun _ i _=>n-(intOf i).toNat)
 case atStart=>exact⟨0,List.replicate n 0#32,by omega,rfl,by simp,by simp[val,Nat.mod_one],ja.out,fy.out⟩
 case round=>
  clear ja fy;obtain⟨k,zs,hk,rfl,yB,iB,ho,hb⟩:=hrel;have ja:=zH ho;have fy:=zH hb;have rH:=zH yB;have kF:=zH iB;clear ho hb yB iB;by_cases hlt:k<n
  ·have gM:(k:Int)<(n:Int):=by omega
   have eM:=right_step xs k sh (by omega);obtain⟨x,hx⟩:∃x,(xs.getD k 0#32).toNat=x:=⟨_,rfl⟩;obtain⟨y,hy⟩:∃y,(xs.getD (k+1) 0#32).toNat=y:=⟨_,rfl⟩;have nl:x<4294967296:=by rw[←hx];exact dT k
   have Cu:y<4294967296:=by rw[←hy];exact dT (k+1)
   rw[hx,hy] at eM;have ly:=aax x y nl Cu;obtain⟨s,D2⟩:∃s,x+4294967296*y=s:=⟨_,rfl⟩;rw[D2] at ly eM;have P6:s<18446744073709551616:=by omega
   obtain⟨t,ht⟩:∃t,s/2^sh=t:=⟨_,rfl⟩;have htd:(s:Int)/2^sh=(t:Int):=by rw[←ht,Int.natCast_ediv,Int.natCast_pow];rfl
   rw[ht] at eM;have h1:=jg t;obtain⟨z,hz⟩:∃z,BitVec.ofNat 32 t=z:=⟨_,rfl⟩;have qe:=eE t;rw[hz] at h1 qe;rw[←qe] at eM;obtain⟨fg,mY⟩:=ja.out.limb (k:=k) (by rw[rH.out];exact hlt);have oX:val ((zs.set k z).take (k+1))=val xs/2^sh%4294967296^(k+1):=by
    rw[eQ z (by rw[rH.out];exact hlt),kF.out,MU,eM]
   have tw:(k:Int)+1=((k+1:Nat):Int):=by omega
   obtain⟨k1,Xi⟩:∃k1,k+1=k1:=⟨_,rfl⟩;rw[Xi] at tw hy oX;have HX:=zH hx;have HY:=zH hy;have F1:=zH oX;have Uf:=zH Xi;clear eM hx hy D2 ht hz qe oX Xi;go_wp2_with fail;refine(kS k (H.out.below fy.out hS)).mono ?_;rintro e w' ⟨rfl,rfl⟩;rw[HX.out];go_wp2_with fail;refine(kS k1 (H.out.below fy.out hS)).mono ?_;rintro e w' ⟨rfl,rfl⟩;rw[HY.out];clear tw;go_wp2_with fail;go_roundw
   case rel=>
    exact⟨k+1,zs.set k z,by omega,by go_num,by rw[List.length_set];exact rH.out,by rw[Uf.out];exact F1.out,ja.out.setLimb k z,fy.out.setCell (by have:=HG.out;simp;omega) _⟩
   case measure=>simp[intOf];omega
  ·have gM:k=n:=by omega
   have et:val zs=val xs/2^sh:=by
    have h1:=kF.out;rw[gM,bI _ _ (by rw[rH.out];exact Nat.le_refl _),Nat.mod_eq_of_lt] at h1
    ·exact h1
    ·have h2:=ey xs;rw[HL.out] at h2;exact Nat.lt_of_le_of_lt (Nat.div_le_self _ _) h2
   have xg:=zH et;clear et gM;go_wp2_with fail;go_ret
   exact⟨_,zs,rfl,by rw[HG.out];exact ja.out,xg.out,rH.out,fy.out⟩
def PG (w:World) (U V:Nat) (e:Ending) (w':World):Prop:=∃q m:Nat,e=.returned (.int .u64 q)∧U/V≤q∧q≤U/V+1∧q<4294967296∧w'=w.drewN m
theorem aeV {us vs:List (BitVec 32)} {j n:Nat} (hn:2≤n) (hv:vs.length=n) (hu:j+n<us.length) : ∃P ul vl,0<P∧ul<P∧vl<P∧ val ((us.drop j).take (n+1))=P*((((us.getD (j+n) 0#32).toNat*4294967296+(us.getD (j+n-1) 0#32).toNat))*4294967296+(us.getD (j+n-2) 0#32).toNat)+ul∧ val vs=P*((vs.getD (n-1) 0#32).toNat*4294967296+(vs.getD (n-2) 0#32).toNat)+vl:=by
 refine⟨4294967296^(n-2),val ((us.drop j).take (n-2)),val (vs.take (n-2)),Nat.pow_pos (by omega),?_,?_,?_,?_⟩
 ·have:=ey ((us.drop j).take (n-2));rw[List.length_take,List.length_drop,Nat.min_eq_left (by omega)] at this;exact this
 ·have:=ey (vs.take (n-2));rw[List.length_take,Nat.min_eq_left (by omega)] at this;exact this
 ·have hg:∀i,((us.drop j).getD i 0#32)=us.getD (j+i) 0#32:=by
   intro i;rw[List.getD_eq_getElem?_getD,List.getD_eq_getElem?_getD,List.getElem?_drop]
  have e1:=bn (us.drop j) n;have e2:=bn (us.drop j) (n-1);have e3:=bn (us.drop j) (n-2);rw[hg] at e1 e2 e3;have f1:n-1+1=n:=by omega
  have f2:n-2+1=n-1:=by omega
  have f3:j+(n-1)=j+n-1:=by omega
  have f4:j+(n-2)=j+n-2:=by omega
  rw[f1,f3] at e2;rw[f2,f4] at e3;have p1:4294967296^n=4294967296^(n-2)*4294967296*4294967296:=by rw[←Nat.pow_succ,←Nat.pow_succ];congr 1;omega
  have p2:4294967296^(n-1)=4294967296^(n-2)*4294967296:=by rw[←Nat.pow_succ];congr 1;omega
  rw[e1,e2,e3,p1,p2]
  grind
 ·have e2:=bn vs (n-1);have e3:=bn vs (n-2);have f1:n-1+1=n:=by omega
  have f2:n-2+1=n-1:=by omega
  rw[f1,bI vs n (by omega)] at e2;rw[f2] at e3;have p2:4294967296^(n-1)=4294967296^(n-2)*4294967296:=by rw[←Nat.pow_succ];congr 1;omega
  rw[e2,e3,p2]
  grind
theorem RS.limbD {w:World} {S:Nat→Prop} {A:Option Addr} {n c:Nat} {xs:List (BitVec 32)} (h:RS w S A n c xs) {k:Nat} (hk:k<n):∃b o,A=some ⟨b,o,none⟩∧w.cell? ⟨b,o+k,none⟩=some (.int .u32 ((xs.getD k 0#32).toNat:Int)):=by
 obtain⟨b,o,x,rfl,_,hx,e⟩:=h.limb_at hk;exact⟨b,o,rfl,by rw[List.getD_eq_getElem?_getD,hx];exact e⟩
theorem Ox {Su Sv:Nat→Prop} {Au Av:Option Addr} {nu cu n cv:Nat} {us vs:List (BitVec 32)} {w:World} (j:Nat) (hu:RS w Su Au nu cu us) (hv:RS w Sv Av n cv vs) (hn:2≤n) (hj:j+n<nu) (hnu:nu≤2147483648) (hh:2147483648≤(vs.getD (n-1) 0#32).toNat) (hlt:val ((us.drop j).take (n+1))<val vs*4294967296) : Calls Tryz.prog 188 #[.slice Au nu cu,.slice Av n cv,.int .i64 j] w (PG w (val ((us.drop j).take (n+1))) (val vs)):=by
 obtain⟨P,ul,vl,hP,P3,Bc,eU,eV⟩:=aeV (us:=us) (vs:=vs) (j:=j) hn hv.len (by rw[hu.len];exact hj);obtain⟨bu,ou,rfl,c1⟩:=hu.limbD (k:=j+n) hj;obtain⟨bu',ou',ni,c2⟩:=hu.limbD (k:=j+n-1) (by omega);obtain⟨rfl,rfl⟩:bu=bu'∧ou=ou':=by injection ni with ni;injection ni with h1 h2;exact⟨h1,h2⟩
 obtain⟨bu',ou',ni,c3⟩:=hu.limbD (k:=j+n-2) (by omega);obtain⟨rfl,rfl⟩:bu=bu'∧ou=ou':=by injection ni with ni;injection ni with h1 h2;exact⟨h1,h2⟩
 obtain⟨bv,ov,rfl,c4⟩:=hv.limbD (k:=n-1) (by omega);obtain⟨bv',ov',ni,c5⟩:=hv.limbD (k:=n-2) (by omega);obtain⟨rfl,rfl⟩:bv=bv'∧ov=ov':=by injection ni with ni;injection ni with h1 h2;exact⟨h1,h2⟩
 have l1:=dT (l:=us) (j+n);have l2:=dT (l:=us) (j+n-1);have l3:=dT (l:=us) (j+n-2);have l4:=dT (l:=vs) (n-1);have l5:=dT (l:=vs) (n-2);obtain⟨U,hU⟩:∃U,val ((us.drop j).take (n+1))=U:=⟨_,rfl⟩;obtain⟨V,hV⟩:∃V,val vs=V:=⟨_,rfl⟩;obtain⟨u0,h0⟩:∃u0,(us.getD (j+n) 0#32).toNat=u0:=⟨_,rfl⟩;obtain⟨u1,h1⟩:∃u1,(us.getD (j+n-1) 0#32).toNat=u1:=⟨_,rfl⟩;obtain⟨u2,h2⟩:∃u2,(us.getD (j+n-2) 0#32).toNat=u2:=⟨_,rfl⟩;obtain⟨h,h3⟩:∃h,(vs.getD (n-1) 0#32).toNat=h:=⟨_,rfl⟩;obtain⟨v2,h4⟩:∃v2,(vs.getD (n-2) 0#32).toNat=v2:=⟨_,rfl⟩;rw[hU,hV] at hlt;rw[hU,h0,h1,h2] at eU;rw[hV,h3,h4] at eV;rw[h0] at c1 l1;rw[h1] at c2 l2;rw[h2] at c3 l3;rw[h3] at c4 l4 hh;rw[h4] at c5 l5;rw[hU,hV];obtain⟨T,hT⟩:∃T,u0*4294967296+u1=T:=⟨_,rfl⟩;have ly:=V7 u0 u1 l1 l2;rw[hT] at ly eU;have hTb:T<18446744073709551616:=by omega
 have hTt:=J6 eU eV Bc l5 hlt;have Fl:=CI eU P3 l3 eV (by omega);have hcu:=hu.cap;have Qe:=hv.cap;have EU:=zH eU;have EV:=zH eV;have Ea:=zH hTt;have HUL:=zH P3;have HVL:=zH Bc;obtain⟨a,ha⟩:∃a,j+n=a:=⟨_,rfl⟩;obtain⟨b,hb⟩:∃b,j+n-1=b:=⟨_,rfl⟩;obtain⟨c,hc⟩:∃c,j+n-2=c:=⟨_,rfl⟩;obtain⟨d,hd⟩:∃d,n-1=d:=⟨_,rfl⟩;obtain⟨f,hf⟩:∃f,n-2=f:=⟨_,rfl⟩;rw[ha] at c1;rw[hb] at c2;rw[hc] at c3;rw[hd] at c4;rw[hf] at c5;have i1:(j:Int)+(n:Int)=(a:Int):=by omega
 have i2:(a:Int)-1=(b:Int):=by omega
 have i3:(a:Int)-2=(c:Int):=by omega
 have i4:(n:Int)-1=(d:Int):=by omega
 have i5:(n:Int)-2=(f:Int):=by omega
 have k1:(a:Int)<(nu:Int):=by omega
 have k2:(b:Int)<(nu:Int):=by omega
 have k3:(c:Int)<(nu:Int):=by omega
 have k4:(d:Int)<(n:Int):=by omega
 have k5:(f:Int)<(n:Int):=by omega
 have wa:IntKind.i64.wrap (a:Int)=(a:Int):=by rw[IntKind.wrap_i64];omega
 have wb:IntKind.i64.wrap (b:Int)=(b:Int):=by rw[IntKind.wrap_i64];omega
 have wc:IntKind.i64.wrap (c:Int)=(c:Int):=by rw[IntKind.wrap_i64];omega
 have w0:IntKind.u64.wrap (u0:Int)=(u0:Int):=by rw[IntKind.wrap_u64];omega
 have w1:IntKind.u64.wrap (u1:Int)=(u1:Int):=by rw[IntKind.wrap_u64];omega
 have w2:IntKind.u64.wrap (u2:Int)=(u2:Int):=by rw[IntKind.wrap_u64];omega
 have w3:IntKind.u64.wrap (h:Int)=(h:Int):=by rw[IntKind.wrap_u64];omega
 have w4:IntKind.u64.wrap (v2:Int)=(v2:Int):=by rw[IntKind.wrap_u64];omega
 have w5:IntKind.u64.wrap ((u0:Int)*4294967296)=(u0:Int)*4294967296:=by rw[IntKind.wrap_u64];omega
 have hu0:((h:Int)==0)=false:=by rw[beq_eq_false_iff_ne];omega
 obtain⟨q0,NL⟩:∃q,T/h=q:=⟨_,rfl⟩;obtain⟨r0,D3⟩:∃r,T%h=r:=⟨_,rfl⟩;have D4:q0*h+r0=T:=by rw[←NL,←D3,Nat.mul_comm];exact Nat.div_add_mod T h
 have abk:r0<4294967296:=by have:=Nat.mod_lt T (show 0<h by omega);omega
 have abp:q0<18446744073709551616:=by have:=Nat.div_le_self T h;omega
 rw[NL] at Fl;have UJ:(T:Int).tdiv (h:Int)=(q0:Int):=by rw[←NL];rfl
 have P7:(T:Int).tmod (h:Int)=(r0:Int):=by rw[←D3];rfl
 have abn:(T:Int)/(h:Int)=(q0:Int):=by rw[←NL];rfl
 have abf:(T:Int)%(h:Int)=(r0:Int):=by rw[←D3];rfl
 have wq:IntKind.u64.wrap (q0:Int)=(q0:Int):=by rw[IntKind.wrap_u64];omega
 have wr0:IntKind.u64.wrap (r0:Int)=(r0:Int):=by rw[IntKind.wrap_u64];omega
 have HFI:=zH Fl;have HQR:=zH D4;have HUB:Hid (U/V<4294967296):=zH (Nat.div_lt_of_lt_mul hlt);clear eU eV hTt P3 Bc Fl ha hb hc hd hf h0 h1 h2 h3 h4 hU hV hT hlt hu hv hP NL D3 D4;go_enter Tryz.func188,Tryz.ntmps188;go_wp2_with fail;go_quiet (fail)
 go_wp2_with fail;go_quiet (fail)
 go_wp2_with fail;go_loopw [10,11] (fun qv rv wr=>∃(q r m:Nat),qv=.int .u64 q∧rv=.int .u64 r∧q*h+r=T∧U/V≤q∧r<4294967296∧q<18446744073709551616∧wr=w.drewN m)
  (fun qv _ _=>(intOf qv).toNat)
 case atStart=>exact⟨q0,r0,_,rfl,rfl,HQR.out,HFI.out,abk,abp,World.drewN_drewN _ _ _⟩
 case round=>
  clear wq wr0 UJ abn P7 abf ly HQR HFI abk abp;obtain⟨q,r,m,rfl,rfl,D4,nr,hr,hq,rfl⟩:=hrel;have HQR:=zH D4;have Bj:=zH nr;have wh:IntKind.u64.wrap ((r:Int)+(h:Int))=(r:Int)+(h:Int):=by rw[IntKind.wrap_u64];omega
  by_cases hB:4294967296≤q
  ·have hB':(4294967296:Int)≤(q:Int):=by omega
   have wq1:IntKind.u64.wrap ((q:Int)-1)=(q:Int)-1:=by rw[IntKind.wrap_u64];omega
   have P8:1≤q:=by omega
   have Fe:(q-1)*h+(r+h)=T:=by
    have e:q=q-1+1:=by omega
    rw[e,Nat.add_mul] at D4;omega
   have Fj:U/V≤q-1:=by have:=HUB.out;omega
   have AX:=zH Fe;have F3:=zH Fj;obtain⟨q',KW⟩:∃x,q-1=x:=⟨_,rfl⟩;obtain⟨r',jQ⟩:∃x,r+h=x:=⟨_,rfl⟩;rw[KW,jQ] at AX;rw[KW] at F3;have iq:(q:Int)-1=(q':Int):=by omega
   have ir:(r:Int)+(h:Int)=(r':Int):=by omega
   rw[iq] at wq1;rw[ir] at wh;by_cases hR:4294967296≤r'
   ·have hR':(4294967296:Int)≤(r':Int):=by omega
    have JW:=wy (u2:=u2) AX.out Ea.out hR l5;have Hu:=pU EU.out EV.out HVL.out (by omega) AX.out JW.1 JW.2;have et:Hid (U/V≤q'∧q'≤U/V+1∧q'<4294967296):=zH ⟨F3.out,Hu,JW.1⟩;clear D4 nr Fe Fj JW Hu KW jQ hR hB;go_wp2_with fail;go_quiet (fail)
    go_wp2_with fail;go_ret
    exact⟨q',_,rfl,et.out.1,et.out.2.1,et.out.2.2,rfl⟩
   ·have hR':(r':Int)<(4294967296:Int):=by omega
    have hR2:¬((4294967296:Int)≤(r':Int)):=by omega
    have hR3:decide ((4294967296:Int)≤(r':Int))=false:=decide_eq_false hR2;have yE:r'<4294967296:=by omega
    have Bd:q'<18446744073709551616:=by omega
    have UJ:q'<q:=by omega
    clear D4 nr Fe Fj hB KW jQ hR;go_wp2_with fail;go_quiet (fail)
    go_wp2_with fail;go_roundw
    case rel=>exact⟨q',r',_,rfl,rfl,AX.out,F3.out,yE,Bd,rfl⟩
    case measure=>simp[intOf];omega
  ·have hB':(q:Int)<(4294967296:Int):=by omega
   have hB2:¬((4294967296:Int)≤(q:Int)):=by omega
   have hB3:decide ((4294967296:Int)≤(q:Int))=false:=decide_eq_false hB2;obtain⟨p,hp⟩:∃p,q*v2=p:=⟨_,rfl⟩;obtain⟨s,hs⟩:∃s,r*4294967296+u2=s:=⟨_,rfl⟩;have xD:p≤4294967295*4294967295:=by rw[←hp];exact Nat.mul_le_mul (by omega) (by omega)
   have ip:(q:Int)*(v2:Int)=(p:Int):=by rw[←hp];omega
   have wp':IntKind.u64.wrap (p:Int)=(p:Int):=by rw[IntKind.wrap_u64];omega
   have wr':IntKind.u64.wrap ((r:Int)*4294967296)=(r:Int)*4294967296:=by rw[IntKind.wrap_u64];omega
   have agP:=V7 r u2 hr l3;rw[hs] at agP;by_cases hps:s<p
   ·have hbig:=J7 EU.out HUL.out EV.out D4 (by rw[hs,hp];exact hps);have agL:(s:Int)<(p:Int):=by omega
    have P8:1≤q:=Nat.lt_of_le_of_lt (Nat.zero_le _) hbig;have wq1:IntKind.u64.wrap ((q:Int)-1)=(q:Int)-1:=by rw[IntKind.wrap_u64];omega
    have Fe:(q-1)*h+(r+h)=T:=by
     have e:q=q-1+1:=by omega
     rw[e,Nat.add_mul] at D4;omega
    have Fj:U/V≤q-1:=Nat.le_sub_one_of_lt hbig;have AX:=zH Fe;have F3:=zH Fj;obtain⟨q',KW⟩:∃x,q-1=x:=⟨_,rfl⟩;obtain⟨r',jQ⟩:∃x,r+h=x:=⟨_,rfl⟩;rw[KW,jQ] at AX;rw[KW] at F3;have iq:(q:Int)-1=(q':Int):=by omega
    have ir:(r:Int)+(h:Int)=(r':Int):=by omega
    rw[iq] at wq1;rw[ir] at wh;by_cases hR:4294967296≤r'
    ·have hR':(4294967296:Int)≤(r':Int):=by omega
     have JW:=wy (u2:=u2) AX.out Ea.out hR l5;have Hu:=pU EU.out EV.out HVL.out (by omega) AX.out JW.1 JW.2;have et:Hid (U/V≤q'∧q'≤U/V+1∧q'<4294967296):=zH ⟨F3.out,Hu,JW.1⟩;clear D4 nr Fe Fj JW Hu KW jQ hR hB hp hs hps xD hbig;go_wp2_with fail;go_quiet (fail)
     go_wp2_with fail;go_ret
     exact⟨q',_,rfl,et.out.1,et.out.2.1,et.out.2.2,rfl⟩
    ·have hR':(r':Int)<(4294967296:Int):=by omega
     have hR2:¬((4294967296:Int)≤(r':Int)):=by omega
     have hR3:decide ((4294967296:Int)≤(r':Int))=false:=decide_eq_false hR2;have yE:r'<4294967296:=by omega
     have Bd:q'<18446744073709551616:=by omega
     have UJ:q'<q:=by omega
     clear D4 nr Fe Fj hB KW jQ hR hp hs hps xD hbig;go_wp2_with fail;go_quiet (fail)
     go_wp2_with fail;go_roundw
     case rel=>exact⟨q',r',_,rfl,rfl,AX.out,F3.out,yE,Bd,rfl⟩
     case measure=>simp[intOf];omega
   ·have agL:(p:Int)≤(s:Int):=by omega
    have agK:¬((s:Int)<(p:Int)):=by omega
    have anS:decide ((s:Int)<(p:Int))=false:=decide_eq_false agK;have anR:decide (s<p)=false:=decide_eq_false hps;have Hu:=pU EU.out EV.out HVL.out (by omega) D4 (by omega) (by rw[hs,hp];omega);have et:Hid (U/V≤q∧q≤U/V+1∧q<4294967296):=zH ⟨nr,Hu,by omega⟩;clear D4 nr Hu hB hp hs hps xD;go_wp2_with fail;go_quiet (fail)
    go_wp2_with fail;go_ret
    exact⟨q,_,rfl,et.out.1,et.out.2.1,et.out.2.2,World.drewN_drewN _ _ _⟩
def TX (w:World) (bs gu nu cu U V m:Nat) (e:Ending) (w':World):Prop:=
 ∃(s:Value) (qs rs:List (BitVec 32)),e=.returned s∧Own w' bq w.heap.size 98 s qs∧val qs=U/V∧qs.length=m∧
  Own w' bq bs 98 (.slice (some ⟨gu,0,none⟩) nu cu) rs∧val rs=U%V∧rs.length=nu∧Below bs w w'
theorem TM (p:Nat) (hp:p<18446744073709551616):bits .and .u64 (p:Int) 4294967295=((p%4294967296:Nat):Int):=by
 have h:=bits_and_u64_nat p 4294967295 hp (by omega);have e:p&&& 4294967295=p%4294967296:=Nat.and_two_pow_sub_one_eq_mod p 32;rw[e] at h;exact h
theorem vJ {n V:Nat} {us ts xs qs:List (BitVec 32)} {j q:Nat} {z:BitVec 32} (hj:j+(n+1)≤ts.length) (hV:V<4294967296^n) (Sq:val (ts.drop (j+1))<V) (bM:xs.length=ts.length) (h1:xs.take j=ts.take j) (h2:xs.drop (j+(n+1))=ts.drop (j+(n+1))) (hw:val ((xs.drop j).take (n+1))=val ((ts.drop j).take (n+1))%V) (hq:q=val ((ts.drop j).take (n+1))/V) (hz:z.toNat=q) (hjq:j<qs.length) (iB:val us=val ts+V*(4294967296^(j+1)*val (qs.drop (j+1)))):val us=val xs+V*(4294967296^j*val ((qs.set j z).drop j))∧val (xs.drop j)<V:=by
 obtain⟨_,h3,h4⟩:=E3 hj hV Sq bM h1 h2 hw;refine⟨?_,h3⟩;rw[pe z hjq,val,hz,iB,h4,←hq,Nat.pow_succ]
 grind
theorem Rv {S:Nat→Prop} {Av:Option Addr} {bs gu nu cu n cv:Nat} {us vs:List (BitVec 32)} {w:World} (hu:Own w bq bs 98 (.slice (some ⟨gu,0,none⟩) nu cu) us) (hv:RS w S Av n cv vs) (hS:∀b,S b→b<w.heap.size∧b≠gu) (hn:2≤n) (hnu:n<nu) (abB:nu≤1073741825) (hh:2147483648≤(vs.getD (n-1) 0#32).toNat) (WW:val (us.drop (nu-n))<val vs) : Calls Tryz.prog 164 #[.slice (some ⟨gu,0,none⟩) nu cu,.slice Av n cv] w (TX w bs gu nu cu (val us) (val vs) (nu-n)):=by
 obtain⟨i0,hi,kr,fu,iE⟩:=info_parts Tryz.u32Info;have HI:=zH hi;have pY:=zH kr;have ka:=zH fu;have k8:=zH iE;have HU:=zH hu;have HV:=zH hv;have HUL:=zH hu.rsAll.len;have HSS:=zH hS;have HH:=zH hh;have Sw:bs≤gu∧gu<w.heap.size:=hu.lt gu rfl;obtain⟨m,hm⟩:∃m,nu-n=m:=⟨_,rfl⟩;rw[hm] at WW;rw[hm];have HT:=zH WW;have Hq:(nu:Int)-(n:Int)=(m:Int):=by omega
 have hmb:m≤1073741825:=by omega
 have hm0:1≤m:=by omega
 have wm:IntKind.i64.wrap (m:Int)=(m:Int):=by rw[IntKind.wrap_i64];omega
 obtain⟨V,hV⟩:∃V,val vs=V:=⟨_,rfl⟩;rw[hV] at HT;rw[hV];have YH:=zH hV;clear hu hv hh WW hi kr fu iE hV hS;go_enter Tryz.func164,Tryz.ntmps164;go_wp2_with (refine cf (α:=BitVec 32) _ rfl _ _ _ rfl rfl w.heap.size i0 (.int .u32 0) Tryz.underlying26 HI.out pY.out ka.out rfl .i64 .i64 (m:Int) (m:Int) m rfl rfl rfl rfl (by rw[k8.out];omega) (by unfold maxLen;omega) (Nat.le_refl _) 0#32 bq (fun _ h=>h.elim) (fun _ _=>rfl) ?_; intro w1 qf hg1; have ja:=zH qf; have fy:=zH ((Below.refl w.heap.size w).grown hg1 (Nat.le_refl _) (fun k hk=>by cases hk)); clear qf hg1);obtain⟨g,hg⟩:∃g,w.heap.size=g:=⟨_,rfl⟩;rw[hg] at ja Sw;have HG:=zH hg;have eP:Hid (Below bs w w1):=zH (fy.out.mono (by rw[hg];omega));have HU1:=zH (HU.out.below fy.out);have Uf:Hid (aA S w w1):=zH ((aA.of_below fy.out).sub fun b hb=>(HSS.out b hb).1);clear hg;go_loopw [7] (fun jv wr=>∃(k:Nat) (z:Int) (ts qs:List (BitVec 32)),k≤m∧jv=.int .i64 z∧z+1=k∧ts.length=nu∧qs.length=m∧val us=val ts+V*(4294967296^k*val (qs.drop k))∧val (ts.drop k)<V∧ Own wr bq bs 98 (.slice (some ⟨gu,0,none⟩) nu cu) ts∧Own wr bq g 98 (.slice (some ⟨g,0,none⟩) m m) qs∧aA S w wr∧Below bs w wr)
  (fun jv _=>(intOf jv+1).toNat)
 case atStart=>
  exact⟨m,(m:Int)-1,us,List.replicate m 0#32,Nat.le_refl _,rfl,by omega,HUL.out,by simp,by rw[List.drop_eq_nil_of_le (by simp)];simp[val],HT.out,HU1.out,ja.out,Uf.out,eP.out⟩
 case round=>
  clear ja fy eP HU1 Uf HU;obtain⟨k,z,ts,qs,hk,rfl,hz,D1,Bd,iB,Sq,JX,xE,bS,pR⟩:=hrel;have IE:=zH D1;have IG:=zH Bd;have kF:=zH iB;have PN:=zH Sq;have DV:=zH JX;have Bi:=zH xE;have HK:=zH bS;have HB:=zH pR;have YI:=zH (HV.out.keep (fun b hb=>hb) bS);clear D1 Bd iB Sq JX xE bS pR;rcases k with _|j
  ·obtain rfl:z= -1:=by omega
   have et:val qs=val us/V∧val ts=val us%V:=by
    have h1:=kF.out;have h2:=PN.out;rw[List.drop_zero] at h1 h2;rw[Nat.pow_zero,Nat.one_mul] at h1;exact yS (by rw[Nat.mul_comm,h1];omega) h2
   have HF:=zH et;clear et hz;go_wp2_with fail;go_ret
   exact⟨_,qs,ts,rfl,by rw[HG.out];exact Bi.out,HF.out.1,IG.out,DV.out,HF.out.2,IE.out,HB.out⟩
  ·obtain rfl:z=j:=by omega
   have hjn:j+(n+1)≤nu:=by omega
   have JU:=Vx (n:=n) (by rw[IE.out];exact hjn) PN.out;have HWL:=zH JU;clear JU hz;go_wp2_with fail;refine(Ox j DV.out.rsAll YI.out hn (by omega) (by omega) HH.out (by rw[YH.out];exact HWL.out)).mono ?_;rintro e w' ⟨q,mm,rfl,nr,ug,hqB,rfl⟩;rw[YH.out] at nr ug;have Bj:=zH nr;have HHI:=zH ug;have PM:=zH (DV.out.drewN mm);have YM:=zH (Bi.out.drewN mm);have PO:Hid (aA S w (wr.drewN mm)):=zH HK.out;have eP:=zH (below_drewN HB.out mm);obtain⟨wd,Cv⟩:∃x,wr.drewN mm=x:=⟨_,rfl⟩;rw[Cv] at PM YM PO eP;rw[Cv];clear nr ug Cv DV Bi HK HB YI;obtain⟨N,hN⟩:∃N,n+1=N:=⟨_,rfl⟩;have hN1:(n:Int)+1=(N:Int):=by omega
   have wN:IntKind.i64.wrap (N:Int)=(N:Int):=by rw[IntKind.wrap_i64];omega
   go_wp2_with fail;go_loopw [9,10,38] (fun bv cv iv wr=>∃(b c i:Nat) (xs:List (BitVec 32)),i≤N∧iv=.int .i64 i∧bv=.int .u64 b∧cv=.int .u64 c∧b≤1∧c<4294967296∧(n<i→c=0)∧xs.length=nu∧xs.take j=ts.take j∧xs.drop (j+i)=ts.drop (j+i)∧ val ((xs.drop j).take i)+q*val (vs.take i)=val ((ts.drop j).take i)+4294967296^i*(c+b)∧ Own wr bq bs 98 (.slice (some ⟨gu,0,none⟩) nu cu) xs∧Own wr bq g 98 (.slice (some ⟨g,0,none⟩) m m) qs∧aA S w wr∧Below bs w wr)
    (fun _ _ iv _=>N-(intOf iv).toNat)
   case atStart=>exact⟨0,0,0,ts,Nat.zero_le _,rfl,rfl,rfl,Nat.zero_le _,by omega,by omega,IE.out,rfl,rfl,by simp[val],PM.out,YM.out,PO.out,eP.out⟩
   case round=>
    clear PM YM PO eP;obtain⟨b,c,i,xs,hi,rfl,rfl,rfl,hb,hc,hcn,nl,hxt,WR,iB,JX,xE,bS,pR⟩:=hrel;have YE:=zH nl;have HXT:=zH hxt;have HXD:=zH WR;have Vq:=zH iB;have DV:=zH JX;have Bi:=zH xE;have HK:=zH bS;have HB:=zH pR;have HCN:=zH hcn;have YI:Hid (RS wr S Av n cv vs):=zH (HV.out.keep (fun b hb=>hb) bS);clear nl hxt WR iB JX xE bS pR hcn;by_cases hlt:i<N
    ·have N3:(i:Int)<(N:Int):=by omega
     have NY:j+i<nu:=by omega
     obtain⟨y,hy⟩:∃y,(vs.getD i 0#32).toNat=y:=⟨_,rfl⟩;obtain⟨x,hx⟩:∃x,(xs.getD (j+i) 0#32).toNat=x:=⟨_,rfl⟩;have Cu:y<4294967296:=by rw[←hy];exact(vs.getD i 0#32).isLt
     have nl:x<4294967296:=by rw[←hx];exact(xs.getD (j+i) 0#32).isLt
     obtain⟨fg,mY⟩:=DV.out.limb (k:=j+i) (by rw[YE.out];exact NY);rw[hx] at fg;obtain⟨p0,Hp⟩:∃p,q*y=p:=⟨_,rfl⟩;have anY:p0≤4294967295*4294967295:=by rw[←Hp];exact Nat.mul_le_mul (by omega) (by omega)
     have an0:(q:Int)*(y:Int)=(p0:Int):=by rw[←Hp];exact(Int.natCast_mul _ _).symm
     obtain⟨p,hp⟩:∃p,p0+c=p:=⟨_,rfl⟩;have hpi:(p0:Int)+(c:Int)=(p:Int):=by omega
     have xD:p<18446744073709551616:=by omega
     have wp0:IntKind.u64.wrap (p0:Int)=(p0:Int):=by rw[IntKind.wrap_u64];omega
     have wp1:IntKind.u64.wrap (p:Int)=(p:Int):=by rw[IntKind.wrap_u64];omega
     obtain⟨c',On⟩:∃c',p/4294967296=c':=⟨_,rfl⟩;have hcd:(p:Int)/4294967296=(c':Int):=by rw[←On];rfl
     have ahr:c'<4294967296:=by omega
     have hand:=TM p xD;obtain⟨pm,hpm⟩:∃z,p%4294967296=z:=⟨_,rfl⟩;rw[hpm] at hand;have anU:pm<4294967296:=by omega
     obtain⟨s,hs⟩:∃s,4294967296+x-pm-b=s:=⟨_,rfl⟩;obtain⟨s1,nc⟩:∃s,4294967296+x=s:=⟨_,rfl⟩;obtain⟨s2,D2⟩:∃s,s1-pm=s:=⟨_,rfl⟩;have agC:(4294967296:Int)+(x:Int)=(s1:Int):=by omega
     have anN:(s1:Int)-(pm:Int)=(s2:Int):=by omega
     have hsi:(s2:Int)-(b:Int)=(s:Int):=by omega
     have ws1:IntKind.u64.wrap (s1:Int)=(s1:Int):=by rw[IntKind.wrap_u64];omega
     have ws2:IntKind.u64.wrap (s2:Int)=(s2:Int):=by rw[IntKind.wrap_u64];omega
     have ws:IntKind.u64.wrap (s:Int)=(s:Int):=by rw[IntKind.wrap_u64];omega
     have wx:IntKind.u64.wrap (x:Int)=(x:Int):=by rw[IntKind.wrap_u64];omega
     obtain⟨d,hd⟩:∃d,s/4294967296=d:=⟨_,rfl⟩;have Sj:(s:Int)/4294967296=(d:Int):=by rw[←hd];rfl
     have UV:d≤1:=by omega
     obtain⟨b',ni⟩:∃b',1-d=b':=⟨_,rfl⟩;have hbi:(1:Int)-(d:Int)=(b':Int):=by omega
     have wb:IntKind.u64.wrap (b':Int)=(b':Int):=by rw[IntKind.wrap_u64];omega
     have yC:=jg s;obtain⟨t,ht⟩:∃t,BitVec.ofNat 32 s=t:=⟨_,rfl⟩;have P4:=eE s;rw[ht] at yC P4;obtain⟨k,nY⟩:∃k,j+i=k:=⟨_,rfl⟩;have hki:(i:Int)+(j:Int)=(k:Int):=by omega
     have wk:IntKind.i64.wrap (k:Int)=(k:Int):=by rw[IntKind.wrap_i64];omega
     have gM:(k:Int)<(nu:Int):=by omega
     have hw:=Ga t (by rw[YE.out];exact NY) HXT.out HXD.out;have e1:=bn (ts.drop j) i;have e2:=bn vs i;have eM:=JG (B:=4294967296) rfl nl (show q*y+c=p by rw[Hp];exact hp) (show 4294967296+x-p%4294967296-b=s by rw[hpm];exact hs) hb Vq.out;have e3:(ts.drop j).getD i 0#32=ts.getD (j+i) 0#32:=by rw[List.getD_eq_getElem?_getD,List.getD_eq_getElem?_getD,List.getElem?_drop]
     rw[e3,←hw.2.2.2,hx] at e1;rw[hy] at e2;rw[←e1,←e2,On,hd,ni,←P4,←hw.2.2.1,←Nat.pow_succ] at eM;have ab0:n<i+1→c'=0:=by
      intro h;have xC:y=0:=by
       rw[←hy,List.getD_eq_getElem?_getD,List.getElem?_eq_none (by rw[HV.out.len];omega)];rfl
      rw[xC,Nat.mul_zero] at Hp;omega
     rw[nY] at hw eM fg mY;have oq:=zH hw.1;have YG:=zH hw.2.1;have zh:=zH eM;have ajF:=zH ab0;have HY:=zH hy;clear hw eM ab0 hy hx e1 e2 e3 Hp hp On hpm hs nc D2 hd ni ht P4 nY Vq hN hm;go_wp2_with fail;refine(kS i YI.out).mono ?_;rintro e w' ⟨rfl,rfl⟩;rw[HY.out];go_wp2_with fail;go_roundw
     case rel=>exact⟨b',c',i+1,xs.set k t,by omega,by go_num,rfl,rfl,by omega,ahr,ajF.out,by rw[List.length_set];exact YE.out,oq.out,YG.out,zh.out,DV.out.setLimb k t,Bi.out.setCell (by simp[Value.ownBlock];omega) (fun _ h=>h.elim) _,HK.out.setCell (fun hb=>(HSS.out _ hb).2 rfl) _,HB.out.setCell Sw.1 _⟩
     case measure=>simp[intOf];omega
    ·have N3:i=N:=by omega
     have Om:=HCN.out (by omega);have NZ:=Vq.out;rw[Om] at NZ;clear Om;rw[bI vs i (by rw[HV.out.len];omega),YH.out] at NZ;have JU:=ey ((xs.drop j).take i);have Qb:((xs.drop j).take i).length=i:=by rw[List.length_take,List.length_drop,YE.out];omega
     rw[Qb] at JU;have hVp:0<V:=Nat.lt_of_le_of_lt (Nat.zero_le _) PN.out;have hVn:V<4294967296^n:=by rw[←YH.out,←HV.out.len];exact ey vs
     rw[N3,←hN] at NZ JU;have WR:xs.drop (j+(n+1))=ts.drop (j+(n+1)):=by rw[hN,←N3];exact HXD.out
     obtain⟨h0,h1⟩:=MR hVp JU Bj.out HHI.out hb NZ;have hjm:(j:Int)<(m:Int):=by omega
     obtain⟨fg,mY⟩:=Bi.out.limb (k:=j) (by rw[IG.out];omega);rw[←HG.out] at fg mY;have hgl:w.heap.size≠gu:=by have:=HG.out;omega
     have HGU:Hid (gu<w.heap.size):=zH (by rw[HG.out];exact Sw.2);rcases Nat.eq_zero_or_pos b with hb0|hb0
     ·obtain⟨hq,NE⟩:=h0 hb0;have Oq:decide (0<b)=false:=decide_eq_false (by omega);have hbg:(0<b)=False:=eq_false (by omega);have yC:=jg q;obtain⟨zq,Ny⟩:∃z,BitVec.ofNat 32 q=z:=⟨_,rfl⟩;have fA:=eE q;rw[Ny] at yC fA;have qe:zq.toNat=q:=by omega
      have NP:=vJ (us:=us) (qs:=qs) (by rw[IE.out];exact hjn) hVn PN.out (by rw[YE.out,IE.out]) HXT.out WR NE hq qe (by rw[IG.out];omega) kF.out;have PL:=zH NP;have q1:Own (wr.setCell ⟨w.heap.size,j,none⟩ (.int .u32 (zq.toNat:Int))) bq bs 98 (.slice (some ⟨gu,0,none⟩) nu cu) xs:=DV.out.setCell (by simp[Value.ownBlock];omega) (fun _ h=>h.elim) _;have q2:Own (wr.setCell ⟨w.heap.size,j,none⟩ (.int .u32 (zq.toNat:Int))) bq g 98 (.slice (some ⟨g,0,none⟩) m m) (qs.set j zq):=by rw[HG.out];exact Bi.out.setLimb j zq
      have q3:aA S w (wr.setCell ⟨w.heap.size,j,none⟩ (.int .u32 (zq.toNat:Int))):=HK.out.setCell (fun hb=>Nat.lt_irrefl _ (HSS.out _ hb).1) _;have q4:Below bs w (wr.setCell ⟨w.heap.size,j,none⟩ (.int .u32 (zq.toNat:Int))):=HB.out.setCell (by have:=HG.out;simp;omega) _;have Q1:=zH q1;have Q2:=zH q2;have Q3:=zH q3;have Q4:=zH q4;clear NP hq NE h0 h1 NZ JU Qb Ny fA qe hN WR N3 hb0 q1 q2 q3 q4;have Xk:((i:Int)<(N:Int))=False:=eq_false (by omega);go_wp2_with fail;go_roundw
      case rel=>exact⟨j,(j:Int)-1,xs,qs.set j zq,by omega,by go_num,by omega,YE.out,by rw[List.length_set];exact IG.out,PL.out.1,PL.out.2,Q1.out,Q2.out,Q3.out,Q4.out⟩
      case measure=>simp[intOf]
     ·obtain⟨hq,NE⟩:=h1 hb0;have cI:b=1:=by omega
      obtain⟨q1,P8⟩:∃q1,q-1=q1:=⟨_,rfl⟩;have NL:1≤q:=by rw[hq];exact Nat.le_add_left _ _
      have anQ:(q:Int)-1=(q1:Int):=by omega
      have abo:q1=val ((ts.drop j).take (n+1))/V:=by rw[←P8,hq];rfl
      have wq1:IntKind.u64.wrap (q1:Int)=(q1:Int):=by rw[IntKind.wrap_u64];omega
      have yC:=jg q1;obtain⟨zq,Ny⟩:∃z,BitVec.ofNat 32 q1=z:=⟨_,rfl⟩;have fA:=eE q1;rw[Ny] at yC fA;have qe:zq.toNat=q1:=by omega
      have hbg:(0<b)=True:=eq_true (by omega);have Oq:decide (0<b)=true:=decide_eq_true (by omega);have Xk:((i:Int)<(N:Int))=False:=eq_false (by omega);obtain⟨U1,hU1⟩:∃U1,val ((xs.drop j).take (n+1))=U1:=⟨_,rfl⟩;obtain⟨RR,hRR⟩:∃U1,val ((ts.drop j).take (n+1))%V=U1:=⟨_,rfl⟩;have DU:=zH hRR;have HQ1:=zH abo;have HZN:=zH qe;have ai2:=zH WR;have ai4:=zH NE;have HN:=zH hN;clear h0 h1 NZ JU Qb Ny fA qe hN WR N3 hb0 hq NE hU1 hRR P8 abo cI Vq HXD;go_wp2_with fail;go_loopw [10,80] (fun cv iv wr=>∃(c i:Nat) (ys:List (BitVec 32)),i≤N∧iv=.int .i64 i∧cv=.int .u64 c∧c≤1∧ys.length=nu∧ys.take j=xs.take j∧ys.drop (j+i)=xs.drop (j+i)∧ val ((ys.drop j).take i)+4294967296^i*c=val ((xs.drop j).take i)+val (vs.take i)∧ Own wr bq bs 98 (.slice (some ⟨gu,0,none⟩) nu cu) ys∧Own wr bq g 98 (.slice (some ⟨g,0,none⟩) m m) qs∧aA S w wr∧Below bs w wr)
       (fun _ iv _=>N-(intOf iv).toNat)
      case atStart=>exact⟨0,0,xs,Nat.zero_le _,rfl,rfl,Nat.zero_le _,YE.out,rfl,rfl,by simp[val],DV.out,Bi.out,HK.out,HB.out⟩
      case round=>
       clear DV Bi HK HB YI hi hlt Xk fg mY hc hb hbg Oq;obtain⟨c,i,ys,hi,rfl,rfl,hc,Cu,hyt,UG,iB,JX,xE,bS,pR⟩:=hrel;have Zx:=zH Cu;have HYT:=zH hyt;have HYD:=zH UG;have Vq:=zH iB;have DV:=zH JX;have Bi:=zH xE;have HK:=zH bS;have HB:=zH pR;have YI:Hid (RS wr S Av n cv vs):=zH (HV.out.keep (fun b hb=>hb) bS);clear Cu hyt UG iB JX xE bS pR;by_cases hlt:i<N
       ·have N3:(i:Int)<(N:Int):=by omega
        have NY:j+i<nu:=by have:=HN.out;omega
        obtain⟨y,hy⟩:∃y,(vs.getD i 0#32).toNat=y:=⟨_,rfl⟩;obtain⟨x,hx⟩:∃x,(ys.getD (j+i) 0#32).toNat=x:=⟨_,rfl⟩;have Cu:y<4294967296:=by rw[←hy];exact(vs.getD i 0#32).isLt
        have nl:x<4294967296:=by rw[←hx];exact(ys.getD (j+i) 0#32).isLt
        obtain⟨fg,mY⟩:=DV.out.limb (k:=j+i) (by rw[Zx.out];exact NY);rw[hx] at fg;obtain⟨s,hs⟩:∃s,x+y+c=s:=⟨_,rfl⟩;obtain⟨s1,nc⟩:∃s,x+y=s:=⟨_,rfl⟩;have agC:(x:Int)+(y:Int)=(s1:Int):=by omega
        have hsi:(s1:Int)+(c:Int)=(s:Int):=by omega
        have ws1:IntKind.u64.wrap (s1:Int)=(s1:Int):=by rw[IntKind.wrap_u64];omega
        have ws:IntKind.u64.wrap (s:Int)=(s:Int):=by rw[IntKind.wrap_u64];omega
        have wx:IntKind.u64.wrap (x:Int)=(x:Int):=by rw[IntKind.wrap_u64];omega
        obtain⟨d,hd⟩:∃d,s/4294967296=d:=⟨_,rfl⟩;have Sj:(s:Int)/4294967296=(d:Int):=by rw[←hd];rfl
        have UV:d≤1:=by omega
        have agv:=jg s;obtain⟨t,ht⟩:∃t,BitVec.ofNat 32 s=t:=⟨_,rfl⟩;have P4:=eE s;rw[ht] at agv P4;obtain⟨k,nY⟩:∃k,j+i=k:=⟨_,rfl⟩;have hki:(i:Int)+(j:Int)=(k:Int):=by omega
        have wk:IntKind.i64.wrap (k:Int)=(k:Int):=by rw[IntKind.wrap_i64];omega
        have gM:(k:Int)<(nu:Int):=by omega
        have hw:=Ga t (by rw[Zx.out];exact NY) HYT.out HYD.out;have e1:=bn (xs.drop j) i;have e2:=bn vs i;have eM:=DL hs Vq.out;have e3:(xs.drop j).getD i 0#32=xs.getD (j+i) 0#32:=by rw[List.getD_eq_getElem?_getD,List.getD_eq_getElem?_getD,List.getElem?_drop]
        rw[e3,←hw.2.2.2,hx] at e1;rw[hy] at e2;rw[←e1,←e2,hd,←P4,←hw.2.2.1,←Nat.pow_succ] at eM;rw[nY] at hw eM fg mY;have oq:=zH hw.1;have YG:=zH hw.2.1;have zh:=zH eM;have ac9:Hid (∀z,Calls Tryz.prog 189 #[.slice Av n cv,.int .i64 i] (wr.drewN z) (gL (wr.drewN z) (.int .u64 (y:Int)))):=zH fun z=>by
         rw[←hy];exact kS i (YI.out.drewN z)
        clear hw eM hy hx e1 e2 e3 hs nc hd ht P4 nY Vq hm yC;go_wp2_with fail;go_quiet ((go_at_call 189;(with_reducible refine(ac9.out _).mono ?_);rintro e w' ⟨rfl,rfl⟩;exact⟨rfl,_,rfl⟩))
        go_wp2_with fail;go_roundw
        case rel=>exact⟨d,i+1,ys.set k t,by omega,by go_num,rfl,UV,by rw[List.length_set];exact Zx.out,oq.out,YG.out,zh.out,(DV.out.drewN _).setLimb k t,(Bi.out.drewN _).setCell (by simp[Value.ownBlock];omega) (fun _ h=>h.elim) _,(HK.out.drewN _).setCell (fun hb=>(HSS.out _ hb).2 rfl) _,(below_drewN HB.out _).setCell Sw.1 _⟩
        case measure=>simp[intOf];omega
       ·have N3:i=n+1:=by have:=HN.out;omega
        have NZ:=Vq.out;have JU:=ey ((ys.drop j).take i);have Qb:((ys.drop j).take i).length=i:=by rw[List.length_take,List.length_drop,Zx.out];omega
        rw[Qb] at JU;rw[bI vs i (by rw[HV.out.len];omega),YH.out] at NZ;rw[N3] at NZ JU;have hR:=DK JU NZ ai4.out hc;have UG:ys.drop (j+(n+1))=ts.drop (j+(n+1)):=by rw[←N3,HYD.out,N3];exact ai2.out
        have NP:=vJ (us:=us) (qs:=qs) (by rw[IE.out];exact hjn) hVn PN.out (by rw[Zx.out,IE.out]) (HYT.out.trans HXT.out) UG hR HQ1.out HZN.out (by rw[IG.out];omega) kF.out;have PL:=zH NP;obtain⟨fg,mY⟩:=Bi.out.limb (k:=j) (by rw[IG.out];omega);rw[←HG.out] at fg mY;have q1':Own (wr.setCell ⟨w.heap.size,j,none⟩ (.int .u32 (zq.toNat:Int))) bq bs 98 (.slice (some ⟨gu,0,none⟩) nu cu) ys:=DV.out.setCell (by simp[Value.ownBlock];omega) (fun _ h=>h.elim) _;have q2:Own (wr.setCell ⟨w.heap.size,j,none⟩ (.int .u32 (zq.toNat:Int))) bq g 98 (.slice (some ⟨g,0,none⟩) m m) (qs.set j zq):=by rw[HG.out];exact Bi.out.setLimb j zq
        have q3:aA S w (wr.setCell ⟨w.heap.size,j,none⟩ (.int .u32 (zq.toNat:Int))):=HK.out.setCell (fun hb=>Nat.lt_irrefl _ (HSS.out _ hb).1) _;have q4:Below bs w (wr.setCell ⟨w.heap.size,j,none⟩ (.int .u32 (zq.toNat:Int))):=HB.out.setCell (by have:=HG.out;simp;omega) _;have Q1:=zH q1';have Q2:=zH q2;have Q3:=zH q3;have Q4:=zH q4;have Xk:((i:Int)<(N:Int))=False:=eq_false (by omega);clear NP hR UG NZ JU Qb N3 q1' q2 q3 q4 hlt;go_wp2_with fail;go_roundw
        case rel=>exact⟨j,(j:Int)-1,ys,qs.set j zq,by omega,by go_num,by omega,Zx.out,by rw[List.length_set];exact IG.out,PL.out.1,PL.out.2,Q1.out,Q2.out,Q3.out,Q4.out⟩
        case measure=>simp[intOf]
end Go.Proofs.YtjlhbfbdcfajfaaGreatDoor
