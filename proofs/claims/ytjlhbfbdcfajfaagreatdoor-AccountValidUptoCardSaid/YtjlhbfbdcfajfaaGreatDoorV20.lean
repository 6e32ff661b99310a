/- Ref7 Ref8 Ref9 -/
import Derived.Test.YtjlhbfbdcfajfaaGreatDoorV19
import Derived.Test.YtjlhbfbdcfajfaaGreatDoorV11
import Derived.Test.YtjlhbfbdcfajfaaGreatDoorV14
import Derived.Laws.BitsAllLaws
import Derived.Test.YtjlhbfbdcfajfaaGreatDoorV03
set_option maxHeartbeats 8000000
set_option maxRecDepth 100000
namespace Go.Proofs.YtjlhbfbdcfajfaaGreatDoor
open Go.RowKit
theorem iY {n L:Nat} (h:n<2^L) {k:Nat} (hk:L≤k):(bits n).length≤k:=Nat.le_trans (jD h) hk
theorem SY {S S2:Nat→Prop} {A A2:Option Addr} {n c n2 c2:Nat} {X Y:Nat} {w:World} (h:RS w S A n c (bits X)) (h2:RS w S2 A2 n2 c2 (bits Y)) (hS:∀b,S b→b<w.heap.size) (iC:∀b,S2 b→b<w.heap.size) (L:Nat) (hL:L≤137438953472) (hX:X<2^L) (hY:Y<2^L) : Calls Tryz.prog 115 #[.slice A n c,.slice A2 n2 c2] w (jF w 4 (bits (Nat.gcd X Y))):=by
 have HA:=zH (h.sub (S':=fun b=>b<w.heap.size) hS);have Vs:=zH (h2.sub (S':=fun b=>b<w.heap.size) iC);have HX:=zH hX;have HY:=zH hY;obtain⟨G,hG⟩:∃G,Nat.gcd X Y=G:=⟨_,rfl⟩;rw[hG];have HG:=zH hG;clear h h2 hX hY hG;go_enter Tryz.func115,Tryz.ntmps115;go_wp2_with fail;go_loopg [0,1] Y (fun k va vb wr=>∃a A n c A2 n2 c2,va=.slice A n c∧vb=.slice A2 n2 c2∧a<2^L∧k<2^L∧Nat.gcd a k=G∧RS wr (fun b=>b<wr.heap.size) A n c (bits a)∧RS wr (fun b=>b<wr.heap.size) A2 n2 c2 (bits k)∧Below w.heap.size w wr)
 case atStart=>exact⟨X,A,n,c,A2,n2,c2,rfl,rfl,HX.out,HY.out,HG.out,HA.out,Vs.out,Below.refl _ _⟩
 case round=>
  clear HA Vs HX HY HG;obtain⟨a,A3,n3,c3,A4,n4,c4,rfl,rfl,ha,hk,hg,hra,Za,hb⟩:=hrel;have HRA:=zH hra;have HRB:=zH Za;have HB:=zH hb;have HGG:=zH hg;have HAL:=zH ha;have HKL:=zH hk;have UM:n3≤137438953472:=by rw[←hra.len];exact iY ha hL
  have KY:n4≤137438953472:=by rw[←Za.len];exact iY hk hL
  clear hra Za hb hg ha hk;rcases Nat.eq_zero_or_pos n4 with h0|h0
  ·subst h0;have NX:gk=0:=rq (List.eq_nil_of_length_eq_zero HRB.out.len);have Xo:a=G:=by have:=HGG.out;rw[NX,Nat.gcd_zero_right] at this;exact this
   have bO:=jw HRA.out (by omega);rw[bB,Xo] at bO;have HC:=zH bO;clear NX Xo bO;go_wp2_with fail;refine HC.out.mono ?_;rintro e w2 ⟨v2,rfl,nh,bZ⟩;have ot:=zH (nh.base_le HB.out.size);have eP:=zH (ak HB.out bZ);clear nh bZ;go_wp2_with fail;go_ret
   exact⟨_,rfl,ot.out,eP.out⟩
  ·have Ze:0<gk:=by
    rcases Nat.eq_zero_or_pos gk with h|h
    ·exfalso
     have:=HRB.out.len;rw[h,eh] at this;simp at this;omega
    ·exact h
   have bO:=AK HRA.out HRB.out (fun _ h=>h) (fun _ h=>h) UM KY (by rw[bB];exact Ze);rw[bB,bB] at bO;have HC:=zH bO;clear bO;go_wp2_with fail;refine HC.out.mono ?_;rintro e w3 ⟨v1,v2,rfl,hq,hr,kD⟩;obtain⟨A5,n5,c5,rfl,hn5⟩:=hr.slice;have Ua:=zH hr.rsAll;have ajd:=zH ((HRB.out.below kD (fun _ h=>h)).sub (S':=fun b=>b<w3.heap.size) (fun b h=>Nat.lt_of_lt_of_le h kD.size));have mg:=zH (ak HB.out kD);clear hq hr kD hn5;go_wp2_with fail
   go_roundg (a%gk)
   case measure=>exact Nat.mod_lt _ Ze
   case rel=>exact⟨gk,_,_,_,_,_,_,rfl,rfl,HKL.out,Nat.lt_trans (Nat.mod_lt _ Ze) HKL.out,((Nat.gcd_comm _ _).trans ((Nat.gcd_rec gk a).symm.trans (Nat.gcd_comm _ _))).trans HGG.out,ajd.out,Ua.out,mg.out⟩
theorem Km {g:Nat} (h:g≠0) (l:List UInt8):(gj g).reverse++l=(gj (g/10)).reverse++(D8 g::l):=by
 rw[gj,dif_neg h,List.reverse_cons,List.append_assoc];rfl
theorem wI {X L:Nat} (h:X<2^L):(gj X).length≤L+1:=by
 by_cases h0:X=0
 ·subst h0;rw[gJ];exact Nat.zero_le _
 ·have h1:=CY h0;have h2:(2:Nat)^((gj X).length-1)≤10^((gj X).length-1):=Nat.pow_le_pow_left (by omega) _;have h3:=(Nat.pow_lt_pow_iff_right (a:=2) (by omega)).1 (Nat.lt_of_le_of_lt (Nat.le_trans h2 h1) h);omega
theorem Kp {S:Nat→Prop} {A:Option Addr} {n c:Nat} {X:Nat} {w:World} (h:RS w S A n c (bits X)) (hS:∀b,S b→b<w.heap.size) (L:Nat) (hL:L≤1000) (hX:X<2^L) : Calls Tryz.prog 87 #[.slice A n c] w (j5 w (.string ⟨(bG X).toArray⟩)):=by
 have HA:=zH (h.sub (S':=fun b=>b<w.heap.size) hS);have HX:=zH hX;have HDS:=zH (wI hX);obtain⟨T,hT⟩:∃T:ByteArray,⟨(bG X).toArray⟩=T:=⟨_,rfl⟩;rw[hT];have HT:=zH hT;have HN:=zH h.len;have KX:=h.max;clear h hX hT;go_enter Tryz.func87,Tryz.ntmps87;rcases Nat.eq_zero_or_pos n with h0|h0
 ·subst h0;have i7:X=0:=rq (List.eq_nil_of_length_eq_zero HN.out);have ht:(⟨#[48]⟩:ByteArray)=T:=by rw[←HT.out,i7];rfl
  have Ea:=zH ht;clear i7 ht;go_wp2_with fail;go_ret
  exact⟨congrArg (fun t=>Ending.returned (.string t)) Ea.out,Below.refl _ _⟩
 ·have hb0:((n:Int)==0)=false:=by rw[beq_eq_false_iff_ne];omega
  have i7:X≠0:=by
   intro e;have:=HN.out;rw[e,eh] at this;simp at this;omega
  have YF:=zH i7;clear i7;go_wp2_with fail;go_loopg [0,3] X (fun g va vs wr=>∃(A:Option Addr) (n c:Nat) (l:List UInt8) (s:ByteArray),va=.slice A n c∧vs=.string s∧s=⟨l.toArray⟩∧g<2^L∧(gj X).reverse=(gj g).reverse++l∧RS wr (fun b=>b<wr.heap.size) A n c (bits g)∧Below w.heap.size w wr)
  case atStart=>exact⟨A,n,c,[],_,rfl,rfl,rfl,HX.out,by simp,HA.out,Below.refl _ _⟩
  case round=>
   clear HA hb0 h0 HN;obtain⟨A3,n3,c3,l,s,rfl,rfl,hs,hg,hd,hr,hb⟩:=hrel;have HS:=zH hs;have HG:=zH hg;have HD:=zH hd;have HR:=zH hr;have HB:=zH hb;have hn3:n3≤1000:=by rw[←hr.len];exact iY hg hL
   clear hs hg hd hr hb;rcases Nat.eq_zero_or_pos n3 with h0|h0
   ·subst h0;have hg0:gk=0:=rq (List.eq_nil_of_length_eq_zero HR.out.len);have ht:s=T:=by
     have:=HD.out;rw[hg0,gJ,List.reverse_nil,List.nil_append] at this;rw[HS.out,←HT.out,←this];unfold bG;rw[if_neg YF.out]
    have Ea:=zH ht;clear hg0 ht;go_wp2_with fail;go_ret
    exact⟨congrArg (fun t=>Ending.returned (.string t)) Ea.out,HB.out⟩
   ·have Zf:gk≠0:=by
     intro e;have:=HR.out.len;rw[e,eh] at this;simp at this;omega
    have HGP:=zH Zf;clear Zf;go_wp2_with fail;refine(Bv 10 (by omega) wr).mono ?_;rintro e w2 ⟨v2,rfl,nh,bZ⟩;obtain⟨A4,n4,c4,rfl,hn4⟩:=nh.slice;have hl10:(bits 10).length≤4:=jD (by decide);have bO:=AK (HR.out.below bZ (fun _ h=>h)) nh.rsAll (fun b h=>Nat.lt_of_lt_of_le h bZ.size) (fun _ h=>h) (by omega) (by omega) (by rw[bB];omega);rw[bB,bB] at bO;have HC:=zH bO;have eP:=zH (ak HB.out bZ);clear bO nh bZ hn4 hl10;go_wp2_with fail;refine HC.out.mono ?_;rintro e w3 ⟨v1,v2,rfl,hq,hr,kD⟩;obtain⟨A5,n5,c5,rfl,hn5⟩:=hq.slice;obtain⟨A6,n6,c6,rfl,hn6⟩:=hr.slice;obtain⟨ρ,hρ⟩:∃ρ,gk%10=ρ:=⟨_,rfl⟩;have aa3:ρ<10:=by omega
    rw[hρ] at hr hn6;have aoc:n6≤4:=by rw[hn6];exact jD (by omega)
    have HQ:=zH hq.rsAll;have DU:=zH hr.rsAll;have mg:=zH (ak eP.out kD);have YL:=zH hρ;have hw6:IntKind.i64.wrap ((n6:Int)-1)=(n6:Int)-1:=by rw[IntKind.wrap_i64]<;>omega
    clear hq hr kD hn5 hn6 hρ;go_wp2_with fail
    go_loop [6,7] (fun dv iv=>∃(k D:Nat) (z:Int),k≤n6∧iv=.int .i64 z∧z+1=k∧dv=.int .i64 D∧D=ar ((bits ρ).drop k)) (fun _ iv=>(intOf iv+1).toNat)
    case atStart=>exact⟨n6,0,(n6:Int)-1,Nat.le_refl _,rfl,by omega,rfl,by rw[List.drop_eq_nil_of_le (by rw[DU.out.len];exact Nat.le_refl _)];rfl⟩
    case round=>
     obtain⟨k,D,z,hk,rfl,hz,rfl,hD⟩:=hrel;have hDs:D<10:=by
      rw[hD];refine Nat.lt_of_le_of_lt ?_ aa3;have h1:=mK (bits ρ) k;rw[bB] at h1;have h2:1*ar ((bits ρ).drop k)≤2^k*ar ((bits ρ).drop k):=Nat.mul_le_mul_right _ (Nat.pow_pos (by omega));omega
     have HDD:=zH hD;clear hD;rcases k with _|k
     ·obtain rfl:z= -1:=by omega
      have hDr:D=ρ:=by have:=HDD.out;rw[List.drop_zero,bB] at this;exact this
      subst hDr;obtain⟨x,hx⟩:∃x,D8 gk=x:=⟨_,rfl⟩;have hxv:(x.toNat:Int)=48+(D:Int):=by
       rw[←hx];unfold D8;rw[UInt8.toNat_ofNat',YL.out];omega
      have fX:IntKind.i64.wrap (48+(D:Int))=48+(D:Int):=by rw[IntKind.wrap_i64]<;>omega
      have Sd:IntKind.u8.wrap (48+(D:Int))=(x.toNat:Int):=by rw[IntKind.wrap_u8];omega
      have db:=Km HGP.out l;rw[hx,←HD.out] at db;have D2:(⟨#[x]⟩:ByteArray)++s=⟨(x::l).toArray⟩:=by rw[HS.out];exact fY [x] l
      have WY:s.size≤1001:=by
       rw[HS.out];show l.toArray.size≤1001;have h1:=congrArg List.length HD.out;rw[List.length_append,List.length_reverse,List.length_reverse] at h1;have:=HDS.out;rw[List.size_toArray];omega
      have NC:(⟨#[x]⟩:ByteArray).size≤1001:=by show(1:Nat)≤1001;omega
      have Za:RS (w3.alloc (.cells #[.int .u8 (x.toNat:Int)] 5)) (fun _=>True) (some ⟨w3.heap.size,0,none⟩) 1 1 [x]:=RS.of_blk (t:=5) (cs:=#[.int .u8 (x.toNat:Int)]) (dy.new _ _ _) (Flat.bytes [x]) rfl (Nat.le_refl _) (by decide) trivial;have Qe:=zo Za;have zh:=zH db;have HS2:=zH D2;have HBN:=zH (mg.out.alloc mg.out.size (.cells #[.int .u8 (x.toNat:Int)] 5));have HQN:=zH ((HQ.out.below ((Below.refl w3.heap.size w3).alloc (Nat.le_refl _) (.cells #[.int .u8 (x.toNat:Int)] 5)) (fun _ h=>h)).sub (S':=fun b=>b<(w3.alloc (.cells #[.int .u8 (x.toNat:Int)] 5)).heap.size) (fun b h=>by simp;omega));have HXV:=zH hxv;clear hx hxv Za db D2 hz;go_wp2_with fail
      go_roundg (gk/10)
      case measure=>have:=HGP.out;omega
      case rel=>exact⟨A5,n5,c5,x::l,_,rfl,rfl,HS2.out,by have:=HG.out;omega,zh.out,HQN.out,HBN.out⟩
     ·obtain rfl:z=k:=by omega
      obtain⟨b,o,x,rfl,_,hx,e1⟩:=DU.out.bool_at (k:=k) (by omega);have gM:(k:Int)<(n6:Int):=by omega
      have NV:(k:Int)≤(c6:Int):=by have:=DU.out.cap;omega
      have NX:(0≤(k:Int))=True:=eq_true (by omega);have db:=dW (bits ρ) k;rw[fN hx,←HDD.out] at db;have zh:=zH db;have fX:IntKind.i64.wrap (2*(D:Int))=2*(D:Int):=by rw[IntKind.wrap_i64]<;>omega
      have Sd:IntKind.i64.wrap (2*(D:Int)+1)=2*(D:Int)+1:=by rw[IntKind.wrap_i64]<;>omega
      have hwk:IntKind.i64.wrap ((k:Int)-1)=(k:Int)-1:=by rw[IntKind.wrap_i64]<;>omega
      clear db hx hz;cases x with
      | false=>
       go_wp2_with fail;go_round
       case rel=>exact⟨k,2*D,(k:Int)-1,by omega,by go_num,by omega,by go_num,by have:=zh.out;simp at this;omega⟩
       case measure=>simp[intOf]
      | true=>
       go_wp2_with fail;go_round
       case rel=>exact⟨k,2*D+1,(k:Int)-1,by omega,by go_num,by omega,by go_num,by have:=zh.out;simp at this;omega⟩
       case measure=>simp[intOf]
theorem Yr (x:BitVec 32) (k:Nat):(Go.bits .and .u32 ((x.toNat:Int)/2^k) 1==1)=(x.toNat/2^k%2==1):=by
 have e:(x.toNat:Int)/2^k=((x.toNat/2^k:Nat):Int):=by simp
 have hlt:x.toNat/2^k<4294967296:=Nat.lt_of_le_of_lt (Nat.div_le_self _ _) x.isLt;rw[e,show(1:Int)=((1:Nat):Int) from rfl,u32_and_nat _ _ hlt (by omega),Nat.and_one_is_mod];obtain⟨t,ht⟩:∃t,x.toNat/2^k%2=t:=⟨_,rfl⟩;rw[ht];rw[Bool.eq_iff_iff];simp only[beq_iff_eq];omega
theorem aau (i:Nat):2^(32*i)=4294967296^i:=by rw[Nat.pow_mul]
theorem CL {S:Nat→Prop} {A:Option Addr} {n c:Nat} {xs:List (BitVec 32)} {w:World} (h:RS w S A n c xs) (hS:∀b,S b→b<w.heap.size) (hn:n≤1000000) : Calls Tryz.prog 91 #[.slice A n c] w (jF w 4 (bits (val xs))):=by
 have H:=zH h;have HL:=zH h.len;have HS:=zH hS;clear h hS;go_enter Tryz.func91,Tryz.ntmps91;go_wp2_with fail;go_loopw [3,4] (fun sv iv wr=>∃(i:Nat) (out:List Bool),iv=.int .i64 i∧i≤n∧Own wr bq w.heap.size 4 sv out∧out.length=32*i∧ar out=val (xs.take i)∧Below w.heap.size w wr) (fun _ iv _=>n-(intOf iv).toNat)
 case atStart=>exact⟨0,[],rfl,Nat.zero_le _,Own.nil _ _ _,rfl,by rw[List.take_zero];rfl,Below.refl _ _⟩
 case round=>
  obtain⟨i,out,rfl,hi,ho,nr,hv,hb⟩:=hrel;have HO:=zH ho;have HB:=zH hb;have HV:=zH hv;have Bj:=zH nr;obtain⟨A4,n4,c4,rfl,hn4⟩:=ho.slice;clear ho hb hn4 hv nr;rcases Nat.lt_or_ge i n with hlt|hge
  ·have hd:((i:Int)<(n:Int))=True:=eq_true (by omega);have hwi:IntKind.i64.wrap ((i:Int)+1)=(i:Int)+1:=by rw[IntKind.wrap_i64]<;>omega
   obtain⟨b,o,x,rfl,Bf,hx,e1⟩:=(H.out.below HB.out HS.out).limb_at hlt;have HX:=zH hx;clear hx;have HW0:=zH (rfl:wr=wr);obtain⟨w0,hw0⟩:∃q,q=wr:=⟨_,rfl⟩;have HWR:=zH hw0;clear hw0;go_wp2_with fail;go_loopw [3,5] (fun sv kv wr=>∃(k:Nat) (out:List Bool),kv=.int .u64 k∧k≤32∧Own wr bq w.heap.size 4 sv out∧out.length=32*i+k∧ar out=val (xs.take i)+2^(32*i)*(x.toNat%2^k)∧Below w.heap.size w wr) (fun _ kv _=>32-(intOf kv).toNat)
   case atStart=>exact⟨0,out,rfl,Nat.zero_le _,HO.out,Bj.out,by rw[HV.out,Nat.pow_zero,Nat.mod_one,Nat.mul_zero,Nat.add_zero],HB.out⟩
   case round=>
    obtain⟨k,MA,rfl,hk,ho,nr,hv,hb⟩:=hrel;have ot:=zH ho;have eP:=zH hb;have HV2:=zH hv;have Uc:=zH nr;obtain⟨A5,n5,c5,rfl,hn5⟩:=ho.slice;clear ho hb hn5 hv nr;rcases Nat.lt_or_ge k 32 with jJ|hge2
    ·have e2:wr.cell? ⟨b,o+i,none⟩=some (.int .u32 (x.toNat:Int)):=by
      obtain⟨b',o',x',hA,_,hx',e3⟩:=(H.out.below eP.out HS.out).limb_at hlt;injection hA with hA
      injection hA with h1 h2
      subst h1 h2;rw[HX.out] at hx';injection hx' with hx'
      subst hx';exact e3
     clear e1;have dk:((k:Int)<32)=True:=eq_true (by omega);obtain⟨y,hy⟩:∃y,(x.toNat/2^k%2==1)=y:=⟨_,rfl⟩;have ahu:=Yr x k;rw[hy] at ahu;have db:ar (MA++[y])=val (xs.take i)+2^(32*i)*(x.toNat%2^(k+1)):=by
      have P1:y.toNat=x.toNat/2^k%2:=by
       rw[←hy];rcases Nat.mod_two_eq_zero_or_one (x.toNat/2^k) with h|h<;>rw[h]<;>rfl
      rw[lW,HV2.out,Uc.out,P1,Nat.mod_pow_succ,Nat.mul_add,Nat.pow_add,Nat.mul_assoc,Nat.add_assoc]
     have hwk:IntKind.u64.wrap ((k:Int)+1)=(k:Int)+1:=by rw[IntKind.wrap_u64];omega
     have zh:=zH db;have bM:(MA.length+1)*(1+1)≤140737488355328:=by have:=Uc.out;omega
     have mf:=zH bM;have ac8:=zH jJ;clear db bM hy;go_wp2_with (at_builtin; refine dY (α:=Bool) (w0:=w) rfl _ _ 120 rfl 1 Tryz.bitsTy rfl ot.out eP.out [.bool y] y 1 rfl rfl 4 (by simp[Value.oneCell']) mf.out ?_; intro v4 w4 hown4 jT hg4 hl4; have DW:=zH hown4; have xh:=zH jT; clear hown4 jT hg4 hl4);go_roundw
     case rel=>exact⟨k+1,MA++[y],by go_num,ac8.out,DW.out,by have:=Uc.out;simp;omega,zh.out,xh.out⟩
     case measure=>have:=ac8.out;simp[intOf];omega
    ·have ag5:k=32:=by omega
     have hv:ar MA=val (xs.take (i+1)):=by
      rw[HV2.out,ag5,lg HX.out,aau,Nat.mod_eq_of_lt x.isLt]
     have HVF:=zH hv;have dk:((k:Int)<32)=False:=eq_false (by omega);clear hv;go_wp2_with fail;go_roundw
     case rel=>exact⟨i+1,MA,by go_num,hlt,ot.out,by have:=Uc.out;omega,HVF.out,eP.out⟩
     case measure=>simp[intOf];omega
  ·have hd:((i:Int)<(n:Int))=False:=eq_false (by omega);have dS:ar out=val xs:=by rw[HV.out,List.take_of_length_le (by rw[HL.out];omega)]
   have bO:=jw (HO.out.rsAll) (by rw[←HO.out.rsAll.len];have:=Bj.out;omega);rw[dS] at bO;have HC:=zH bO;clear bO dS;go_wp2_with fail;refine HC.out.mono ?_;rintro e w2 ⟨v2,rfl,nh,bZ⟩;have ot:=zH (nh.base_le HB.out.size);have eP:=zH (ak HB.out bZ);clear nh bZ;go_wp2_with fail;go_ret
   exact⟨_,rfl,ot.out,eP.out⟩
theorem or_bit {v i:Nat} (hv:v<2^i) (hi:i<32):Go.bits .or .u32 (v:Int) (2^i%4294967296)=((BitVec.ofNat 32 (v+2^i)).toNat:Int):=by
 have hp:2^(i+1)≤4294967296:=Nat.pow_le_pow_right (n:=2) (by omega) (by omega:i+1≤32);rw[Nat.pow_succ] at hp;have e:(2^i%4294967296:Int)=((2^i:Nat):Int):=by
  have:((2^i:Nat):Int)=(2:Int)^i:=by simp
  rw[←this];omega
 rw[e,u32_or_nat _ _ (by omega) (by omega),BitVec.toNat_ofNat];have h1:=Nat.two_pow_add_eq_or_of_lt hv 1;rw[Nat.mul_one,Nat.or_comm] at h1;rw[←h1,Nat.add_comm v];omega
theorem Vz {S:Nat→Prop} {A:Option Addr} {n c:Nat} {xs:List Bool} {w:World} (h:RS w S A n c xs) (hn:n≤1000000) (hX:ar xs<4294967296) : Calls Tryz.prog 170 #[.slice A n c] w (jF w 98 (dc (ar xs))):=by
 obtain⟨X,hXX⟩:∃X,ar xs=X:=⟨_,rfl⟩;have bO:=jw h (by omega);rw[hXX] at bO hX;rw[hXX];have HC:=zH bO;have HX:=zH hX;clear h bO hX hXX;obtain⟨i0,hi,kr,fu,iE⟩:=info_parts Tryz.u32Info;have HI:=zH hi;have pY:=zH kr;have ka:=zH fu;have k8:=zH iE;clear hi kr fu iE;go_enter Tryz.func170,Tryz.ntmps170;go_wp2_with fail;refine HC.out.mono ?_;rintro e w2 ⟨v2,rfl,nh,bZ⟩;obtain⟨A2,l,c2,rfl,hl⟩:=nh.slice;have hl32:l≤32:=by rw[hl];exact jD HX.out
 have ot:=zH nh;have eP:=zH bZ;have HL:=zH hl;clear nh bZ hl;rcases Nat.eq_zero_or_pos l with h0|h0
 ·subst h0;have i7:X=0:=rq (List.eq_nil_of_length_eq_zero HL.out.symm);subst i7;go_wp2_with (refine cf (α:=BitVec 32) w2 rfl _ _ 26 rfl rfl w.heap.size i0 (.int .u32 0) Tryz.underlying26 HI.out pY.out ka.out rfl .i64 .i64 0 0 0 rfl rfl rfl rfl (by rw[k8.out];omega) (by unfold maxLen;omega) eP.out.size 0#32 bq (fun _ h=>h.elim) (fun _ _=>rfl) ?_; intro w3 wi hg3; have DX:=zH wi; have mg:=zH (eP.out.grown hg3 eP.out.size (fun k hk=>by cases hk)); clear wi hg3);go_loopw [4] (fun iv wr=>iv=.int .i64 0∧wr=w3) (fun _ _=>0)
  case atStart=>exact⟨rfl,rfl⟩
  case round=>
   obtain⟨rfl,rfl⟩:=hrel;go_wp2_with fail;go_ret
   exact⟨_,rfl,by rw[dt];exact DX.out,mg.out⟩
 ·have UV:((l:Int)+31)/32=1:=by omega
  have Qd:((l:Int)+31).tdiv 32=1:=by rw[Int.tdiv_eq_ediv_of_nonneg (by omega)];exact UV
  have fX:IntKind.i64.wrap ((l:Int)+31)=(l:Int)+31:=by rw[IntKind.wrap_i64]<;>omega
  go_wp2_with (refine cf (α:=BitVec 32) w2 rfl _ _ 26 rfl rfl w.heap.size i0 (.int .u32 0) Tryz.underlying26 HI.out pY.out ka.out rfl .i64 .i64 1 1 1 rfl rfl rfl rfl (by rw[k8.out];omega) (by unfold maxLen;omega) eP.out.size 0#32 bq (fun _ h=>h.elim) (fun _ _=>rfl) ?_; intro w3 wi hg3; have DX:=zH wi; have mg:=zH (eP.out.grown hg3 eP.out.size (fun k hk=>by cases hk)); have HR3:=zH (ot.out.rsAll.keep (S':=fun b=>b<w2.heap.size) (fun _ h=>h) ((aA.grown hg3).sub fun b hb=>⟨hb,by simp⟩)); clear wi hg3);have Sl:List.replicate 1 0#32=[BitVec.ofNat 32 (ar ((bits X).take 0))]:=by rw[List.take_zero];rfl
  have wi:=DX.out;rw[Sl] at wi;have ac6:=zH wi;clear wi Sl DX;go_loopw [4] (fun iv wr=>∃i:Nat,iv=.int .i64 i∧i≤l∧Own wr bq w.heap.size 98 (.slice (some ⟨w2.heap.size,0,none⟩) 1 1) [BitVec.ofNat 32 (ar ((bits X).take i))]∧RS wr (fun b=>b<w2.heap.size) A2 l c2 (bits X)∧Below w.heap.size w wr) (fun iv _=>l-(intOf iv).toNat)
  case atStart=>exact⟨0,rfl,Nat.zero_le _,ac6.out,HR3.out,mg.out⟩
  case round=>
   clear ac6 HR3 mg HC;obtain⟨i,rfl,hi,ho,hr,hb⟩:=hrel;have HO:=zH ho;have HR:=zH hr;have HB:=zH hb;clear ho hr hb;rcases Nat.lt_or_ge i l with hlt|hge
   ·obtain⟨b,o,x,rfl,Bf,hx,e1⟩:=HR.out.bool_at hlt;have NV:(i:Int)≤(c2:Int):=by have:=HR.out.cap;omega
    have oY:((i:Int)<(l:Int))=True:=eq_true (by omega);have hwi:IntKind.i64.wrap ((i:Int)+1)=(i:Int)+1:=by rw[IntKind.wrap_i64]<;>omega
    have db:=fq (bits X) i;rw[fN hx] at db;obtain⟨v,hv⟩:∃v,ar ((bits X).take i)=v:=⟨_,rfl⟩;have Bc:v<2^i:=by rw[←hv];exact mJ _ _
    have W9:2^(i+1)≤4294967296:=Nat.pow_le_pow_right (n:=2) (by omega) (by omega:i+1≤32);rw[Nat.pow_succ] at W9;obtain⟨e2,e3⟩:=HO.out.limb (k:=0) (by simp);have Qe:(([BitVec.ofNat 32 (ar ((bits X).take i))]:List (BitVec 32)).getD 0 0#32).toNat=v:=by
     show(BitVec.ofNat 32 (ar ((bits X).take i))).toNat=v;rw[hv,BitVec.toNat_ofNat];omega
    rw[Qe] at e2;rw[hv] at db;have zh:=zH db;have HP:=zH W9;have HVL:=zH Bc;have HV:=zH hv;have h1:(i:Int)/32=0:=by omega
    have h2:(i:Int).tdiv 32=0:=by rw[Int.tdiv_eq_ediv_of_nonneg (by omega)];exact h1
    have h3:(i:Int)%32=(i:Int):=by omega
    have h4:(i:Int).tmod 32=(i:Int):=by rw[Int.tmod_eq_emod_of_nonneg (by omega)];exact h3
    have h5:IntKind.u64.wrap (i:Int)=(i:Int):=by rw[IntKind.wrap_u64];omega
    clear hx db hv Qe Bc W9;cases x with
    | false=>
     have hs:[BitVec.ofNat 32 (ar ((bits X).take (i+1)))]=[BitVec.ofNat 32 (ar ((bits X).take i))]:=by
      rw[zh.out,HV.out];simp
     have HS:=zH hs;clear hs;go_wp2_with fail;go_roundw
     case rel=>exact⟨i+1,by go_num,by omega,by rw[HS.out];exact HO.out,HR.out,HB.out⟩
     case measure=>simp[intOf];omega
    | true=>
     have ly:=or_bit HVL.out (by omega:i<32);have hs:([BitVec.ofNat 32 (ar ((bits X).take i))]:List (BitVec 32)).set 0 (BitVec.ofNat 32 (v+2^i))=[BitVec.ofNat 32 (ar ((bits X).take (i+1)))]:=by
      rw[zh.out,HV.out];simp
     have HS:=zH hs;clear hs;go_wp2_with fail;go_roundw
     case rel=>exact⟨i+1,by go_num,by omega,by rw[←HS.out];exact HO.out.setLimb 0 _,HR.out.keep (fun _ h=>h) ((aA.refl _ _).setCell (p:=⟨w2.heap.size,0,none⟩) (by simp) _),HB.out.setCell (p:=⟨w2.heap.size,0,none⟩) eP.out.size _⟩
     case measure=>simp[intOf];omega
   ·have KZ:i=l:=by omega
    have i7:X≠0:=by
     intro e;have:=HL.out;rw[e,eh] at this;simp at this;omega
    have hf:[BitVec.ofNat 32 (ar ((bits X).take i))]=dc X:=by
     rw[List.take_of_length_le (by rw[←HL.out];omega),bB];have h1:=HX.out;have h2:(BitVec.ofNat 32 X).toNat=X:=by rw[BitVec.toNat_ofNat];omega
     have h3:=vT (BitVec.ofNat 32 X) 0 (by rw[h2];omega);rw[h2,Nat.mul_zero,Nat.add_zero,dt] at h3;exact h3.symm
    have HF:=zH hf;have oY:((i:Int)<(l:Int))=False:=eq_false (by omega);clear hf KZ i7;go_wp2_with fail;go_ret
    exact⟨_,rfl,by rw[←HF.out];exact HO.out,HB.out⟩
end Go.Proofs.YtjlhbfbdcfajfaaGreatDoor
