/- Ref7 Ref8 Ref9 -/
import Derived.Test.YtjlhbfbdcfajfaaGreatDoorW20
import Derived.Test.YtjlhbfbdcfajfaaGreatDoorW10
import Derived.Test.YtjlhbfbdcfajfaaGreatDoorW13
import Derived.Laws.BitsAllLaws
import Derived.Test.YtjlhbfbdcfajfaaGreatDoorW03
set_option maxHeartbeats 8000000
set_option maxRecDepth 100000
namespace Go.Proofs.YtjlhbfbdcfajfaaGreatDoor
open Go.RowKit
theorem ji {n L:Nat} (h:n<2^L) {k:Nat} (hk:L≤k):(bits n).length≤k:=Nat.le_trans (jP h) hk
theorem U0 {S S2:Nat→Prop} {A A2:Option Addr} {n c n2 c2:Nat} {X Y:Nat} {w:World} (h:RS w S A n c (bits X)) (h2:RS w S2 A2 n2 c2 (bits Y)) (hS:∀b,S b→b<w.heap.size) (iN:∀b,S2 b→b<w.heap.size) (L:Nat) (hL:L≤137438953472) (hX:X<2^L) (hY:Y<2^L) : Calls Tryz.prog 115 #[.slice A n c,.slice A2 n2 c2] w (jR w 4 (bits (Nat.gcd X Y))):=by
 have HA:=zH (h.sub (S':=fun b=>b<w.heap.size) hS);have XC:=zH (h2.sub (S':=fun b=>b<w.heap.size) iN);have HX:=zH hX;have HY:=zH hY;obtain⟨G,hG⟩:∃G,Nat.gcd X Y=G:=⟨_,rfl⟩;rw[hG];have HG:=zH hG;clear h h2 hX hY hG;go_enter Tryz.func115,Tryz.ntmps115;go_wp2_with fail;go_loopg [0,1] Y (fun k va vb wr=>∃a A n c A2 n2 c2,va=.slice A n c∧vb=.slice A2 n2 c2∧a<2^L∧k<2^L∧Nat.gcd a k=G∧RS wr (fun b=>b<wr.heap.size) A n c (bits a)∧RS wr (fun b=>b<wr.heap.size) A2 n2 c2 (bits k)∧Below w.heap.size w wr)
 case atStart=>exact⟨X,A,n,c,A2,n2,c2,rfl,rfl,HX.out,HY.out,HG.out,HA.out,XC.out,Below.refl _ _⟩
 case round=>
  clear HA XC HX HY HG;obtain⟨a,A3,n3,c3,A4,n4,c4,rfl,rfl,ha,hk,hg,hra,hrb,hb⟩:=hrel;have HRA:=zH hra;have HRB:=zH hrb;have HB:=zH hb;have HGG:=zH hg;have HAL:=zH ha;have HKL:=zH hk;have WT:n3≤137438953472:=by rw[←hra.len];exact ji ha hL
  have Mo:n4≤137438953472:=by rw[←hrb.len];exact ji hk hL
  clear hra hrb hb hg ha hk;rcases Nat.eq_zero_or_pos n4 with h0|h0
  ·subst h0;have PF:gk=0:=sp (List.eq_nil_of_length_eq_zero HRB.out.len);have ZM:a=G:=by have:=HGG.out;rw[PF,Nat.gcd_zero_right] at this;exact this
   have bR:=jI HRA.out (by omega);rw[bE,ZM] at bR;have HC:=zH bR;clear PF ZM bR;go_wp2_with fail;refine HC.out.mono ?_;rintro e w2 ⟨v2,rfl,nM,cj⟩;have oR:=zH (nM.base_le HB.out.size);have fe:=zH (ak HB.out cj);clear nM cj;go_wp2_with fail;go_ret
   exact⟨_,rfl,oR.out,fe.out⟩
  ·have hkp:0<gk:=by
    rcases Nat.eq_zero_or_pos gk with h|h
    ·exfalso
     have:=HRB.out.len;rw[h,ey] at this;simp at this;omega
    ·exact h
   have bR:=B7 HRA.out HRB.out (fun _ h=>h) (fun _ h=>h) WT Mo (by rw[bE];exact hkp);rw[bE,bE] at bR;have HC:=zH bR;clear bR;go_wp2_with fail;refine HC.out.mono ?_;rintro e w3 ⟨v1,v2,rfl,hq,hr,kP⟩;obtain⟨A5,n5,c5,rfl,hn5⟩:=hr.slice;have V4:=zH hr.rsAll;have amI:=zH ((HRB.out.below kP (fun _ h=>h)).sub (S':=fun b=>b<w3.heap.size) (fun b h=>Nat.lt_of_lt_of_le h kP.size));have mI:=zH (ak HB.out kP);clear hq hr kP hn5;go_wp2_with fail
   go_roundg (a%gk)
   case measure=>exact Nat.mod_lt _ hkp
   case rel=>exact⟨gk,_,_,_,_,_,_,rfl,rfl,HKL.out,Nat.lt_trans (Nat.mod_lt _ hkp) HKL.out,((Nat.gcd_comm _ _).trans ((Nat.gcd_rec gk a).symm.trans (Nat.gcd_comm _ _))).trans HGG.out,amI.out,V4.out,mI.out⟩
theorem LH {g:Nat} (h:g≠0) (l:List UInt8):(gy g).reverse++l=(gy (g/10)).reverse++(Fp g::l):=by
 rw[gy,dif_neg h,List.reverse_cons,List.append_assoc];rfl
theorem xJ {X L:Nat} (h:X<2^L):(gy X).length≤L+1:=by
 by_cases h0:X=0
 ·subst h0;rw[gS];exact Nat.zero_le _
 ·have h1:=Er h0;have h2:(2:Nat)^((gy X).length-1)≤10^((gy X).length-1):=Nat.pow_le_pow_left (by omega) _;have h3:=(Nat.pow_lt_pow_iff_right (a:=2) (by omega)).1 (Nat.lt_of_le_of_lt (Nat.le_trans h2 h1) h);omega
theorem LJ {S:Nat→Prop} {A:Option Addr} {n c:Nat} {X:Nat} {w:World} (h:RS w S A n c (bits X)) (hS:∀b,S b→b<w.heap.size) (L:Nat) (hL:L≤1000) (hX:X<2^L) : Calls Tryz.prog 87 #[.slice A n c] w (jQ w (.string ⟨(bI X).toArray⟩)):=by
 have HA:=zH (h.sub (S':=fun b=>b<w.heap.size) hS);have HX:=zH hX;have HDS:=zH (xJ hX);obtain⟨T,hT⟩:∃T:ByteArray,⟨(bI X).toArray⟩=T:=⟨_,rfl⟩;rw[hT];have HT:=zH hT;have HN:=zH h.len;have Mn:=h.max;clear h hX hT;go_enter Tryz.func87,Tryz.ntmps87;rcases Nat.eq_zero_or_pos n with h0|h0
 ·subst h0;have jk:X=0:=sp (List.eq_nil_of_length_eq_zero HN.out);have ht:(⟨#[48]⟩:ByteArray)=T:=by rw[←HT.out,jk];rfl
  have Fs:=zH ht;clear jk ht;go_wp2_with fail;go_ret
  exact⟨congrArg (fun t=>Ending.returned (.string t)) Fs.out,Below.refl _ _⟩
 ·have hb0:((n:Int)==0)=false:=by rw[beq_eq_false_iff_ne];omega
  have jk:X≠0:=by
   intro e;have:=HN.out;rw[e,ey] at this;simp at this;omega
  have HX0:=zH jk;clear jk;go_wp2_with fail;go_loopg [0,3] X (fun g va vs wr=>∃(A:Option Addr) (n c:Nat) (l:List UInt8) (s:ByteArray),va=.slice A n c∧vs=.string s∧s=⟨l.toArray⟩∧g<2^L∧(gy X).reverse=(gy g).reverse++l∧RS wr (fun b=>b<wr.heap.size) A n c (bits g)∧Below w.heap.size w wr)
  case atStart=>exact⟨A,n,c,[],_,rfl,rfl,rfl,HX.out,by simp,HA.out,Below.refl _ _⟩
  case round=>
   clear HA hb0 h0 HN;obtain⟨A3,n3,c3,l,s,rfl,rfl,hs,hg,hd,hr,hb⟩:=hrel;have HS:=zH hs;have HG:=zH hg;have HD:=zH hd;have HR:=zH hr;have HB:=zH hb;have hn3:n3≤1000:=by rw[←hr.len];exact ji hg hL
   clear hs hg hd hr hb;rcases Nat.eq_zero_or_pos n3 with h0|h0
   ·subst h0;have hg0:gk=0:=sp (List.eq_nil_of_length_eq_zero HR.out.len);have ht:s=T:=by
     have:=HD.out;rw[hg0,gS,List.reverse_nil,List.nil_append] at this;rw[HS.out,←HT.out,←this];unfold bI;rw[if_neg HX0.out]
    have Fs:=zH ht;clear hg0 ht;go_wp2_with fail;go_ret
    exact⟨congrArg (fun t=>Ending.returned (.string t)) Fs.out,HB.out⟩
   ·have hgp:gk≠0:=by
     intro e;have:=HR.out.len;rw[e,ey] at this;simp at this;omega
    have HGP:=zH hgp;clear hgp;go_wp2_with fail;refine(CO 10 (by omega) wr).mono ?_;rintro e w2 ⟨v2,rfl,nM,cj⟩;obtain⟨A4,n4,c4,rfl,hn4⟩:=nM.slice;have hl10:(bits 10).length≤4:=jP (by decide);have bR:=B7 (HR.out.below cj (fun _ h=>h)) nM.rsAll (fun b h=>Nat.lt_of_lt_of_le h cj.size) (fun _ h=>h) (by omega) (by omega) (by rw[bE];omega);rw[bE,bE] at bR;have HC:=zH bR;have fe:=zH (ak HB.out cj);clear bR nM cj hn4 hl10;go_wp2_with fail;refine HC.out.mono ?_;rintro e w3 ⟨v1,v2,rfl,hq,hr,kP⟩;obtain⟨A5,n5,c5,rfl,hn5⟩:=hq.slice;obtain⟨A6,n6,c6,rfl,hn6⟩:=hr.slice;obtain⟨ρ,hρ⟩:∃ρ,gk%10=ρ:=⟨_,rfl⟩;have ad1:ρ<10:=by omega
    rw[hρ] at hr hn6;have ar0:n6≤4:=by rw[hn6];exact jP (by omega)
    have HQ:=zH hq.rsAll;have E6:=zH hr.rsAll;have mI:=zH (ak fe.out kP);have abn:=zH hρ;have hw6:IntKind.i64.wrap ((n6:Int)-1)=(n6:Int)-1:=by rw[IntKind.wrap_i64]<;>omega
    clear hq hr kP hn5 hn6 hρ;go_wp2_with fail
    go_loop [6,7] (fun dv iv=>∃(k D:Nat) (z:Int),k≤n6∧iv=.int .i64 z∧z+1=k∧dv=.int .i64 D∧D=ar ((bits ρ).drop k)) (fun _ iv=>(intOf iv+1).toNat)
    case atStart=>exact⟨n6,0,(n6:Int)-1,Nat.le_refl _,rfl,by omega,rfl,by rw[List.drop_eq_nil_of_le (by rw[E6.out.len];exact Nat.le_refl _)];rfl⟩
    case round=>
     obtain⟨k,D,z,hk,rfl,hz,rfl,hD⟩:=hrel;have hDs:D<10:=by
      rw[hD];refine Nat.lt_of_le_of_lt ?_ ad1;have h1:=m7 (bits ρ) k;rw[bE] at h1;have h2:1*ar ((bits ρ).drop k)≤2^k*ar ((bits ρ).drop k):=Nat.mul_le_mul_right _ (Nat.pow_pos (by omega));omega
     have HDD:=zH hD;clear hD;rcases k with _|k
     ·obtain rfl:z= -1:=by omega
      have hDr:D=ρ:=by have:=HDD.out;rw[List.drop_zero,bE] at this;exact this
      subst hDr;obtain⟨x,hx⟩:∃x,Fp gk=x:=⟨_,rfl⟩;have hxv:(x.toNat:Int)=48+(D:Int):=by
       rw[←hx];unfold Fp;rw[UInt8.toNat_ofNat',abn.out];omega
      have gj:IntKind.i64.wrap (48+(D:Int))=48+(D:Int):=by rw[IntKind.wrap_i64]<;>omega
      have Uz:IntKind.u8.wrap (48+(D:Int))=(x.toNat:Int):=by rw[IntKind.wrap_u8];omega
      have dl:=LH HGP.out l;rw[hx,←HD.out] at dl;have Ff:(⟨#[x]⟩:ByteArray)++s=⟨(x::l).toArray⟩:=by rw[HS.out];exact gl [x] l
      have Zo:s.size≤1001:=by
       rw[HS.out];show l.toArray.size≤1001;have h1:=congrArg List.length HD.out;rw[List.length_append,List.length_reverse,List.length_reverse] at h1;have:=HDS.out;rw[List.size_toArray];omega
      have Pf:(⟨#[x]⟩:ByteArray).size≤1001:=by show(1:Nat)≤1001;omega
      have hrb:RS (w3.alloc (.cells #[.int .u8 (x.toNat:Int)] 5)) (fun _=>True) (some ⟨w3.heap.size,0,none⟩) 1 1 [x]:=RS.of_blk (t:=5) (cs:=#[.int .u8 (x.toNat:Int)]) (dE.new _ _ _) (Flat.bytes [x]) rfl (Nat.le_refl _) (by decide) trivial;have Sq:=AM hrb;have AF:=zH dl;have HS2:=zH Ff;have HBN:=zH (mI.out.alloc mI.out.size (.cells #[.int .u8 (x.toNat:Int)] 5));have HQN:=zH ((HQ.out.below ((Below.refl w3.heap.size w3).alloc (Nat.le_refl _) (.cells #[.int .u8 (x.toNat:Int)] 5)) (fun _ h=>h)).sub (S':=fun b=>b<(w3.alloc (.cells #[.int .u8 (x.toNat:Int)] 5)).heap.size) (fun b h=>by simp;omega));have HXV:=zH hxv;clear hx hxv hrb dl Ff hz;go_wp2_with fail
      go_roundg (gk/10)
      case measure=>have:=HGP.out;omega
      case rel=>exact⟨A5,n5,c5,x::l,_,rfl,rfl,HS2.out,by have:=HG.out;omega,AF.out,HQN.out,HBN.out⟩
     ·obtain rfl:z=k:=by omega
      obtain⟨b,o,x,rfl,_,hx,e1⟩:=E6.out.bool_at (k:=k) (by omega);have gV:(k:Int)<(n6:Int):=by omega
      have PD:(k:Int)≤(c6:Int):=by have:=E6.out.cap;omega
      have PF:(0≤(k:Int))=True:=eq_true (by omega);have dl:=eh (bits ρ) k;rw[fY hx,←HDD.out] at dl;have AF:=zH dl;have gj:IntKind.i64.wrap (2*(D:Int))=2*(D:Int):=by rw[IntKind.wrap_i64]<;>omega
      have Uz:IntKind.i64.wrap (2*(D:Int)+1)=2*(D:Int)+1:=by rw[IntKind.wrap_i64]<;>omega
      have hwk:IntKind.i64.wrap ((k:Int)-1)=(k:Int)-1:=by rw[IntKind.wrap_i64]<;>omega
      clear dl hx hz;cases x with
      | false=>
       go_wp2_with fail;go_round
       case rel=>exact⟨k,2*D,(k:Int)-1,by omega,by go_num,by omega,by go_num,by have:=AF.out;simp at this;omega⟩
       case measure=>simp[intOf]
      | true=>
       go_wp2_with fail;go_round
       case rel=>exact⟨k,2*D+1,(k:Int)-1,by omega,by go_num,by omega,by go_num,by have:=AF.out;simp at this;omega⟩
       case measure=>simp[intOf]
theorem aaY (x:BitVec 32) (k:Nat):(Go.bits .and .u32 ((x.toNat:Int)/2^k) 1==1)=(x.toNat/2^k%2==1):=by
 have e:(x.toNat:Int)/2^k=((x.toNat/2^k:Nat):Int):=by simp
 have hlt:x.toNat/2^k<4294967296:=Nat.lt_of_le_of_lt (Nat.div_le_self _ _) x.isLt;rw[e,show(1:Int)=((1:Nat):Int) from rfl,u32_and_nat _ _ hlt (by omega),Nat.and_one_is_mod];obtain⟨t,ht⟩:∃t,x.toNat/2^k%2=t:=⟨_,rfl⟩;rw[ht];rw[Bool.eq_iff_iff];simp only[beq_iff_eq];omega
theorem adl (i:Nat):2^(32*i)=4294967296^i:=by rw[Nat.pow_mul]
theorem Ef {S:Nat→Prop} {A:Option Addr} {n c:Nat} {xs:List (BitVec 32)} {w:World} (h:RS w S A n c xs) (hS:∀b,S b→b<w.heap.size) (hn:n≤1000000) : Calls Tryz.prog 91 #[.slice A n c] w (jR w 4 (bits (val xs))):=by
 have H:=zH h;have HL:=zH h.len;have HS:=zH hS;clear h hS;go_enter Tryz.func91,Tryz.ntmps91;go_wp2_with fail;go_loopw [3,4] (fun sv iv wr=>∃(i:Nat) (out:List Bool),iv=.int .i64 i∧i≤n∧Own wr bw w.heap.size 4 sv out∧out.length=32*i∧ar out=val (xs.take i)∧Below w.heap.size w wr) (fun _ iv _=>n-(intOf iv).toNat)
 case atStart=>exact⟨0,[],rfl,Nat.zero_le _,Own.nil _ _ _,rfl,by rw[List.take_zero];rfl,Below.refl _ _⟩
 case round=>
  obtain⟨i,out,rfl,hi,ho,nS,hv,hb⟩:=hrel;have HO:=zH ho;have HB:=zH hb;have HV:=zH hv;have Cz:=zH nS;obtain⟨A4,n4,c4,rfl,hn4⟩:=ho.slice;clear ho hb hn4 hv nS;rcases Nat.lt_or_ge i n with hlt|hge
  ·have hd:((i:Int)<(n:Int))=True:=eq_true (by omega);have hwi:IntKind.i64.wrap ((i:Int)+1)=(i:Int)+1:=by rw[IntKind.wrap_i64]<;>omega
   obtain⟨b,o,x,rfl,Cu,hx,e1⟩:=(H.out.below HB.out HS.out).limb_at hlt;have HX:=zH hx;clear hx;have HW0:=zH (rfl:wr=wr);obtain⟨w0,hw0⟩:∃q,q=wr:=⟨_,rfl⟩;have HWR:=zH hw0;clear hw0;go_wp2_with fail;go_loopw [3,5] (fun sv kv wr=>∃(k:Nat) (out:List Bool),kv=.int .u64 k∧k≤32∧Own wr bw w.heap.size 4 sv out∧out.length=32*i+k∧ar out=val (xs.take i)+2^(32*i)*(x.toNat%2^k)∧Below w.heap.size w wr) (fun _ kv _=>32-(intOf kv).toNat)
   case atStart=>exact⟨0,out,rfl,Nat.zero_le _,HO.out,Cz.out,by rw[HV.out,Nat.pow_zero,Nat.mod_one,Nat.mul_zero,Nat.add_zero],HB.out⟩
   case round=>
    obtain⟨k,Oc,rfl,hk,ho,nS,hv,hb⟩:=hrel;have oR:=zH ho;have fe:=zH hb;have HV2:=zH hv;have V6:=zH nS;obtain⟨A5,n5,c5,rfl,hn5⟩:=ho.slice;clear ho hb hn5 hv nS;rcases Nat.lt_or_ge k 32 with jX|hge2
    ·have e2:wr.cell? ⟨b,o+i,none⟩=some (.int .u32 (x.toNat:Int)):=by
      obtain⟨b',o',x',hA,_,hx',e3⟩:=(H.out.below fe.out HS.out).limb_at hlt;injection hA with hA
      injection hA with h1 h2
      subst h1 h2;rw[HX.out] at hx';injection hx' with hx'
      subst hx';exact e3
     clear e1;have dk:((k:Int)<32)=True:=eq_true (by omega);obtain⟨y,hy⟩:∃y,(x.toNat/2^k%2==1)=y:=⟨_,rfl⟩;have akM:=aaY x k;rw[hy] at akM;have dl:ar (Oc++[y])=val (xs.take i)+2^(32*i)*(x.toNat%2^(k+1)):=by
      have R9:y.toNat=x.toNat/2^k%2:=by
       rw[←hy];rcases Nat.mod_two_eq_zero_or_one (x.toNat/2^k) with h|h<;>rw[h]<;>rfl
      rw[mB,HV2.out,V6.out,R9,Nat.mod_pow_succ,Nat.mul_add,Nat.pow_add,Nat.mul_assoc,Nat.add_assoc]
     have hwk:IntKind.u64.wrap ((k:Int)+1)=(k:Int)+1:=by rw[IntKind.wrap_u64];omega
     have AF:=zH dl;have bO:(Oc.length+1)*(1+1)≤140737488355328:=by have:=V6.out;omega
     have mH:=zH bO;have agb:=zH jX;clear dl bO hy;go_wp2_with (at_builtin; refine em (α:=Bool) (w0:=w) rfl _ _ 120 rfl 1 Tryz.bitsTy rfl oR.out fe.out [.bool y] y 1 rfl rfl 4 (by simp[Value.oneCell']) mH.out ?_; intro v4 w4 hown4 j6 hg4 hl4; have E8:=zH hown4; have yi:=zH j6; clear hown4 j6 hg4 hl4);go_roundw
     case rel=>exact⟨k+1,Oc++[y],by go_num,agb.out,E8.out,by have:=V6.out;simp;omega,AF.out,yi.out⟩
     case measure=>have:=agb.out;simp[intOf];omega
    ·have akm:k=32:=by omega
     have hv:ar Oc=val (xs.take (i+1)):=by
      rw[HV2.out,akm,lB HX.out,adl,Nat.mod_eq_of_lt x.isLt]
     have HVF:=zH hv;have dk:((k:Int)<32)=False:=eq_false (by omega);clear hv;go_wp2_with fail;go_roundw
     case rel=>exact⟨i+1,Oc,by go_num,hlt,oR.out,by have:=V6.out;omega,HVF.out,fe.out⟩
     case measure=>simp[intOf];omega
  ·have hd:((i:Int)<(n:Int))=False:=eq_false (by omega);have dM:ar out=val xs:=by rw[HV.out,List.take_of_length_le (by rw[HL.out];omega)]
   have bR:=jI (HO.out.rsAll) (by rw[←HO.out.rsAll.len];have:=Cz.out;omega);rw[dM] at bR;have HC:=zH bR;clear bR dM;go_wp2_with fail;refine HC.out.mono ?_;rintro e w2 ⟨v2,rfl,nM,cj⟩;have oR:=zH (nM.base_le HB.out.size);have fe:=zH (ak HB.out cj);clear nM cj;go_wp2_with fail;go_ret
   exact⟨_,rfl,oR.out,fe.out⟩
theorem or_bit {v i:Nat} (hv:v<2^i) (hi:i<32):Go.bits .or .u32 (v:Int) (2^i%4294967296)=((BitVec.ofNat 32 (v+2^i)).toNat:Int):=by
 have hp:2^(i+1)≤4294967296:=Nat.pow_le_pow_right (n:=2) (by omega) (by omega:i+1≤32);rw[Nat.pow_succ] at hp;have e:(2^i%4294967296:Int)=((2^i:Nat):Int):=by
  have:((2^i:Nat):Int)=(2:Int)^i:=by simp
  rw[←this];omega
 rw[e,u32_or_nat _ _ (by omega) (by omega),BitVec.toNat_ofNat];have h1:=Nat.two_pow_add_eq_or_of_lt hv 1;rw[Nat.mul_one,Nat.or_comm] at h1;rw[←h1,Nat.add_comm v];omega
theorem XJ {S:Nat→Prop} {A:Option Addr} {n c:Nat} {xs:List Bool} {w:World} (h:RS w S A n c xs) (hn:n≤1000000) (hX:ar xs<4294967296) : Calls Tryz.prog 170 #[.slice A n c] w (jR w 98 (dm (ar xs))):=by
 obtain⟨X,hXX⟩:∃X,ar xs=X:=⟨_,rfl⟩;have bR:=jI h (by omega);rw[hXX] at bR hX;rw[hXX];have HC:=zH bR;have HX:=zH hX;clear h bR hX hXX;obtain⟨i0,hi,kG,fH,iP⟩:=info_parts Tryz.u32Info;have HI:=zH hi;have qJ:=zH kG;have kr:=zH fH;have lA:=zH iP;clear hi kG fH iP;go_enter Tryz.func170,Tryz.ntmps170;go_wp2_with fail;refine HC.out.mono ?_;rintro e w2 ⟨v2,rfl,nM,cj⟩;obtain⟨A2,l,c2,rfl,hl⟩:=nM.slice;have hl32:l≤32:=by rw[hl];exact jP HX.out
 have oR:=zH nM;have fe:=zH cj;have HL:=zH hl;clear nM cj hl;rcases Nat.eq_zero_or_pos l with h0|h0
 ·subst h0;have jk:X=0:=sp (List.eq_nil_of_length_eq_zero HL.out.symm);subst jk;go_wp2_with (refine ck (α:=BitVec 32) w2 rfl _ _ 26 rfl rfl w.heap.size i0 (.int .u32 0) Tryz.underlying26 HI.out qJ.out kr.out rfl .i64 .i64 0 0 0 rfl rfl rfl rfl (by rw[lA.out];omega) (by unfold maxLen;omega) fe.out.size 0#32 bw (fun _ h=>h.elim) (fun _ _=>rfl) ?_; intro w3 xm hg3; have E9:=zH xm; have mI:=zH (fe.out.grown hg3 fe.out.size (fun k hk=>by cases hk)); clear xm hg3);go_loopw [4] (fun iv wr=>iv=.int .i64 0∧wr=w3) (fun _ _=>0)
  case atStart=>exact⟨rfl,rfl⟩
  case round=>
   obtain⟨rfl,rfl⟩:=hrel;go_wp2_with fail;go_ret
   exact⟨_,rfl,by rw[dC];exact E9.out,mI.out⟩
 ·have W6:((l:Int)+31)/32=1:=by omega
  have Sp:((l:Int)+31).tdiv 32=1:=by rw[Int.tdiv_eq_ediv_of_nonneg (by omega)];exact W6
  have gj:IntKind.i64.wrap ((l:Int)+31)=(l:Int)+31:=by rw[IntKind.wrap_i64]<;>omega
  go_wp2_with (refine ck (α:=BitVec 32) w2 rfl _ _ 26 rfl rfl w.heap.size i0 (.int .u32 0) Tryz.underlying26 HI.out qJ.out kr.out rfl .i64 .i64 1 1 1 rfl rfl rfl rfl (by rw[lA.out];omega) (by unfold maxLen;omega) fe.out.size 0#32 bw (fun _ h=>h.elim) (fun _ _=>rfl) ?_; intro w3 xm hg3; have E9:=zH xm; have mI:=zH (fe.out.grown hg3 fe.out.size (fun k hk=>by cases hk)); have HR3:=zH (oR.out.rsAll.keep (S':=fun b=>b<w2.heap.size) (fun _ h=>h) ((aA.grown hg3).sub fun b hb=>⟨hb,by simp⟩)); clear xm hg3);have UG:List.replicate 1 0#32=[BitVec.ofNat 32 (ar ((bits X).take 0))]:=by rw[List.take_zero];rfl
  have xm:=E9.out;rw[UG] at xm;have af9:=zH xm;clear xm UG E9;go_loopw [4] (fun iv wr=>∃i:Nat,iv=.int .i64 i∧i≤l∧Own wr bw w.heap.size 98 (.slice (some ⟨w2.heap.size,0,none⟩) 1 1) [BitVec.ofNat 32 (ar ((bits X).take i))]∧RS wr (fun b=>b<w2.heap.size) A2 l c2 (bits X)∧Below w.heap.size w wr) (fun iv _=>l-(intOf iv).toNat)
  case atStart=>exact⟨0,rfl,Nat.zero_le _,af9.out,HR3.out,mI.out⟩
  case round=>
   clear af9 HR3 mI HC;obtain⟨i,rfl,hi,ho,hr,hb⟩:=hrel;have HO:=zH ho;have HR:=zH hr;have HB:=zH hb;clear ho hr hb;rcases Nat.lt_or_ge i l with hlt|hge
   ·obtain⟨b,o,x,rfl,Cu,hx,e1⟩:=HR.out.bool_at hlt;have PD:(i:Int)≤(c2:Int):=by have:=HR.out.cap;omega
    have pC:((i:Int)<(l:Int))=True:=eq_true (by omega);have hwi:IntKind.i64.wrap ((i:Int)+1)=(i:Int)+1:=by rw[IntKind.wrap_i64]<;>omega
    have dl:=fF (bits X) i;rw[fY hx] at dl;obtain⟨v,hv⟩:∃v,ar ((bits X).take i)=v:=⟨_,rfl⟩;have Cq:v<2^i:=by rw[←hv];exact m6 _ _
    have Zw:2^(i+1)≤4294967296:=Nat.pow_le_pow_right (n:=2) (by omega) (by omega:i+1≤32);rw[Nat.pow_succ] at Zw;obtain⟨e2,e3⟩:=HO.out.limb (k:=0) (by simp);have Sq:(([BitVec.ofNat 32 (ar ((bits X).take i))]:List (BitVec 32)).getD 0 0#32).toNat=v:=by
     show(BitVec.ofNat 32 (ar ((bits X).take i))).toNat=v;rw[hv,BitVec.toNat_ofNat];omega
    rw[Sq] at e2;rw[hv] at dl;have AF:=zH dl;have HP:=zH Zw;have HVL:=zH Cq;have HV:=zH hv;have h1:(i:Int)/32=0:=by omega
    have h2:(i:Int).tdiv 32=0:=by rw[Int.tdiv_eq_ediv_of_nonneg (by omega)];exact h1
    have h3:(i:Int)%32=(i:Int):=by omega
    have h4:(i:Int).tmod 32=(i:Int):=by rw[Int.tmod_eq_emod_of_nonneg (by omega)];exact h3
    have h5:IntKind.u64.wrap (i:Int)=(i:Int):=by rw[IntKind.wrap_u64];omega
    clear hx dl hv Sq Cq Zw;cases x with
    | false=>
     have hs:[BitVec.ofNat 32 (ar ((bits X).take (i+1)))]=[BitVec.ofNat 32 (ar ((bits X).take i))]:=by
      rw[AF.out,HV.out];simp
     have HS:=zH hs;clear hs;go_wp2_with fail;go_roundw
     case rel=>exact⟨i+1,by go_num,by omega,by rw[HS.out];exact HO.out,HR.out,HB.out⟩
     case measure=>simp[intOf];omega
    | true=>
     have lP:=or_bit HVL.out (by omega:i<32);have hs:([BitVec.ofNat 32 (ar ((bits X).take i))]:List (BitVec 32)).set 0 (BitVec.ofNat 32 (v+2^i))=[BitVec.ofNat 32 (ar ((bits X).take (i+1)))]:=by
      rw[AF.out,HV.out];simp
     have HS:=zH hs;clear hs;go_wp2_with fail;go_roundw
     case rel=>exact⟨i+1,by go_num,by omega,by rw[←HS.out];exact HO.out.setLimb 0 _,HR.out.keep (fun _ h=>h) ((aA.refl _ _).setCell (p:=⟨w2.heap.size,0,none⟩) (by simp) _),HB.out.setCell (p:=⟨w2.heap.size,0,none⟩) fe.out.size _⟩
     case measure=>simp[intOf];omega
   ·have Mp:i=l:=by omega
    have jk:X≠0:=by
     intro e;have:=HL.out;rw[e,ey] at this;simp at this;omega
    have hf:[BitVec.ofNat 32 (ar ((bits X).take i))]=dm X:=by
     rw[List.take_of_length_le (by rw[←HL.out];omega),bE];have h1:=HX.out;have h2:(BitVec.ofNat 32 X).toNat=X:=by rw[BitVec.toNat_ofNat];omega
     have h3:=xc (BitVec.ofNat 32 X) 0 (by rw[h2];omega);rw[h2,Nat.mul_zero,Nat.add_zero,dC] at h3;exact h3.symm
    have HF:=zH hf;have pC:((i:Int)<(l:Int))=False:=eq_false (by omega);clear hf Mp jk;go_wp2_with fail;go_ret
    exact⟨_,rfl,by rw[←HF.out];exact HO.out,HB.out⟩
end Go.Proofs.YtjlhbfbdcfajfaaGreatDoor
