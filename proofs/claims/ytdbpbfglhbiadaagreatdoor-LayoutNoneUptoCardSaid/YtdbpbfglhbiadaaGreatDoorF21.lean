/- Ref7 Ref8 Ref9 -/
import Derived.Test.YtdbpbfglhbiadaaGreatDoorF20
import Derived.Test.YtdbpbfglhbiadaaGreatDoorF10
import Derived.Test.YtdbpbfglhbiadaaGreatDoorF13
import Derived.Laws.BitsAllLaws
import Derived.Test.YtdbpbfglhbiadaaGreatDoorF03
set_option maxHeartbeats 8000000
set_option maxRecDepth 100000
namespace Go.Proofs.YtdbpbfglhbiadaaGreatDoor
open Go.RowKit
theorem hZ {n L:Nat} (h:n<2^L) {k:Nat} (hk:L<=k):(bits n).length<=k:=Nat.le_trans (iN h) hk
theorem SC {S S2:Nat->Prop} {A A2:Option Addr} {n c n2 c2:Nat} {X Y:Nat} {w:World} (h:RS w S A n c (bits X)) (h2:RS w S2 A2 n2 c2 (bits Y)) (hS:∀b,S b->b<w.heap.size) (gL:∀b,S2 b->b<w.heap.size) (L:Nat) (hL:L<=137438953472) (hX:X<2^L) (hY:Y<2^L) : Calls Tryz.prog 176 #[.slice A n c,.slice A2 n2 c2] w (iP w 4 (bits (Nat.gcd X Y))):=by
 have HA:=zH (h.sub (S':=λb=>b<w.heap.size) hS);have Vr:=zH (h2.sub (S':=λb=>b<w.heap.size) gL);have HX:=zH hX;have HY:=zH hY;obtain⟨G,hG⟩:∃G,Nat.gcd X Y=G:=⟨_,rfl⟩;rw[hG];have HG:=zH hG;clear h h2 hX hY hG;go_enter Tryz.func176,Tryz.ntmps176;go_wp2_with fail;go_loopg [0,1] Y (λk va vb wr=>∃a A n c A2 n2 c2,va=.slice A n c/\vb=.slice A2 n2 c2/\a<2^L/\k<2^L/\Nat.gcd a k=G/\RS wr (λb=>b<wr.heap.size) A n c (bits a)/\RS wr (λb=>b<wr.heap.size) A2 n2 c2 (bits k)/\Below w.heap.size w wr)
 case atStart=>exact⟨X,A,n,c,A2,n2,c2,rfl,rfl,HX.out,HY.out,HG.out,HA.out,Vr.out,Below.refl _ _⟩
 case round=>
  clear HA Vr HX HY HG;obtain⟨a,A3,n3,c3,A4,n4,c4,rfl,rfl,ha,hk,hg,hra,Z1,hb⟩:=hrel;have HRA:=zH hra;have HRB:=zH Z1;have HB:=zH hb;have HGG:=zH hg;have HAL:=zH ha;have HKL:=zH hk;have PV:n3<=137438953472:=by rw[<-hra.len];exact hZ ha hL
  have Km:n4<=137438953472:=by rw[<-Z1.len];exact hZ hk hL
  clear hra Z1 hb hg ha hk;rcases Nat.eq_zero_or_pos n4 with h0|h0
  ·subst h0;have ND:gk=0:=pO (List.eq_nil_of_length_eq_zero HRB.out.len);have XO:a=G:=by have:=HGG.out;rw[ND,Nat.gcd_zero_right] at this;exact this
   have bw:=iH HRA.out (by omega);rw[bh,XO] at bw;have HC:=zH bw;clear ND XO bw;go_wp2_with fail;refine HC.out.mono ?_;rintro e w2 ⟨v2,rfl,lL,bH⟩;have mR:=zH (lL.base_le HB.out.size);have ek:=zH (ak HB.out bH);clear lL bH;go_wp2_with fail;go_ret
   exact⟨_,rfl,mR.out,ek.out⟩
  ·have Z6:0<gk:=by
    rcases Nat.eq_zero_or_pos gk with h|h
    ·exfalso
     have:=HRB.out.len;rw[h,dD] at this;simp at this;omega
    ·exact h
   have bw:=zl HRA.out HRB.out (λ_ h=>h) (λ_ h=>h) PV Km (by rw[bh];exact Z6);rw[bh,bh] at bw;have HC:=zH bw;clear bw;go_wp2_with fail;refine HC.out.mono ?_;rintro e w3 ⟨v1,v2,rfl,hq,hr,jF⟩;obtain⟨A5,n5,c5,rfl,hn5⟩:=hr.slice;have TR:=zH hr.rsAll;have ako:=zH ((HRB.out.below jF (λ_ h=>h)).sub (S':=λb=>b<w3.heap.size) (λb h=>Nat.lt_of_lt_of_le h jF.size));have kR:=zH (ak HB.out jF);clear hq hr jF hn5;go_wp2_with fail
   go_roundg (a%gk)
   case measure=>exact Nat.mod_lt _ Z6
   case rel=>exact⟨gk,_,_,_,_,_,_,rfl,rfl,HKL.out,Nat.lt_trans (Nat.mod_lt _ Z6) HKL.out,((Nat.gcd_comm _ _).trans ((Nat.gcd_rec gk a).symm.trans (Nat.gcd_comm _ _))).trans HGG.out,ako.out,TR.out,kR.out⟩
theorem JL {g:Nat} (h:g≠0) (l:List UInt8):(fE g).reverse++l=(fE (g/10)).reverse++(CX g::l):=by
 rw[fE,dif_neg h,List.reverse_cons,List.append_assoc];rfl
theorem uP {X L:Nat} (h:X<2^L):(fE X).length<=L+1:=by
 by_cases h0:X=0
 ·subst h0;rw[fX];exact Nat.zero_le _
 ·have h1:=BM h0;have h2:(2:Nat)^((fE X).length-1)<=10^((fE X).length-1):=Nat.pow_le_pow_left (by omega) _;have h3:=(Nat.pow_lt_pow_iff_right (a:=2) (by omega)).1 (Nat.lt_of_le_of_lt (Nat.le_trans h2 h1) h);omega
theorem JN {S:Nat->Prop} {A:Option Addr} {n c:Nat} {X:Nat} {w:World} (h:RS w S A n c (bits X)) (hS:∀b,S b->b<w.heap.size) (L:Nat) (hL:L<=1000) (hX:X<2^L) : Calls Tryz.prog 127 #[.slice A n c] w (iT w (.string ⟨(bj X).toArray⟩)):=by
 have HA:=zH (h.sub (S':=λb=>b<w.heap.size) hS);have HX:=zH hX;have HDS:=zH (uP hX);obtain⟨T,hT⟩:∃T:ByteArray,⟨(bj X).toArray⟩=T:=⟨_,rfl⟩;rw[hT];have HT:=zH hT;have HN:=zH h.len;have Kl:=h.max;clear h hX hT;go_enter Tryz.func127,Tryz.ntmps127;rcases Nat.eq_zero_or_pos n with h0|h0
 ·subst h0;have ia:X=0:=pO (List.eq_nil_of_length_eq_zero HN.out);have ht:(⟨#[48]⟩:ByteArray)=T:=by rw[<-HT.out,ia];rfl
  have Da:=zH ht;clear ia ht;go_wp2_with fail;go_ret
  exact⟨congrArg (λt=>Ending.returned (.string t)) Da.out,Below.refl _ _⟩
 ·have hb0:((n:Int)==0)=false:=by rw[beq_eq_false_iff_ne];omega
  have ia:X≠0:=by
   intro e;have:=HN.out;rw[e,dD] at this;simp at this;omega
  have Zr:=zH ia;clear ia;go_wp2_with fail;go_loopg [0,3] X (λg va vs wr=>∃(A:Option Addr) (n c:Nat) (l:List UInt8) (s:ByteArray),va=.slice A n c/\vs=.string s/\s=⟨l.toArray⟩/\g<2^L/\(fE X).reverse=(fE g).reverse++l/\RS wr (λb=>b<wr.heap.size) A n c (bits g)/\Below w.heap.size w wr)
  case atStart=>exact⟨A,n,c,[],_,rfl,rfl,rfl,HX.out,by simp,HA.out,Below.refl _ _⟩
  case round=>
   clear HA hb0 h0 HN;obtain⟨A3,n3,c3,l,s,rfl,rfl,hs,hg,hd,hr,hb⟩:=hrel;have HS:=zH hs;have HG:=zH hg;have HD:=zH hd;have HR:=zH hr;have HB:=zH hb;have hn3:n3<=1000:=by rw[<-hr.len];exact hZ hg hL
   clear hs hg hd hr hb;rcases Nat.eq_zero_or_pos n3 with h0|h0
   ·subst h0;have hg0:gk=0:=pO (List.eq_nil_of_length_eq_zero HR.out.len);have ht:s=T:=by
     have:=HD.out;rw[hg0,fX,List.reverse_nil,List.nil_append] at this;rw[HS.out,<-HT.out,<-this];unfold bj;rw[if_neg Zr.out]
    have Da:=zH ht;clear hg0 ht;go_wp2_with fail;go_ret
    exact⟨congrArg (λt=>Ending.returned (.string t)) Da.out,HB.out⟩
   ·have Z7:gk≠0:=by
     intro e;have:=HR.out.len;rw[e,dD] at this;simp at this;omega
    have HGP:=zH Z7;clear Z7;go_wp2_with fail;refine(Aj 10 (by omega) wr).mono ?_;rintro e w2 ⟨v2,rfl,lL,bH⟩;obtain⟨A4,n4,c4,rfl,hn4⟩:=lL.slice;have hl10:(bits 10).length<=4:=iN (by decide);have bw:=zl (HR.out.below bH (λ_ h=>h)) lL.rsAll (λb h=>Nat.lt_of_lt_of_le h bH.size) (λ_ h=>h) (by omega) (by omega) (by rw[bh];omega);rw[bh,bh] at bw;have HC:=zH bw;have ek:=zH (ak HB.out bH);clear bw lL bH hn4 hl10;go_wp2_with fail;refine HC.out.mono ?_;rintro e w3 ⟨v1,v2,rfl,hq,hr,jF⟩;obtain⟨A5,n5,c5,rfl,hn5⟩:=hq.slice;obtain⟨A6,n6,c6,rfl,hn6⟩:=hr.slice;obtain⟨ρ,hρ⟩:∃ρ,gk%10=ρ:=⟨_,rfl⟩;have acd:ρ<10:=by omega
    rw[hρ] at hr hn6;have apB:n6<=4:=by rw[hn6];exact iN (by omega)
    have HQ:=zH hq.rsAll;have CG:=zH hr.rsAll;have kR:=zH (ak ek.out jF);have Zx:=zH hρ;have hw6:IntKind.i64.wrap ((n6:Int)-1)=(n6:Int)-1:=by rw[IntKind.wrap_i64]<;>omega
    clear hq hr jF hn5 hn6 hρ;go_wp2_with fail
    go_loop [6,7] (λdv iv=>∃(k D:Nat) (z:Int),k<=n6/\iv=.int .i64 z/\z+1=k/\dv=.int .i64 D/\D=ar ((bits ρ).drop k)) (λ_ iv=>(intOf iv+1).toNat)
    case atStart=>exact⟨n6,0,(n6:Int)-1,Nat.le_refl _,rfl,by omega,rfl,by rw[List.drop_eq_nil_of_le (by rw[CG.out.len];exact Nat.le_refl _)];rfl⟩
    case round=>
     obtain⟨k,D,z,hk,rfl,hz,rfl,hD⟩:=hrel;have hDs:D<10:=by
      rw[hD];refine Nat.lt_of_le_of_lt ?_ acd;have h1:=lu (bits ρ) k;rw[bh] at h1;have h2:1*ar ((bits ρ).drop k)<=2^k*ar ((bits ρ).drop k):=Nat.mul_le_mul_right _ (Nat.pow_pos (by omega));omega
     have HDD:=zH hD;clear hD;rcases k with _|k
     ·obtain rfl:z= -1:=by omega
      have hDr:D=ρ:=by have:=HDD.out;rw[List.drop_zero,bh] at this;exact this
      subst hDr;obtain⟨x,hx⟩:∃x,CX gk=x:=⟨_,rfl⟩;have hxv:(x.toNat:Int)=48+(D:Int):=by
       rw[<-hx];unfold CX;rw[UInt8.toNat_ofNat',Zx.out];omega
      have fm:IntKind.i64.wrap (48+(D:Int))=48+(D:Int):=by rw[IntKind.wrap_i64]<;>omega
      have R1:IntKind.u8.wrap (48+(D:Int))=(x.toNat:Int):=by rw[IntKind.wrap_u8];omega
      have cA:=JL HGP.out l;rw[hx,<-HD.out] at cA;have CP:(⟨#[x]⟩:ByteArray)++s=⟨(x::l).toArray⟩:=by rw[HS.out];exact fo [x] l
      have Xq:s.size<=1001:=by
       rw[HS.out];show l.toArray.size<=1001;have h1:=congrArg List.length HD.out;rw[List.length_append,List.length_reverse,List.length_reverse] at h1;have:=HDS.out;rw[List.size_toArray];omega
      have Ng:(⟨#[x]⟩:ByteArray).size<=1001:=by show(1:Nat)<=1001;omega
      have Z1:RS (w3.alloc (.cells #[.int .u8 (x.toNat:Int)] 5)) (λ_=>True) (some ⟨w3.heap.size,0,none⟩) 1 1 [x]:=RS.of_blk (t:=5) (cs:=#[.int .u8 (x.toNat:Int)]) (cO.new _ _ _) (Flat.bytes [x]) rfl (Nat.le_refl _) (by decide) trivial;have P1:=yc Z1;have xU:=zH cA;have HS2:=zH CP;have HBN:=zH (kR.out.alloc kR.out.size (.cells #[.int .u8 (x.toNat:Int)] 5));have HQN:=zH ((HQ.out.below ((Below.refl w3.heap.size w3).alloc (Nat.le_refl _) (.cells #[.int .u8 (x.toNat:Int)] 5)) (λ_ h=>h)).sub (S':=λb=>b<(w3.alloc (.cells #[.int .u8 (x.toNat:Int)] 5)).heap.size) (λb h=>by simp;omega));have HXV:=zH hxv;clear hx hxv Z1 cA CP hz;go_wp2_with fail
      go_roundg (gk/10)
      case measure=>have:=HGP.out;omega
      case rel=>exact⟨A5,n5,c5,x::l,_,rfl,rfl,HS2.out,by have:=HG.out;omega,xU.out,HQN.out,HBN.out⟩
     ·obtain rfl:z=k:=by omega
      obtain⟨b,o,x,rfl,_,hx,e1⟩:=CG.out.bool_at (k:=k) (by omega);have nP:(k:Int)<(n6:Int):=by omega
      have NA:(k:Int)<=(c6:Int):=by have:=CG.out.cap;omega
      have ND:(0<=(k:Int))=True:=eq_true (by omega);have cA:=dt (bits ρ) k;rw[fb hx,<-HDD.out] at cA;have xU:=zH cA;have fm:IntKind.i64.wrap (2*(D:Int))=2*(D:Int):=by rw[IntKind.wrap_i64]<;>omega
      have R1:IntKind.i64.wrap (2*(D:Int)+1)=2*(D:Int)+1:=by rw[IntKind.wrap_i64]<;>omega
      have hwk:IntKind.i64.wrap ((k:Int)-1)=(k:Int)-1:=by rw[IntKind.wrap_i64]<;>omega
      clear cA hx hz;cases x with
      | false=>
       go_wp2_with fail;go_round
       case rel=>exact⟨k,2*D,(k:Int)-1,by omega,by go_num,by omega,by go_num,by have:=xU.out;simp at this;omega⟩
       case measure=>simp[intOf]
      | true=>
       go_wp2_with fail;go_round
       case rel=>exact⟨k,2*D+1,(k:Int)-1,by omega,by go_num,by omega,by go_num,by have:=xU.out;simp at this;omega⟩
       case measure=>simp[intOf]
theorem Za (x:BitVec 32) (k:Nat):(Go.bits .and .u32 ((x.toNat:Int)/2^k) 1==1)=(x.toNat/2^k%2==1):=by
 have e:(x.toNat:Int)/2^k=((x.toNat/2^k:Nat):Int):=by simp
 have hlt:x.toNat/2^k<4294967296:=Nat.lt_of_le_of_lt (Nat.div_le_self _ _) x.isLt;rw[e,show(1:Int)=((1:Nat):Int) from rfl,u32_and_nat _ _ hlt (by omega),Nat.and_one_is_mod];obtain⟨t,ht⟩:∃t,x.toNat/2^k%2=t:=⟨_,rfl⟩;rw[ht];rw[Bool.eq_iff_iff];simp only[beq_iff_eq];omega
theorem abp (i:Nat):2^(32*i)=4294967296^i:=by rw[Nat.pow_mul]
theorem BD {S:Nat->Prop} {A:Option Addr} {n c:Nat} {xs:List (BitVec 32)} {w:World} (h:RS w S A n c xs) (hS:∀b,S b->b<w.heap.size) (hn:n<=1000000) : Calls Tryz.prog 131 #[.slice A n c] w (iP w 4 (bits (val xs))):=by
 have H:=zH h;have HL:=zH h.len;have HS:=zH hS;clear h hS;go_enter Tryz.func131,Tryz.ntmps131;go_wp2_with fail;go_loopw [3,4] (λsv iv wr=>∃(i:Nat) (out:List Bool),iv=.int .i64 i/\i<=n/\Own wr bb w.heap.size 4 sv out/\out.length=32*i/\ar out=val (xs.take i)/\Below w.heap.size w wr) (λ_ iv _=>n-(intOf iv).toNat)
 case atStart=>exact⟨0,[],rfl,Nat.zero_le _,Own.nil _ _ _,rfl,by rw[List.take_zero];rfl,Below.refl _ _⟩
 case round=>
  obtain⟨i,out,rfl,hi,ho,lR,hv,hb⟩:=hrel;have HO:=zH ho;have HB:=zH hb;have HV:=zH hv;have zV:=zH lR;obtain⟨A4,n4,c4,rfl,hn4⟩:=ho.slice;clear ho hb hn4 hv lR;rcases Nat.lt_or_ge i n with hlt|hge
  ·have hd:((i:Int)<(n:Int))=True:=eq_true (by omega);have hwi:IntKind.i64.wrap ((i:Int)+1)=(i:Int)+1:=by rw[IntKind.wrap_i64]<;>omega
   obtain⟨b,o,x,rfl,zO,hx,e1⟩:=(H.out.below HB.out HS.out).limb_at hlt;have HX:=zH hx;clear hx;have HW0:=zH (rfl:wr=wr);obtain⟨w0,hw0⟩:∃q,q=wr:=⟨_,rfl⟩;have HWR:=zH hw0;clear hw0;go_wp2_with fail;go_loopw [3,5] (λsv kv wr=>∃(k:Nat) (out:List Bool),kv=.int .u64 k/\k<=32/\Own wr bb w.heap.size 4 sv out/\out.length=32*i+k/\ar out=val (xs.take i)+2^(32*i)*(x.toNat%2^k)/\Below w.heap.size w wr) (λ_ kv _=>32-(intOf kv).toNat)
   case atStart=>exact⟨0,out,rfl,Nat.zero_le _,HO.out,zV.out,by rw[HV.out,Nat.pow_zero,Nat.mod_one,Nat.mul_zero,Nat.add_zero],HB.out⟩
   case round=>
    obtain⟨k,L0,rfl,hk,ho,lR,hv,hb⟩:=hrel;have mR:=zH ho;have ek:=zH hb;have HV2:=zH hv;have TU:=zH lR;obtain⟨A5,n5,c5,rfl,hn5⟩:=ho.slice;clear ho hb hn5 hv lR;rcases Nat.lt_or_ge k 32 with iR|hge2
    ·have e2:wr.cell? ⟨b,o+i,none⟩=some (.int .u32 (x.toNat:Int)):=by
      obtain⟨b',o',x',hA,_,hx',e3⟩:=(H.out.below ek.out HS.out).limb_at hlt;injection hA with hA
      injection hA with h1 h2
      subst h1 h2;rw[HX.out] at hx';injection hx' with hx'
      subst hx';exact e3
     clear e1;have dk:((k:Int)<32)=True:=eq_true (by omega);obtain⟨y,hy⟩:∃y,(x.toNat/2^k%2==1)=y:=⟨_,rfl⟩;have ain:=Za x k;rw[hy] at ain;have cA:ar (L0++[y])=val (xs.take i)+2^(32*i)*(x.toNat%2^(k+1)):=by
      have PN:y.toNat=x.toNat/2^k%2:=by
       rw[<-hy];rcases Nat.mod_two_eq_zero_or_one (x.toNat/2^k) with h|h<;>rw[h]<;>rfl
      rw[kK,HV2.out,TU.out,PN,Nat.mod_pow_succ,Nat.mul_add,Nat.pow_add,Nat.mul_assoc,Nat.add_assoc]
     have hwk:IntKind.u64.wrap ((k:Int)+1)=(k:Int)+1:=by rw[IntKind.wrap_u64];omega
     have xU:=zH cA;have bm:(L0.length+1)*(1+1)<=140737488355328:=by have:=TU.out;omega
     have kQ:=zH bm;have aec:=zH iR;clear cA bm hy;go_wp2_with (at_builtin; refine dz (α:=Bool) (w0:=w) rfl _ _ 155 rfl 1 Tryz.bitsTy rfl mR.out ek.out [.bool y] y 1 rfl rfl 4 (by simp[Value.oneCell']) kQ.out ?_; intro v4 w4 hown4 iY hg4 hl4; have CI:=zH hown4; have vz:=zH iY; clear hown4 iY hg4 hl4);go_roundw
     case rel=>exact⟨k+1,L0++[y],by go_num,aec.out,CI.out,by have:=TU.out;simp;omega,xU.out,vz.out⟩
     case measure=>have:=aec.out;simp[intOf];omega
    ·have ahZ:k=32:=by omega
     have hv:ar L0=val (xs.take (i+1)):=by
      rw[HV2.out,ahZ,j3 HX.out,abp,Nat.mod_eq_of_lt x.isLt]
     have HVF:=zH hv;have dk:((k:Int)<32)=False:=eq_false (by omega);clear hv;go_wp2_with fail;go_roundw
     case rel=>exact⟨i+1,L0,by go_num,hlt,mR.out,by have:=TU.out;omega,HVF.out,ek.out⟩
     case measure=>simp[intOf];omega
  ·have hd:((i:Int)<(n:Int))=False:=eq_false (by omega);have dW:ar out=val xs:=by rw[HV.out,List.take_of_length_le (by rw[HL.out];omega)]
   have bw:=iH (HO.out.rsAll) (by rw[<-HO.out.rsAll.len];have:=zV.out;omega);rw[dW] at bw;have HC:=zH bw;clear bw dW;go_wp2_with fail;refine HC.out.mono ?_;rintro e w2 ⟨v2,rfl,lL,bH⟩;have mR:=zH (lL.base_le HB.out.size);have ek:=zH (ak HB.out bH);clear lL bH;go_wp2_with fail;go_ret
   exact⟨_,rfl,mR.out,ek.out⟩
theorem or_bit {v i:Nat} (hv:v<2^i) (hi:i<32):Go.bits .or .u32 (v:Int) (2^i%4294967296)=((BitVec.ofNat 32 (v+2^i)).toNat:Int):=by
 have hp:2^(i+1)<=4294967296:=Nat.pow_le_pow_right (n:=2) (by omega) (by omega:i+1<=32);rw[Nat.pow_succ] at hp;have e:(2^i%4294967296:Int)=((2^i:Nat):Int):=by
  have:((2^i:Nat):Int)=(2:Int)^i:=by simp
  rw[<-this];omega
 rw[e,u32_or_nat _ _ (by omega) (by omega),BitVec.toNat_ofNat];have h1:=Nat.two_pow_add_eq_or_of_lt hv 1;rw[Nat.mul_one,Nat.or_comm] at h1;rw[<-h1,Nat.add_comm v];omega
theorem Vz {S:Nat->Prop} {A:Option Addr} {n c:Nat} {xs:List Bool} {w:World} (h:RS w S A n c xs) (hn:n<=1000000) (hX:ar xs<4294967296) : Calls Tryz.prog 235 #[.slice A n c] w (iP w 172 (cF (ar xs))):=by
 obtain⟨X,hXX⟩:∃X,ar xs=X:=⟨_,rfl⟩;have bw:=iH h (by omega);rw[hXX] at bw hX;rw[hXX];have HC:=zH bw;have HX:=zH hX;clear h bw hX hXX;obtain⟨i0,hi,jw,eL,gN⟩:=info_parts Tryz.u32Info;have HI:=zH hi;have oG:=zH jw;have jm:=zH eL;have j1:=zH gN;clear hi jw eL gN;go_enter Tryz.func235,Tryz.ntmps235;go_wp2_with fail;refine HC.out.mono ?_;rintro e w2 ⟨v2,rfl,lL,bH⟩;obtain⟨A2,l,c2,rfl,hl⟩:=lL.slice;have hl32:l<=32:=by rw[hl];exact iN HX.out
 have mR:=zH lL;have ek:=zH bH;have HL:=zH hl;clear lL bH hl;rcases Nat.eq_zero_or_pos l with h0|h0
 ·subst h0;have ia:X=0:=pO (List.eq_nil_of_length_eq_zero HL.out.symm);subst ia;go_wp2_with (refine bJ (α:=BitVec 32) w2 rfl _ _ 26 rfl rfl w.heap.size i0 (.int .u32 0) Tryz.underlying26 HI.out oG.out jm.out rfl .i64 .i64 0 0 0 rfl rfl rfl rfl (by rw[j1.out];omega) (by unfold maxLen;omega) ek.out.size 0#32 bb (λ_ h=>h.elim) (λ_ _=>rfl) ?_; intro w3 uw hg3; have CJ:=zH uw; have kR:=zH (ek.out.grown hg3 ek.out.size (λk hk=>by cases hk)); clear uw hg3);go_loopw [4] (λiv wr=>iv=.int .i64 0/\wr=w3) (λ_ _=>0)
  case atStart=>exact⟨rfl,rfl⟩
  case round=>
   obtain⟨rfl,rfl⟩:=hrel;go_wp2_with fail;go_ret
   exact⟨_,rfl,by rw[cN];exact CJ.out,kR.out⟩
 ·have US:((l:Int)+31)/32=1:=by omega
  have P0:((l:Int)+31).tdiv 32=1:=by rw[Int.tdiv_eq_ediv_of_nonneg (by omega)];exact US
  have fm:IntKind.i64.wrap ((l:Int)+31)=(l:Int)+31:=by rw[IntKind.wrap_i64]<;>omega
  go_wp2_with (refine bJ (α:=BitVec 32) w2 rfl _ _ 26 rfl rfl w.heap.size i0 (.int .u32 0) Tryz.underlying26 HI.out oG.out jm.out rfl .i64 .i64 1 1 1 rfl rfl rfl rfl (by rw[j1.out];omega) (by unfold maxLen;omega) ek.out.size 0#32 bb (λ_ h=>h.elim) (λ_ _=>rfl) ?_; intro w3 uw hg3; have CJ:=zH uw; have kR:=zH (ek.out.grown hg3 ek.out.size (λk hk=>by cases hk)); have HR3:=zH (mR.out.rsAll.keep (S':=λb=>b<w2.heap.size) (λ_ h=>h) ((aw.grown hg3).sub λb hb=>⟨hb,by simp⟩)); clear uw hg3);have Sd:List.replicate 1 0#32=[BitVec.ofNat 32 (ar ((bits X).take 0))]:=by rw[List.take_zero];rfl
  have uw:=CJ.out;rw[Sd] at uw;have aea:=zH uw;clear uw Sd CJ;go_loopw [4] (λiv wr=>∃i:Nat,iv=.int .i64 i/\i<=l/\Own wr bb w.heap.size 172 (.slice (some ⟨w2.heap.size,0,none⟩) 1 1) [BitVec.ofNat 32 (ar ((bits X).take i))]/\RS wr (λb=>b<w2.heap.size) A2 l c2 (bits X)/\Below w.heap.size w wr) (λiv _=>l-(intOf iv).toNat)
  case atStart=>exact⟨0,rfl,Nat.zero_le _,aea.out,HR3.out,kR.out⟩
  case round=>
   clear aea HR3 kR HC;obtain⟨i,rfl,hi,ho,hr,hb⟩:=hrel;have HO:=zH ho;have HR:=zH hr;have HB:=zH hb;clear ho hr hb;rcases Nat.lt_or_ge i l with hlt|hge
   ·obtain⟨b,o,x,rfl,zO,hx,e1⟩:=HR.out.bool_at hlt;have NA:(i:Int)<=(c2:Int):=by have:=HR.out.cap;omega
    have nD:((i:Int)<(l:Int))=True:=eq_true (by omega);have hwi:IntKind.i64.wrap ((i:Int)+1)=(i:Int)+1:=by rw[IntKind.wrap_i64]<;>omega
    have cA:=eJ (bits X) i;rw[fb hx] at cA;obtain⟨v,hv⟩:∃v,ar ((bits X).take i)=v:=⟨_,rfl⟩;have zJ:v<2^i:=by rw[<-hv];exact lq _ _
    have Xy:2^(i+1)<=4294967296:=Nat.pow_le_pow_right (n:=2) (by omega) (by omega:i+1<=32);rw[Nat.pow_succ] at Xy;obtain⟨e2,e3⟩:=HO.out.limb (k:=0) (by simp);have P1:(([BitVec.ofNat 32 (ar ((bits X).take i))]:List (BitVec 32)).getD 0 0#32).toNat=v:=by
     show(BitVec.ofNat 32 (ar ((bits X).take i))).toNat=v;rw[hv,BitVec.toNat_ofNat];omega
    rw[P1] at e2;rw[hv] at cA;have xU:=zH cA;have HP:=zH Xy;have HVL:=zH zJ;have HV:=zH hv;have h1:(i:Int)/32=0:=by omega
    have h2:(i:Int).tdiv 32=0:=by rw[Int.tdiv_eq_ediv_of_nonneg (by omega)];exact h1
    have h3:(i:Int)%32=(i:Int):=by omega
    have h4:(i:Int).tmod 32=(i:Int):=by rw[Int.tmod_eq_emod_of_nonneg (by omega)];exact h3
    have h5:IntKind.u64.wrap (i:Int)=(i:Int):=by rw[IntKind.wrap_u64];omega
    clear hx cA hv P1 zJ Xy;cases x with
    | false=>
     have hs:[BitVec.ofNat 32 (ar ((bits X).take (i+1)))]=[BitVec.ofNat 32 (ar ((bits X).take i))]:=by
      rw[xU.out,HV.out];simp
     have HS:=zH hs;clear hs;go_wp2_with fail;go_roundw
     case rel=>exact⟨i+1,by go_num,by omega,by rw[HS.out];exact HO.out,HR.out,HB.out⟩
     case measure=>simp[intOf];omega
    | true=>
     have kj:=or_bit HVL.out (by omega:i<32);have hs:([BitVec.ofNat 32 (ar ((bits X).take i))]:List (BitVec 32)).set 0 (BitVec.ofNat 32 (v+2^i))=[BitVec.ofNat 32 (ar ((bits X).take (i+1)))]:=by
      rw[xU.out,HV.out];simp
     have HS:=zH hs;clear hs;go_wp2_with fail;go_roundw
     case rel=>exact⟨i+1,by go_num,by omega,by rw[<-HS.out];exact HO.out.setLimb 0 _,HR.out.keep (λ_ h=>h) ((aw.refl _ _).setCell (p:=⟨w2.heap.size,0,none⟩) (by simp) _),HB.out.setCell (p:=⟨w2.heap.size,0,none⟩) ek.out.size _⟩
     case measure=>simp[intOf];omega
   ·have Ko:i=l:=by omega
    have ia:X≠0:=by
     intro e;have:=HL.out;rw[e,dD] at this;simp at this;omega
    have hf:[BitVec.ofNat 32 (ar ((bits X).take i))]=cF X:=by
     rw[List.take_of_length_le (by rw[<-HL.out];omega),bh];have h1:=HX.out;have h2:(BitVec.ofNat 32 X).toNat=X:=by rw[BitVec.toNat_ofNat];omega
     have h3:=uh (BitVec.ofNat 32 X) 0 (by rw[h2];omega);rw[h2,Nat.mul_zero,Nat.add_zero,cN] at h3;exact h3.symm
    have HF:=zH hf;have nD:((i:Int)<(l:Int))=False:=eq_false (by omega);clear hf Ko ia;go_wp2_with fail;go_ret
    exact⟨_,rfl,by rw[<-HF.out];exact HO.out,HB.out⟩
end Go.Proofs.YtdbpbfglhbiadaaGreatDoor
