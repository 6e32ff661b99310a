/- Ref7 Ref8 Ref9 -/
import Derived.Test.YtdbpbfglhbiadaaGreatDoorH20
import Derived.Test.YtdbpbfglhbiadaaGreatDoorH11
import Derived.Test.YtdbpbfglhbiadaaGreatDoorH14
import Derived.Laws.BitsAllLaws
import Derived.Test.YtdbpbfglhbiadaaGreatDoorH03
set_option maxHeartbeats 4000000
set_option maxRecDepth 100000
namespace Go.Proofs.YtdbpbfglhbiadaaGreatDoor
open Go.RowKit
theorem iC {n L:Nat} (h:n<2^L) {k:Nat} (hk:L<=k):(bits n).length<=k:=Nat.le_trans (jd h) hk
theorem Vu {S S2:Nat->Prop} {A A2:Option Addr} {n c n2 c2:Nat} {X Y:Nat} {w:World} (h:RS w S A n c (bits X)) (h2:RS w S2 A2 n2 c2 (bits Y)) (hS:∀b,S b->b<w.heap.size) (gZ:∀b,S2 b->b<w.heap.size) (L:Nat) (hL:L<=137438953472) (hX:X<2^L) (hY:Y<2^L) : Calls Tryz.prog 176 #[.slice A n c,.slice A2 n2 c2] w (jf w 4 (bits (Nat.gcd X Y))):=by
 have HA:=zH (h.sub (S':=λb=>b<w.heap.size) hS);have Yb:=zH (h2.sub (S':=λb=>b<w.heap.size) gZ);have HX:=zH hX;have HY:=zH hY;obtain⟨G,hG⟩:∃G,Nat.gcd X Y=G:=⟨_,rfl⟩;rw[hG];have HG:=zH hG;clear h h2 hX hY hG;go_enter Tryz.func176,Tryz.ntmps176;go_wp2_with fail;go_loopg [0,1] Y (λk va vb wr=>∃a A n c A2 n2 c2,va=.slice A n c/\vb=.slice A2 n2 c2/\a<2^L/\k<2^L/\Nat.gcd a k=G/\RS wr (λb=>b<wr.heap.size) A n c (bits a)/\RS wr (λb=>b<wr.heap.size) A2 n2 c2 (bits k)/\Below w.heap.size w wr)
 case atStart=>exact⟨X,A,n,c,A2,n2,c2,rfl,rfl,HX.out,HY.out,HG.out,HA.out,Yb.out,Below.refl _ _⟩
 case round=>
  clear HA Yb HX HY HG;obtain⟨a,A3,n3,c3,A4,n4,c4,rfl,rfl,ha,hk,hg,hra,hrb,hb⟩:=hrel;have HRA:=zH hra;have HRB:=zH hrb;have HB:=zH hb;have HGG:=zH hg;have HAL:=zH ha;have HKL:=zH hk;have hna:n3<=137438953472:=by rw[<-hra.len];exact iC ha hL
  have hnb:n4<=137438953472:=by rw[<-hrb.len];exact iC hk hL
  clear hra hrb hb hg ha hk;rcases Nat.eq_zero_or_pos n4 with h0|h0
  ·subst h0;have PS:gk=0:=qQ (List.eq_nil_of_length_eq_zero HRB.out.len);have hga:a=G:=by have:=HGG.out;rw[PS,Nat.gcd_zero_right] at this;exact this
   have bG:=i6 HRA.out (by omega);rw[bm,hga] at bG;have HC:=zH bG;clear PS hga bG;go_wp2_with fail;refine HC.out.mono ?_;rintro e w2 ⟨v2,rfl,mw,bX⟩;have nA:=zH (mw.base_le HB.out.size);have fu:=zH (au HB.out bX);clear mw bX;go_wp2_with fail;go_ret
   exact⟨_,rfl,nA.out,fu.out⟩
  ·have hkp:0<gk:=by
    rcases Nat.eq_zero_or_pos gk with h|h
    ·exfalso
     have:=HRB.out.len;rw[h,dL] at this;simp at this;omega
    ·exact h
   have bG:=Bc HRA.out HRB.out (λ_ h=>h) (λ_ h=>h) hna hnb (by rw[bm];exact hkp);rw[bm,bm] at bG;have HC:=zH bG;clear bG;go_wp2_with fail;refine HC.out.mono ?_;rintro e w3 ⟨v1,v2,rfl,hq,hr,kx⟩;obtain⟨A5,n5,c5,rfl,hn5⟩:=hr.slice;have WA:=zH hr.rsAll;have aoi:=zH ((HRB.out.below kx (λ_ h=>h)).sub (S':=λb=>b<w3.heap.size) (λb h=>Nat.lt_of_lt_of_le h kx.size));have lX:=zH (au HB.out kx);clear hq hr kx hn5;go_wp2_with fail
   go_roundg (a%gk)
   case measure=>exact Nat.mod_lt _ hkp
   case rel=>exact⟨gk,_,_,_,_,_,_,rfl,rfl,HKL.out,Nat.lt_trans (Nat.mod_lt _ hkp) HKL.out,((Nat.gcd_comm _ _).trans ((Nat.gcd_rec gk a).symm.trans (Nat.gcd_comm _ _))).trans HGG.out,aoi.out,WA.out,lX.out⟩
theorem LN {g:Nat} (h:g≠0) (l:List UInt8):(fT g).reverse++l=(fT (g/10)).reverse++(EL g::l):=by
 rw[fT,dif_neg h,List.reverse_cons,List.append_assoc];rfl
theorem wI {X L:Nat} (h:X<2^L):(fT X).length<=L+1:=by
 by_cases h0:X=0
 ·subst h0;rw[gr];exact Nat.zero_le _
 ·have h1:=Dy h0;have h2:(2:Nat)^((fT X).length-1)<=10^((fT X).length-1):=Nat.pow_le_pow_left (by omega) _;have h3:=(Nat.pow_lt_pow_iff_right (a:=2) (by omega)).1 (Nat.lt_of_le_of_lt (Nat.le_trans h2 h1) h);omega
theorem LP {S:Nat->Prop} {A:Option Addr} {n c:Nat} {X:Nat} {w:World} (h:RS w S A n c (bits X)) (hS:∀b,S b->b<w.heap.size) (L:Nat) (hL:L<=1000) (hX:X<2^L) : Calls Tryz.prog 127 #[.slice A n c] w (kB w (.string ⟨(bq X).toArray⟩)):=by
 have HA:=zH (h.sub (S':=λb=>b<w.heap.size) hS);have HX:=zH hX;have HDS:=zH (wI hX);obtain⟨T,hT⟩:∃T:ByteArray,⟨(bq X).toArray⟩=T:=⟨_,rfl⟩;rw[hT];have HT:=zH hT;have HN:=zH h.len;have Mt:=h.max;clear h hX hT;go_enter Tryz.func127,Tryz.ntmps127;rcases Nat.eq_zero_or_pos n with h0|h0
 ·subst h0;have iF:X=0:=qQ (List.eq_nil_of_length_eq_zero HN.out);have ht:(⟨#[48]⟩:ByteArray)=T:=by rw[<-HT.out,iF];rfl
  have JH:=zH ht;clear iF ht;go_wp2_with fail;go_ret
  exact⟨congrArg (λt=>Ending.returned (.string t)) JH.out,Below.refl _ _⟩
 ·have hb0:((n:Int)==0)=false:=by rw[beq_eq_false_iff_ne];omega
  have iF:X≠0:=by
   intro e;have:=HN.out;rw[e,dL] at this;simp at this;omega
  have HX0:=zH iF;clear iF;go_wp2_with fail;go_loopg [0,3] X (λg va vs wr=>∃(A:Option Addr) (n c:Nat) (l:List UInt8) (s:ByteArray),va=.slice A n c/\vs=.string s/\s=⟨l.toArray⟩/\g<2^L/\(fT X).reverse=(fT g).reverse++l/\RS wr (λb=>b<wr.heap.size) A n c (bits g)/\Below w.heap.size w wr)
  case atStart=>exact⟨A,n,c,[],_,rfl,rfl,rfl,HX.out,by simp,HA.out,Below.refl _ _⟩
  case round=>
   clear HA hb0 h0 HN;obtain⟨A3,n3,c3,l,s,rfl,rfl,hs,hg,hd,hr,hb⟩:=hrel;have HS:=zH hs;have HG:=zH hg;have HD:=zH hd;have HR:=zH hr;have HB:=zH hb;have hn3:n3<=1000:=by rw[<-hr.len];exact iC hg hL
   clear hs hg hd hr hb;rcases Nat.eq_zero_or_pos n3 with h0|h0
   ·subst h0;have hg0:gk=0:=qQ (List.eq_nil_of_length_eq_zero HR.out.len);have ht:s=T:=by
     have:=HD.out;rw[hg0,gr,List.reverse_nil,List.nil_append] at this;rw[HS.out,<-HT.out,<-this];unfold bq;rw[if_neg HX0.out]
    have JH:=zH ht;clear hg0 ht;go_wp2_with fail;go_ret
    exact⟨congrArg (λt=>Ending.returned (.string t)) JH.out,HB.out⟩
   ·have hgp:gk≠0:=by
     intro e;have:=HR.out.len;rw[e,dL] at this;simp at this;omega
    have HGP:=zH hgp;clear hgp;go_wp2_with fail;refine(BV 10 (by omega) wr).mono ?_;rintro e w2 ⟨v2,rfl,mw,bX⟩;obtain⟨A4,n4,c4,rfl,hn4⟩:=mw.slice;have hl10:(bits 10).length<=4:=jd (by decide);have bG:=Bc (HR.out.below bX (λ_ h=>h)) mw.rsAll (λb h=>Nat.lt_of_lt_of_le h bX.size) (λ_ h=>h) (by omega) (by omega) (by rw[bm];omega);rw[bm,bm] at bG;have HC:=zH bG;have fu:=zH (au HB.out bX);clear bG mw bX hn4 hl10;go_wp2_with fail;refine HC.out.mono ?_;rintro e w3 ⟨v1,v2,rfl,hq,hr,kx⟩;obtain⟨A5,n5,c5,rfl,hn5⟩:=hq.slice;obtain⟨A6,n6,c6,rfl,hn6⟩:=hr.slice;obtain⟨ρ,hρ⟩:∃ρ,gk%10=ρ:=⟨_,rfl⟩;have afd:ρ<10:=by omega
    rw[hρ] at hr hn6;have aud:n6<=4:=by rw[hn6];exact jd (by omega)
    have HQ:=zH hq.rsAll;have Er:=zH hr.rsAll;have lX:=zH (au fu.out kx);have acd:=zH hρ;have hw6:IntKind.i64.wrap ((n6:Int)-1)=(n6:Int)-1:=by rw[IntKind.wrap_i64]<;>omega
    clear hq hr kx hn5 hn6 hρ;go_wp2_with fail
    go_loop [6,7] (λdv iv=>∃(k D:Nat) (z:Int),k<=n6/\iv=.int .i64 z/\z+1=k/\dv=.int .i64 D/\D=av ((bits ρ).drop k)) (λ_ iv=>(intOf iv+1).toNat)
    case atStart=>exact⟨n6,0,(n6:Int)-1,Nat.le_refl _,rfl,by omega,rfl,by rw[List.drop_eq_nil_of_le (by rw[Er.out.len];exact Nat.le_refl _)];rfl⟩
    case round=>
     obtain⟨k,D,z,hk,rfl,hz,rfl,hD⟩:=hrel;have hDs:D<10:=by
      rw[hD];refine Nat.lt_of_le_of_lt ?_ afd;have h1:=lO (bits ρ) k;rw[bm] at h1;have h2:1*av ((bits ρ).drop k)<=2^k*av ((bits ρ).drop k):=Nat.mul_le_mul_right _ (Nat.pow_pos (by omega));omega
     have HDD:=zH hD;clear hD;rcases k with _|k
     ·obtain rfl:z= -1:=by omega
      have hDr:D=ρ:=by have:=HDD.out;rw[List.drop_zero,bm] at this;exact this
      subst hDr;obtain⟨x,hx⟩:∃x,EL gk=x:=⟨_,rfl⟩;have hxv:(x.toNat:Int)=48+(D:Int):=by
       rw[<-hx];unfold EL;rw[UInt8.toNat_ofNat',acd.out];omega
      have fE:IntKind.i64.wrap (48+(D:Int))=48+(D:Int):=by rw[IntKind.wrap_i64]<;>omega
      have UY:IntKind.u8.wrap (48+(D:Int))=(x.toNat:Int):=by rw[IntKind.wrap_u8];omega
      have ct:=LN HGP.out l;rw[hx,<-HD.out] at ct;have EC:(⟨#[x]⟩:ByteArray)++s=⟨(x::l).toArray⟩:=by rw[HS.out];exact fG [x] l
      have hss:s.size<=1001:=by
       rw[HS.out];show l.toArray.size<=1001;have h1:=congrArg List.length HD.out;rw[List.length_append,List.length_reverse,List.length_reverse] at h1;have:=HDS.out;rw[List.size_toArray];omega
      have Lb:(⟨#[x]⟩:ByteArray).size<=1001:=by show(1:Nat)<=1001;omega
      have hrb:RS (w3.alloc (.cells #[.int .u8 (x.toNat:Int)] 5)) (λ_=>True) (some ⟨w3.heap.size,0,none⟩) 1 1 [x]:=RS.of_blk (t:=5) (cs:=#[.int .u8 (x.toNat:Int)]) (df.new _ _ _) (Flat.bytes [x]) rfl (Nat.le_refl _) (by decide) trivial;have hcv:=Hm hrb;have zm:=zH ct;have HS2:=zH EC;have HBN:=zH (lX.out.alloc lX.out.size (.cells #[.int .u8 (x.toNat:Int)] 5));have HQN:=zH ((HQ.out.below ((Below.refl w3.heap.size w3).alloc (Nat.le_refl _) (.cells #[.int .u8 (x.toNat:Int)] 5)) (λ_ h=>h)).sub (S':=λb=>b<(w3.alloc (.cells #[.int .u8 (x.toNat:Int)] 5)).heap.size) (λb h=>by simp;omega));have HXV:=zH hxv;clear hx hxv hrb ct EC hz;go_wp2_with fail
      go_roundg (gk/10)
      case measure=>have:=HGP.out;omega
      case rel=>exact⟨A5,n5,c5,x::l,_,rfl,rfl,HS2.out,by have:=HG.out;omega,zm.out,HQN.out,HBN.out⟩
     ·obtain rfl:z=k:=by omega
      obtain⟨b,o,x,rfl,_,hx,e1⟩:=Er.out.bool_at (k:=k) (by omega);have pz:(k:Int)<(n6:Int):=by omega
      have Sr:(k:Int)<=(c6:Int):=by have:=Er.out.cap;omega
      have PS:(0<=(k:Int))=True:=eq_true (by omega);have ct:=dF (bits ρ) k;rw[ft hx,<-HDD.out] at ct;have zm:=zH ct;have fE:IntKind.i64.wrap (2*(D:Int))=2*(D:Int):=by rw[IntKind.wrap_i64]<;>omega
      have UY:IntKind.i64.wrap (2*(D:Int)+1)=2*(D:Int)+1:=by rw[IntKind.wrap_i64]<;>omega
      have hwk:IntKind.i64.wrap ((k:Int)-1)=(k:Int)-1:=by rw[IntKind.wrap_i64]<;>omega
      clear ct hx hz;cases x with
      | false=>
       go_wp2_with fail;go_round
       case rel=>exact⟨k,2*D,(k:Int)-1,by omega,by go_num,by omega,by go_num,by have:=zm.out;simp at this;omega⟩
       case measure=>simp[intOf]
      | true=>
       go_wp2_with fail;go_round
       case rel=>exact⟨k,2*D+1,(k:Int)-1,by omega,by go_num,by omega,by go_num,by have:=zm.out;simp at this;omega⟩
       case measure=>simp[intOf]
theorem abT (x:BitVec 32) (k:Nat):(Go.bits .and .u32 ((x.toNat:Int)/2^k) 1==1)=(x.toNat/2^k%2==1):=by
 have e:(x.toNat:Int)/2^k=((x.toNat/2^k:Nat):Int):=by simp
 have hlt:x.toNat/2^k<4294967296:=Nat.lt_of_le_of_lt (Nat.div_le_self _ _) x.isLt;rw[e,show(1:Int)=((1:Nat):Int) from rfl,u32_and_nat _ _ hlt (by omega),Nat.and_one_is_mod];obtain⟨t,ht⟩:∃t,x.toNat/2^k%2=t:=⟨_,rfl⟩;rw[ht];rw[Bool.eq_iff_iff];simp only[beq_iff_eq];omega
theorem aeo (i:Nat):2^(32*i)=4294967296^i:=by rw[Nat.pow_mul]
theorem Do {S:Nat->Prop} {A:Option Addr} {n c:Nat} {xs:List (BitVec 32)} {w:World} (h:RS w S A n c xs) (hS:∀b,S b->b<w.heap.size) (hn:n<=1000000) : Calls Tryz.prog 131 #[.slice A n c] w (jf w 4 (bits (val xs))):=by
 have H:=zH h;have HL:=zH h.len;have HS:=zH hS;clear h hS;go_enter Tryz.func131,Tryz.ntmps131;go_wp2_with fail;go_loopw [3,4] (λsv iv wr=>∃(i:Nat) (out:List Bool),iv=.int .i64 i/\i<=n/\Own wr bi w.heap.size 4 sv out/\out.length=32*i/\av out=val (xs.take i)/\Below w.heap.size w wr) (λ_ iv _=>n-(intOf iv).toNat)
 case atStart=>exact⟨0,[],rfl,Nat.zero_le _,Own.nil _ _ _,rfl,by rw[List.take_zero];rfl,Below.refl _ _⟩
 case round=>
  obtain⟨i,out,rfl,hi,ho,mC,hv,hb⟩:=hrel;have HO:=zH ho;have HB:=zH hb;have HV:=zH hv;have BE:=zH mC;obtain⟨A4,n4,c4,rfl,hn4⟩:=ho.slice;clear ho hb hn4 hv mC;rcases Nat.lt_or_ge i n with hlt|hge
  ·have hd:((i:Int)<(n:Int))=True:=eq_true (by omega);have hwi:IntKind.i64.wrap ((i:Int)+1)=(i:Int)+1:=by rw[IntKind.wrap_i64]<;>omega
   obtain⟨b,o,x,rfl,Bz,hx,e1⟩:=(H.out.below HB.out HS.out).limb_at hlt;have HX:=zH hx;clear hx;have HW0:=zH (rfl:wr=wr);obtain⟨w0,hw0⟩:∃q,q=wr:=⟨_,rfl⟩;have HWR:=zH hw0;clear hw0;go_wp2_with fail;go_loopw [3,5] (λsv kv wr=>∃(k:Nat) (out:List Bool),kv=.int .u64 k/\k<=32/\Own wr bi w.heap.size 4 sv out/\out.length=32*i+k/\av out=val (xs.take i)+2^(32*i)*(x.toNat%2^k)/\Below w.heap.size w wr) (λ_ kv _=>32-(intOf kv).toNat)
   case atStart=>exact⟨0,out,rfl,Nat.zero_le _,HO.out,BE.out,by rw[HV.out,Nat.pow_zero,Nat.mod_one,Nat.mul_zero,Nat.add_zero],HB.out⟩
   case round=>
    obtain⟨k,Ol,rfl,hk,ho,mC,hv,hb⟩:=hrel;have nA:=zH ho;have fu:=zH hb;have HV2:=zH hv;have WE:=zH mC;obtain⟨A5,n5,c5,rfl,hn5⟩:=ho.slice;clear ho hb hn5 hv mC;rcases Nat.lt_or_ge k 32 with lI|hge2
    ·have e2:wr.cell? ⟨b,o+i,none⟩=some (.int .u32 (x.toNat:Int)):=by
      obtain⟨b',o',x',hA,_,hx',e3⟩:=(H.out.below fu.out HS.out).limb_at hlt;injection hA with hA
      injection hA with h1 h2
      subst h1 h2;rw[HX.out] at hx';injection hx' with hx'
      subst hx';exact e3
     clear e1;have dk:((k:Int)<32)=True:=eq_true (by omega);obtain⟨y,hy⟩:∃y,(x.toNat/2^k%2==1)=y:=⟨_,rfl⟩;have amc:=abT x k;rw[hy] at amc;have ct:av (Ol++[y])=val (xs.take i)+2^(32*i)*(x.toNat%2^(k+1)):=by
      have Sg:y.toNat=x.toNat/2^k%2:=by
       rw[<-hy];rcases Nat.mod_two_eq_zero_or_one (x.toNat/2^k) with h|h<;>rw[h]<;>rfl
      rw[kY,HV2.out,WE.out,Sg,Nat.mod_pow_succ,Nat.mul_add,Nat.pow_add,Nat.mul_assoc,Nat.add_assoc]
     have hwk:IntKind.u64.wrap ((k:Int)+1)=(k:Int)+1:=by rw[IntKind.wrap_u64];omega
     have zm:=zH ct;have bJ:(Ol.length+1)*(1+1)<=140737488355328:=by have:=WE.out;omega
     have sH:=zH bJ;have ahk:=zH lI;clear ct bJ hy;go_wp2_with (at_builtin; refine dH (α:=Bool) (w0:=w) rfl _ _ 155 rfl 1 Tryz.bitsTy rfl nA.out fu.out [.bool y] y 1 rfl rfl 4 (by simp[Value.oneCell']) sH.out ?_; intro v4 w4 hown4 qw hg4 hl4; have Mk:=zH hown4; have Ev:=zH qw; clear hown4 qw hg4 hl4);go_roundw
     case rel=>exact⟨k+1,Ol++[y],by go_num,ahk.out,Mk.out,by have:=WE.out;simp;omega,zm.out,Ev.out⟩
     case measure=>have:=ahk.out;simp[intOf];omega
    ·have alJ:k=32:=by omega
     have hv:av Ol=val (xs.take (i+1)):=by
      rw[HV2.out,alJ,kh HX.out,aeo,Nat.mod_eq_of_lt x.isLt]
     have HVF:=zH hv;have dk:((k:Int)<32)=False:=eq_false (by omega);clear hv;go_wp2_with fail;go_roundw
     case rel=>exact⟨i+1,Ol,by go_num,hlt,nA.out,by have:=WE.out;omega,HVF.out,fu.out⟩
     case measure=>simp[intOf];omega
  ·have hd:((i:Int)<(n:Int))=False:=eq_false (by omega);have eQ:av out=val xs:=by rw[HV.out,List.take_of_length_le (by rw[HL.out];omega)]
   have bG:=i6 (HO.out.rsAll) (by rw[<-HO.out.rsAll.len];have:=BE.out;omega);rw[eQ] at bG;have HC:=zH bG;clear bG eQ;go_wp2_with fail;refine HC.out.mono ?_;rintro e w2 ⟨v2,rfl,mw,bX⟩;have nA:=zH (mw.base_le HB.out.size);have fu:=zH (au HB.out bX);clear mw bX;go_wp2_with fail;go_ret
   exact⟨_,rfl,nA.out,fu.out⟩
theorem or_bit {v i:Nat} (hv:v<2^i) (hi:i<32):Go.bits .or .u32 (v:Int) (2^i%4294967296)=((BitVec.ofNat 32 (v+2^i)).toNat:Int):=by
 have hp:2^(i+1)<=4294967296:=Nat.pow_le_pow_right (n:=2) (by omega) (by omega:i+1<=32);rw[Nat.pow_succ] at hp;have e:(2^i%4294967296:Int)=((2^i:Nat):Int):=by
  have:((2^i:Nat):Int)=(2:Int)^i:=by simp
  rw[<-this];omega
 rw[e,u32_or_nat _ _ (by omega) (by omega),BitVec.toNat_ofNat];have h1:=Nat.two_pow_add_eq_or_of_lt hv 1;rw[Nat.mul_one,Nat.or_comm] at h1;rw[<-h1,Nat.add_comm v];omega
theorem Yl {S:Nat->Prop} {A:Option Addr} {n c:Nat} {xs:List Bool} {w:World} (h:RS w S A n c xs) (hn:n<=1000000) (hX:av xs<4294967296) : Calls Tryz.prog 235 #[.slice A n c] w (jf w 172 (cJ (av xs))):=by
 obtain⟨X,hXX⟩:∃X,av xs=X:=⟨_,rfl⟩;have bG:=i6 h (by omega);rw[hXX] at bG hX;rw[hXX];have HC:=zH bG;have HX:=zH hX;clear h bG hX hXX;obtain⟨i0,hi,l9,gC,jR⟩:=info_parts Tryz.u32Info;have HI:=zH hi;have tZ:=zH l9;have mD:=zH gC;have ot:=zH jR;clear hi l9 gC jR;go_enter Tryz.func235,Tryz.ntmps235;go_wp2_with fail;refine HC.out.mono ?_;rintro e w2 ⟨v2,rfl,mw,bX⟩;obtain⟨A2,l,c2,rfl,hl⟩:=mw.slice;have hl32:l<=32:=by rw[hl];exact jd HX.out
 have nA:=zH mw;have fu:=zH bX;have HL:=zH hl;clear mw bX hl;rcases Nat.eq_zero_or_pos l with h0|h0
 ·subst h0;have iF:X=0:=qQ (List.eq_nil_of_length_eq_zero HL.out.symm);subst iF;go_wp2_with (refine bR (α:=BitVec 32) w2 rfl _ _ 26 rfl rfl w.heap.size i0 (.int .u32 0) Tryz.underlying26 HI.out tZ.out mD.out rfl .i64 .i64 0 0 0 rfl rfl rfl rfl (by rw[ot.out];omega) (by unfold maxLen;omega) fu.out.size 0#32 bi (λ_ h=>h.elim) (λ_ _=>rfl) ?_; intro w3 v7 hg3; have Eu:=zH v7; have lX:=zH (fu.out.grown hg3 fu.out.size (λk hk=>by cases hk)); clear v7 hg3);go_loopw [4] (λiv wr=>iv=.int .i64 0/\wr=w3) (λ_ _=>0)
  case atStart=>exact⟨rfl,rfl⟩
  case round=>
   obtain⟨rfl,rfl⟩:=hrel;go_wp2_with fail;go_ret
   exact⟨_,rfl,by rw[cT];exact Eu.out,lX.out⟩
 ·have Xv:((l:Int)+31)/32=1:=by omega
  have Sw:((l:Int)+31).tdiv 32=1:=by rw[Int.tdiv_eq_ediv_of_nonneg (by omega)];exact Xv
  have fE:IntKind.i64.wrap ((l:Int)+31)=(l:Int)+31:=by rw[IntKind.wrap_i64]<;>omega
  go_wp2_with (refine bR (α:=BitVec 32) w2 rfl _ _ 26 rfl rfl w.heap.size i0 (.int .u32 0) Tryz.underlying26 HI.out tZ.out mD.out rfl .i64 .i64 1 1 1 rfl rfl rfl rfl (by rw[ot.out];omega) (by unfold maxLen;omega) fu.out.size 0#32 bi (λ_ h=>h.elim) (λ_ _=>rfl) ?_; intro w3 v7 hg3; have Eu:=zH v7; have lX:=zH (fu.out.grown hg3 fu.out.size (λk hk=>by cases hk)); have HR3:=zH (nA.out.rsAll.keep (S':=λb=>b<w2.heap.size) (λ_ h=>h) ((aw.grown hg3).sub λb hb=>⟨hb,by simp⟩)); clear v7 hg3);have U8:List.replicate 1 0#32=[BitVec.ofNat 32 (av ((bits X).take 0))]:=by rw[List.take_zero];rfl
  have v7:=Eu.out;rw[U8] at v7;have ahi:=zH v7;clear v7 U8 Eu;go_loopw [4] (λiv wr=>∃i:Nat,iv=.int .i64 i/\i<=l/\Own wr bi w.heap.size 172 (.slice (some ⟨w2.heap.size,0,none⟩) 1 1) [BitVec.ofNat 32 (av ((bits X).take i))]/\RS wr (λb=>b<w2.heap.size) A2 l c2 (bits X)/\Below w.heap.size w wr) (λiv _=>l-(intOf iv).toNat)
  case atStart=>exact⟨0,rfl,Nat.zero_le _,ahi.out,HR3.out,lX.out⟩
  case round=>
   clear ahi HR3 lX HC;obtain⟨i,rfl,hi,ho,hr,hb⟩:=hrel;have HO:=zH ho;have HR:=zH hr;have HB:=zH hb;clear ho hr hb;rcases Nat.lt_or_ge i l with hlt|hge
   ·obtain⟨b,o,x,rfl,Bz,hx,e1⟩:=HR.out.bool_at hlt;have Sr:(i:Int)<=(c2:Int):=by have:=HR.out.cap;omega
    have oo:((i:Int)<(l:Int))=True:=eq_true (by omega);have hwi:IntKind.i64.wrap ((i:Int)+1)=(i:Int)+1:=by rw[IntKind.wrap_i64]<;>omega
    have ct:=eY (bits X) i;rw[ft hx] at ct;obtain⟨v,hv⟩:∃v,av ((bits X).take i)=v:=⟨_,rfl⟩;have Bu:v<2^i:=by rw[<-hv];exact lN _ _
    have aaf:2^(i+1)<=4294967296:=Nat.pow_le_pow_right (n:=2) (by omega) (by omega:i+1<=32);rw[Nat.pow_succ] at aaf;obtain⟨e2,e3⟩:=HO.out.limb (k:=0) (by simp);have hcv:(([BitVec.ofNat 32 (av ((bits X).take i))]:List (BitVec 32)).getD 0 0#32).toNat=v:=by
     show(BitVec.ofNat 32 (av ((bits X).take i))).toNat=v;rw[hv,BitVec.toNat_ofNat];omega
    rw[hcv] at e2;rw[hv] at ct;have zm:=zH ct;have HP:=zH aaf;have HVL:=zH Bu;have HV:=zH hv;have h1:(i:Int)/32=0:=by omega
    have h2:(i:Int).tdiv 32=0:=by rw[Int.tdiv_eq_ediv_of_nonneg (by omega)];exact h1
    have h3:(i:Int)%32=(i:Int):=by omega
    have h4:(i:Int).tmod 32=(i:Int):=by rw[Int.tmod_eq_emod_of_nonneg (by omega)];exact h3
    have h5:IntKind.u64.wrap (i:Int)=(i:Int):=by rw[IntKind.wrap_u64];omega
    clear hx ct hv hcv Bu aaf;cases x with
    | false=>
     have hs:[BitVec.ofNat 32 (av ((bits X).take (i+1)))]=[BitVec.ofNat 32 (av ((bits X).take i))]:=by
      rw[zm.out,HV.out];simp
     have HS:=zH hs;clear hs;go_wp2_with fail;go_roundw
     case rel=>exact⟨i+1,by go_num,by omega,by rw[HS.out];exact HO.out,HR.out,HB.out⟩
     case measure=>simp[intOf];omega
    | true=>
     have kD:=or_bit HVL.out (by omega:i<32);have hs:([BitVec.ofNat 32 (av ((bits X).take i))]:List (BitVec 32)).set 0 (BitVec.ofNat 32 (v+2^i))=[BitVec.ofNat 32 (av ((bits X).take (i+1)))]:=by
      rw[zm.out,HV.out];simp
     have HS:=zH hs;clear hs;go_wp2_with fail;go_roundw
     case rel=>exact⟨i+1,by go_num,by omega,by rw[<-HS.out];exact HO.out.setLimb 0 _,HR.out.keep (λ_ h=>h) ((aw.refl _ _).setCell (p:=⟨w2.heap.size,0,none⟩) (by simp) _),HB.out.setCell (p:=⟨w2.heap.size,0,none⟩) fu.out.size _⟩
     case measure=>simp[intOf];omega
   ·have Mu:i=l:=by omega
    have iF:X≠0:=by
     intro e;have:=HL.out;rw[e,dL] at this;simp at this;omega
    have hf:[BitVec.ofNat 32 (av ((bits X).take i))]=cJ X:=by
     rw[List.take_of_length_le (by rw[<-HL.out];omega),bm];have h1:=HX.out;have h2:(BitVec.ofNat 32 X).toNat=X:=by rw[BitVec.toNat_ofNat];omega
     have h3:=vO (BitVec.ofNat 32 X) 0 (by rw[h2];omega);rw[h2,Nat.mul_zero,Nat.add_zero,cT] at h3;exact h3.symm
    have HF:=zH hf;have oo:((i:Int)<(l:Int))=False:=eq_false (by omega);clear hf Mu iF;go_wp2_with fail;go_ret
    exact⟨_,rfl,by rw[<-HF.out];exact HO.out,HB.out⟩
end Go.Proofs.YtdbpbfglhbiadaaGreatDoor
