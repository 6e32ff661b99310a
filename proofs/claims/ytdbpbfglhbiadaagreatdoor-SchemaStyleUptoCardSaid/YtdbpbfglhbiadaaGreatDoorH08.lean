/- Nat11 -/
import Derived.Test.YtdbpbfglhbiadaaGreatDoorH01
import Derived.Test.YtdbpbfglhbiadaaGreatDoorH07
import Derived.Deep.LoopGhost
set_option maxHeartbeats 4000000
set_option maxRecDepth 100000
namespace Go.Proofs.YtdbpbfglhbiadaaGreatDoor
open Go.RowKit
theorem aaT {S S2:Nat->Prop} {A A2:Option Addr} {n c n2 c2:Nat} {xs ys:List (BitVec 32)} {w:World} (h:RS w S A n c xs) (h2:RS w S2 A2 n2 c2 ys) (_:∀b,S b->b<w.heap.size) (gZ:∀b,S2 b->b<w.heap.size) (hn:n<=536870912) (hn2:n2<=536870912) : Calls Tryz.prog 190 #[.slice A n c,.slice A2 n2 c2] w (jf w 172 (cJ (Nat.gcd (val xs) (val ys)))):=by
 have H:=zH h;have H2:=zH h2;obtain⟨X,hX⟩:∃X,val xs=X:=⟨_,rfl⟩;obtain⟨V,hV⟩:∃V,val ys=V:=⟨_,rfl⟩;have h3:(cJ X).length<=536870912:=by rw[<-hX,du];have:=bI xs;have:=h.len;omega
 have h4:(cJ V).length<=536870912:=by rw[<-hV,du];have:=bI ys;have:=h2.len;omega
 have HX:=zH hX;have HV:=zH hV;obtain⟨G,hG⟩:∃G,Nat.gcd (val xs) (val ys)=G:=⟨_,rfl⟩;rw[hG];rw[hX,hV] at hG;have HG:=zH hG;have EP:=zH h3;have ow:=zH h4;clear h h2 hX hV hG h3 h4;go_enter Tryz.func190,Tryz.ntmps190;go_wp2_with fail;refine(jz H.out (by omega)).mono ?_;rintro e w1 ⟨v1,rfl,py,ci⟩;rw[HX.out] at py;have iG:=zH py;have fe:=zH ci;have JJ:=zH (H2.out.below ci gZ);clear py ci;go_wp2_with fail;refine(jz JJ.out (by omega)).mono ?_;rintro e w2 ⟨v2,rfl,mw,bX⟩;rw[HV.out] at mw;have nA:=zH (mw.base_le fe.out.size);have ahj:=zH (iG.out.below bX);have fu:=zH (au fe.out bX);clear mw bX;go_wp2_with fail;go_loopg [0,1] V (λk va vb wr=>∃a,k<=V/\(cJ a).length<=536870912/\Nat.gcd a k=G/\Own wr bi w.heap.size 172 va (cJ a)/\Own wr bi w.heap.size 172 vb (cJ k)/\Below w.heap.size w wr)
 case atStart=>exact⟨X,Nat.le_refl _,EP.out,HG.out,ahj.out,nA.out,fu.out⟩
 case round=>
  clear iG fe JJ nA ahj fu;obtain⟨a,hk,iI,hg,hoa,hob,hb⟩:=hrel;obtain⟨Aa,na,ca,rfl,hna⟩:=hoa.slice;obtain⟨Ab,nb,cb,rfl,hnb⟩:=hob.slice;have auc:na<=536870912:=by omega
  have aub:nb<=536870912:=by have:=jF ow.out hk;omega
  have HOA:=zH hoa;have HOB:=zH hob;have HB:=zH hb;have HGG:=zH hg;have HNB:=zH hnb;have HLA:=zH iI;clear hoa hob hb hg hna hnb iI;rcases Nat.eq_zero_or_pos nb with h0|h0
  ·subst h0;have PS:gk=0:=gb.1 (List.length_eq_zero_iff.1 HNB.out.symm);have hga:a=G:=by have:=HGG.out;rw[PS,Nat.gcd_zero_right] at this;exact this
   have HGA:=zH hga;clear PS hga;go_wp2_with fail;go_ret
   exact⟨_,rfl,by rw[<-HGA.out];exact HOA.out,HB.out⟩
  ·have hkp:0<gk:=by
    rcases Nat.eq_zero_or_pos gk with h|h
    ·exfalso
     have:=HNB.out;rw[h,cT] at this;simp at this;omega
    ·exact h
   go_wp2_with fail;refine(Gq HOA.out.rsAll HOB.out.rsAll (λ_ h=>h) (λ_ h=>h) (by omega) (by omega)).mono ?_;rintro e w3 ⟨vq,vr,rfl,ho,hr,kx⟩;rw[bn,bn,if_neg (by omega)] at hr;have Er:=zH (hr.base_le HB.out.size);have aos:=zH (HOB.out.below kx);have lX:=zH (au HB.out kx);clear ho hr kx;go_wp2_with fail
   go_roundg (a%gk)
   case measure=>exact Nat.mod_lt _ hkp
   case rel=>exact⟨gk,by have:=Nat.mod_lt a hkp;omega,jF ow.out hk,((Nat.gcd_comm _ _).trans ((Nat.gcd_rec gk a).symm.trans (Nat.gcd_comm _ _))).trans HGG.out,aos.out,Er.out,lX.out⟩
def kZ (n:Nat):Nat:=if n=0 then 0 else 32*((cJ n).length-1)+Lib.bitLen (((cJ n).getD ((cJ n).length-1) 0#32).toNat)
theorem lS {n:Nat}:kZ n=0↔n=0:=by
 unfold kZ;split
 ·rename_i h;simp[h]
 ·rename_i h;have hl:cJ n≠[]:=λe=>h (gb.1 e);have hp:0<(cJ n).length:=List.length_pos_iff.2 hl;have mb:(cM (cJ n)).getLast?=some ((cJ n).getD ((cJ n).length-1) 0#32):=by
   rw[xL,List.getLast?_eq_getElem?,List.getD_eq_getElem?_getD,List.getElem?_eq_getElem (by omega)];rfl
  have fR:=uK mb;have h0:0<((cJ n).getD ((cJ n).length-1) 0#32).toNat:=by
   rcases Nat.eq_zero_or_pos ((cJ n).getD ((cJ n).length-1) 0#32).toNat with h|h
   ·exact absurd (lQ.2 h) fR
   ·exact h
  have h1:=IE h0 ((cJ n).getD ((cJ n).length-1) 0#32).isLt;constructor
  ·intro e;omega
  ·intro e;exact absurd e h
theorem Jt {S:Nat->Prop} {A:Option Addr} {n c:Nat} {xs:List (BitVec 32)} {w:World} (h:RS w S A n c xs) (hn:n<=1073741824) : Calls Tryz.prog 188 #[.slice A n c] w (jk w (.int .i64 (kZ (val xs):Nat))):=by
 have hl:=du xs;have bJ:=bI xs;have kC:=h.len;have H:=zH h;obtain⟨l,xE⟩:∃l,cM xs=l:=⟨_,rfl⟩;obtain⟨X,hX⟩:∃X,val xs=X:=⟨_,rfl⟩;rw[xE] at hl bJ;rw[hX] at hl;rw[hX];have HT:=zH xE;have HL:=zH hl;clear h hl xE hX;go_enter Tryz.func188,Tryz.ntmps188;go_wp2_with fail;refine(eH H.out).mono ?_;rintro e w' ⟨A3,n3,c3,rfl,hr,rfl⟩;rw[HT.out] at hr;have hl3:=hr.len;have kx:n3<=1073741824:=by omega
 have HR:=zH hr;have zn:=zH hl3;clear hr hl3 bJ kC;rcases Nat.eq_zero_or_pos n3 with h0|h0
 ·subst h0;have iF:X=0:=gb.1 (by rw[HL.out];exact RS.nil_of' HR.out);subst iF;go_wp2_with fail;go_ret
  exact⟨rfl,rfl⟩
 ·have iF:X≠0:=by
   intro e;have:=zn.out;rw[<-HL.out,e,cT] at this;simp at this;omega
  obtain⟨k,rfl⟩:∃k,n3=k+1:=⟨n3-1,by omega⟩;obtain⟨b,o,y,rfl,_,hy,e1⟩:=HR.out.limb_at (k:=k) (by omega);have hb0:((k:Int)+1==0)=false:=by rw[beq_eq_false_iff_ne];omega
  have Db:=y.isLt;have dS:kZ X=32*k+Lib.bitLen y.toNat:=by
   unfold kZ;rw[if_neg iF,HL.out,zn.out,List.getD_eq_getElem?_getD,Nat.add_sub_cancel,hy];rfl
  have AP:Lib.bitLen y.toNat<=32:=bitLen_le (by simpa using Db) (by omega);have HF:=zH dS;obtain⟨z,hz⟩:∃z,Lib.bitLen y.toNat=z:=⟨_,rfl⟩;rw[hz] at AP;have HLZ:Hid (Calls Tryz.prog 218 #[.int .u32 (y.toNat:Int)] w (jk w (.int .i64 (z:Int)))):=zH (by
   refine(Tryz.bits_Len32 (y.toNat:Int) w (by omega) (by omega)).mono λe w' h=>⟨?_,h.2.symm⟩;rw[h.1,Int.toNat_natCast,hz])
  have HZ:=zH hz;clear hy dS hz iF;go_wp2_with fail;refine HLZ.out.mono ?_;rintro e w' ⟨rfl,rfl⟩;go_wp2_with fail;go_ret
  refine⟨gP ?_,rfl⟩;rw[HF.out,HZ.out];go_num
end Go.Proofs.YtdbpbfglhbiadaaGreatDoor
