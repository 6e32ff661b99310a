/- Nat11 -/
import Derived.Test.YtdbpbfglhbiadaaGreatDoorF01
import Derived.Test.YtdbpbfglhbiadaaGreatDoorF07
import Derived.Deep.LoopGhost
set_option maxHeartbeats 8000000
set_option maxRecDepth 100000
namespace Go.Proofs.YtdbpbfglhbiadaaGreatDoor
open Go.RowKit
theorem Yq {S S2:Nat->Prop} {A A2:Option Addr} {n c n2 c2:Nat} {xs ys:List (BitVec 32)} {w:World} (h:RS w S A n c xs) (h2:RS w S2 A2 n2 c2 ys) (_:∀b,S b->b<w.heap.size) (gL:∀b,S2 b->b<w.heap.size) (hn:n<=536870912) (hn2:n2<=536870912) : Calls Tryz.prog 190 #[.slice A n c,.slice A2 n2 c2] w (iP w 172 (cF (Nat.gcd (val xs) (val ys)))):=by
 have H:=zH h;have H2:=zH h2;obtain⟨X,hX⟩:∃X,val xs=X:=⟨_,rfl⟩;obtain⟨V,hV⟩:∃V,val ys=V:=⟨_,rfl⟩;have h3:(cF X).length<=536870912:=by rw[<-hX,di];have:=bA xs;have:=h.len;omega
 have h4:(cF V).length<=536870912:=by rw[<-hV,di];have:=bA ys;have:=h2.len;omega
 have HX:=zH hX;have HV:=zH hV;obtain⟨G,hG⟩:∃G,Nat.gcd (val xs) (val ys)=G:=⟨_,rfl⟩;rw[hG];rw[hX,hV] at hG;have HG:=zH hG;have Dc:=zH h3;have nF:=zH h4;clear h h2 hX hV hG h3 h4;go_enter Tryz.func190,Tryz.ntmps190;go_wp2_with fail;refine(jf H.out (by omega)).mono ?_;rintro e w1 ⟨v1,rfl,oL,bS⟩;rw[HX.out] at oL;have ic:=zH oL;have eP:=zH bS;have Hq:=zH (H2.out.below bS gL);clear oL bS;go_wp2_with fail;refine(jf Hq.out (by omega)).mono ?_;rintro e w2 ⟨v2,rfl,lL,bH⟩;rw[HV.out] at lL;have mR:=zH (lL.base_le eP.out.size);have aeb:=zH (ic.out.below bH);have ek:=zH (ak eP.out bH);clear lL bH;go_wp2_with fail;go_loopg [0,1] V (λk va vb wr=>∃a,k<=V/\(cF a).length<=536870912/\Nat.gcd a k=G/\Own wr bb w.heap.size 172 va (cF a)/\Own wr bb w.heap.size 172 vb (cF k)/\Below w.heap.size w wr)
 case atStart=>exact⟨X,Nat.le_refl _,Dc.out,HG.out,aeb.out,mR.out,ek.out⟩
 case round=>
  clear ic eP Hq mR aeb ek;obtain⟨a,hk,gO,hg,hoa,hob,hb⟩:=hrel;obtain⟨Aa,na,ca,rfl,PV⟩:=hoa.slice;obtain⟨Ab,nb,cb,rfl,Km⟩:=hob.slice;have apA:na<=536870912:=by omega
  have apz:nb<=536870912:=by have:=jk nF.out hk;omega
  have HOA:=zH hoa;have HOB:=zH hob;have HB:=zH hb;have HGG:=zH hg;have Vn:=zH Km;have Vo:=zH gO;clear hoa hob hb hg PV Km gO;rcases Nat.eq_zero_or_pos nb with h0|h0
  ·subst h0;have ND:gk=0:=fN.1 (List.length_eq_zero_iff.1 Vn.out.symm);have XO:a=G:=by have:=HGG.out;rw[ND,Nat.gcd_zero_right] at this;exact this
   have HGA:=zH XO;clear ND XO;go_wp2_with fail;go_ret
   exact⟨_,rfl,by rw[<-HGA.out];exact HOA.out,HB.out⟩
  ·have Z6:0<gk:=by
    rcases Nat.eq_zero_or_pos gk with h|h
    ·exfalso
     have:=Vn.out;rw[h,cN] at this;simp at this;omega
    ·exact h
   go_wp2_with fail;refine(EL HOA.out.rsAll HOB.out.rsAll (λ_ h=>h) (λ_ h=>h) (by omega) (by omega)).mono ?_;rintro e w3 ⟨vq,vr,rfl,ho,hr,jF⟩;rw[bi,bi,if_neg (by omega)] at hr;have CG:=zH (hr.base_le HB.out.size);have aky:=zH (HOB.out.below jF);have kR:=zH (ak HB.out jF);clear ho hr jF;go_wp2_with fail
   go_roundg (a%gk)
   case measure=>exact Nat.mod_lt _ Z6
   case rel=>exact⟨gk,by have:=Nat.mod_lt a Z6;omega,jk nF.out hk,((Nat.gcd_comm _ _).trans ((Nat.gcd_rec gk a).symm.trans (Nat.gcd_comm _ _))).trans HGG.out,aky.out,CG.out,kR.out⟩
def kL (n:Nat):Nat:=if n=0 then 0 else 32*((cF n).length-1)+Lib.bitLen (((cF n).getD ((cF n).length-1) 0#32).toNat)
theorem lx {n:Nat}:kL n=0↔n=0:=by
 unfold kL;split
 ·rename_i h;simp[h]
 ·rename_i h;have hl:cF n≠[]:=λe=>h (fN.1 e);have hp:0<(cF n).length:=List.length_pos_iff.2 hl;have jx:(cG (cF n)).getLast?=some ((cF n).getD ((cF n).length-1) 0#32):=by
   rw[wz,List.getLast?_eq_getElem?,List.getD_eq_getElem?_getD,List.getElem?_eq_getElem (by omega)];rfl
  have eM:=tg jx;have h0:0<((cF n).getD ((cF n).length-1) 0#32).toNat:=by
   rcases Nat.eq_zero_or_pos ((cF n).getD ((cF n).length-1) 0#32).toNat with h|h
   ·exact absurd (lw.2 h) eM
   ·exact h
  have h1:=Gd h0 ((cF n).getD ((cF n).length-1) 0#32).isLt;constructor
  ·intro e;omega
  ·intro e;exact absurd e h
theorem G9 {S:Nat->Prop} {A:Option Addr} {n c:Nat} {xs:List (BitVec 32)} {w:World} (h:RS w S A n c xs) (hn:n<=1073741824) : Calls Tryz.prog 188 #[.slice A n c] w (ga w (.int .i64 (kL (val xs):Nat))):=by
 have hl:=di xs;have bm:=bA xs;have nA:=h.len;have H:=zH h;obtain⟨l,wo⟩:∃l,cG xs=l:=⟨_,rfl⟩;obtain⟨X,hX⟩:∃X,val xs=X:=⟨_,rfl⟩;rw[wo] at hl bm;rw[hX] at hl;rw[hX];have HT:=zH wo;have HL:=zH hl;clear h hl wo hX;go_enter Tryz.func188,Tryz.ntmps188;go_wp2_with fail;refine(et H.out).mono ?_;rintro e w' ⟨A3,n3,c3,rfl,hr,rfl⟩;rw[HT.out] at hr;have hl3:=hr.len;have jF:n3<=1073741824:=by omega
 have HR:=zH hr;have xV:=zH hl3;clear hr hl3 bm nA;rcases Nat.eq_zero_or_pos n3 with h0|h0
 ·subst h0;have ia:X=0:=fN.1 (by rw[HL.out];exact RS.nil_of' HR.out);subst ia;go_wp2_with fail;go_ret
  exact⟨rfl,rfl⟩
 ·have ia:X≠0:=by
   intro e;have:=xV.out;rw[<-HL.out,e,cN] at this;simp at this;omega
  obtain⟨k,rfl⟩:∃k,n3=k+1:=⟨n3-1,by omega⟩;obtain⟨b,o,y,rfl,_,hy,e1⟩:=HR.out.limb_at (k:=k) (by omega);have hb0:((k:Int)+1==0)=false:=by rw[beq_eq_false_iff_ne];omega
  have Bp:=y.isLt;have dG:kL X=32*k+Lib.bitLen y.toNat:=by
   unfold kL;rw[if_neg ia,HL.out,xV.out,List.getD_eq_getElem?_getD,Nat.add_sub_cancel,hy];rfl
  have vJ:Lib.bitLen y.toNat<=32:=bitLen_le (by simpa using Bp) (by omega);have HF:=zH dG;obtain⟨z,hz⟩:∃z,Lib.bitLen y.toNat=z:=⟨_,rfl⟩;rw[hz] at vJ;have HLZ:Hid (Calls Tryz.prog 218 #[.int .u32 (y.toNat:Int)] w (ga w (.int .i64 (z:Int)))):=zH (by
   refine(Tryz.bits_Len32 (y.toNat:Int) w (by omega) (by omega)).mono λe w' h=>⟨?_,h.2.symm⟩;rw[h.1,Int.toNat_natCast,hz])
  have HZ:=zH hz;clear hy dG hz ia;go_wp2_with fail;refine HLZ.out.mono ?_;rintro e w' ⟨rfl,rfl⟩;go_wp2_with fail;go_ret
  refine⟨gx ?_,rfl⟩;rw[HF.out,HZ.out];go_num
end Go.Proofs.YtdbpbfglhbiadaaGreatDoor
