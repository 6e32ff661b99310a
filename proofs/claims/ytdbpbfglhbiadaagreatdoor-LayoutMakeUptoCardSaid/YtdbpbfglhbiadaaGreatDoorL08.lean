/- Nat11 -/
import Derived.Test.YtdbpbfglhbiadaaGreatDoorL01
import Derived.Test.YtdbpbfglhbiadaaGreatDoorL07
import Derived.Deep.LoopGhost
set_option maxHeartbeats 8000000
set_option maxRecDepth 100000
namespace Go.Proofs.YtdbpbfglhbiadaaGreatDoor
open Go.RowKit
theorem aaT {S S2:Nat→Prop} {A A2:Option Addr} {n c n2 c2:Nat} {xs ys:List (BitVec 32)} {w:World} (h:RS w S A n c xs) (h2:RS w S2 A2 n2 c2 ys) (_:∀b,S b→b<w.heap.size) (iM:∀b,S2 b→b<w.heap.size) (hn:n≤536870912) (hn2:n2≤536870912) : Calls Tryz.prog 190 #[.slice A n c,.slice A2 n2 c2] w (jQ w 172 (du (Nat.gcd (val xs) (val ys)))):=by
 have H:=zH h;have H2:=zH h2;obtain⟨X,hX⟩:∃X,val xs=X:=⟨_,rfl⟩;obtain⟨V,hV⟩:∃V,val ys=V:=⟨_,rfl⟩;have h3:(du X).length≤536870912:=by rw[←hX,dY];have:=bU xs;have:=h.len;omega
 have h4:(du V).length≤536870912:=by rw[←hV,dY];have:=bU ys;have:=h2.len;omega
 have HX:=zH hX;have HV:=zH hV;obtain⟨G,hG⟩:∃G,Nat.gcd (val xs) (val ys)=G:=⟨_,rfl⟩;rw[hG];rw[hX,hV] at hG;have HG:=zH hG;have FF:=zH h3;have pG:=zH h4;clear h h2 hX hV hG h3 h4;go_enter Tryz.func190,Tryz.ntmps190;go_wp2_with fail;refine(kh H.out (by omega)).mono ?_;rintro e w1 ⟨v1,rfl,qX,cK⟩;rw[HX.out] at qX;have jk:=zH qX;have fK:=zH cK;have J2:=zH (H2.out.below cK iM);clear qX cK;go_wp2_with fail;refine(kh J2.out (by omega)).mono ?_;rintro e w2 ⟨v2,rfl,nO,cm⟩;rw[HV.out] at nO;have oT:=zH (nO.base_le fK.out.size);have agJ:=zH (jk.out.below cm);have fg:=zH (ao fK.out cm);clear nO cm;go_wp2_with fail;go_loopg [0,1] V (fun k va vb wr=>∃a,k≤V∧(du a).length≤536870912∧Nat.gcd a k=G∧Own wr bz w.heap.size 172 va (du a)∧Own wr bz w.heap.size 172 vb (du k)∧Below w.heap.size w wr)
 case atStart=>exact⟨X,Nat.le_refl _,FF.out,HG.out,agJ.out,oT.out,fg.out⟩
 case round=>
  clear jk fK J2 oT agJ fg;obtain⟨a,hk,iP,hg,hoa,hob,hb⟩:=hrel;obtain⟨Aa,na,ca,rfl,Sr⟩:=hoa.slice;obtain⟨Ab,nb,cb,rfl,MD⟩:=hob.slice;have ash:na≤536870912:=by omega
  have asg:nb≤536870912:=by have:=kq pG.out hk;omega
  have HOA:=zH hoa;have HOB:=zH hob;have HB:=zH hb;have HGG:=zH hg;have XB:=zH MD;have XC:=zH iP;clear hoa hob hb hg Sr MD iP;rcases Nat.eq_zero_or_pos nb with h0|h0
  ·subst h0;have P0:gk=0:=gL.1 (List.length_eq_zero_iff.1 XB.out.symm);have hga:a=G:=by have:=HGG.out;rw[P0,Nat.gcd_zero_right] at this;exact this
   have HGA:=zH hga;clear P0 hga;go_wp2_with fail;go_ret
   exact⟨_,rfl,by rw[←HGA.out];exact HOA.out,HB.out⟩
  ·have hkp:0<gk:=by
    rcases Nat.eq_zero_or_pos gk with h|h
    ·exfalso
     have:=XB.out;rw[h,dH] at this;simp at this;omega
    ·exact h
   go_wp2_with fail;refine(G0 HOA.out.rsAll HOB.out.rsAll (fun _ h=>h) (fun _ h=>h) (by omega) (by omega)).mono ?_;rintro e w3 ⟨vq,vr,rfl,ho,hr,kR⟩;rw[bF,bF,if_neg (by omega)] at hr;have Fo:=zH (hr.base_le HB.out.size);have am5:=zH (HOB.out.below kR);have mM:=zH (ao HB.out kR);clear ho hr kR;go_wp2_with fail
   go_roundg (a%gk)
   case measure=>exact Nat.mod_lt _ hkp
   case rel=>exact⟨gk,by have:=Nat.mod_lt a hkp;omega,kq pG.out hk,((Nat.gcd_comm _ _).trans ((Nat.gcd_rec gk a).symm.trans (Nat.gcd_comm _ _))).trans HGG.out,am5.out,Fo.out,mM.out⟩
def mG (n:Nat):Nat:=if n=0 then 0 else 32*((du n).length-1)+Lib.bitLen (((du n).getD ((du n).length-1) 0#32).toNat)
theorem nf {n:Nat}:mG n=0↔n=0:=by
 unfold mG;split
 ·rename_i h;simp[h]
 ·rename_i h;have hl:du n≠[]:=fun e=>h (gL.1 e);have hp:0<(du n).length:=List.length_pos_iff.2 hl;have kJ:(dy (du n)).getLast?=some ((du n).getD ((du n).length-1) 0#32):=by
   rw[ze,List.getLast?_eq_getElem?,List.getD_eq_getElem?_getD,List.getElem?_eq_getElem (by omega)];rfl
  have fG:=wu kJ;have h0:0<((du n).getD ((du n).length-1) 0#32).toNat:=by
   rcases Nat.eq_zero_or_pos ((du n).getD ((du n).length-1) 0#32).toNat with h|h
   ·exact absurd (nc.2 h) fG
   ·exact h
  have h1:=IZ h0 ((du n).getD ((du n).length-1) 0#32).isLt;constructor
  ·intro e;omega
  ·intro e;exact absurd e h
theorem JM {S:Nat→Prop} {A:Option Addr} {n c:Nat} {xs:List (BitVec 32)} {w:World} (h:RS w S A n c xs) (hn:n≤1073741824) : Calls Tryz.prog 188 #[.slice A n c] w (gW w (.int .i64 (mG (val xs):Nat))):=by
 have hl:=dY xs;have bG:=bU xs;have pC:=h.len;have H:=zH h;obtain⟨l,yW⟩:∃l,dy xs=l:=⟨_,rfl⟩;obtain⟨X,hX⟩:∃X,val xs=X:=⟨_,rfl⟩;rw[yW] at hl bG;rw[hX] at hl;rw[hX];have HT:=zH yW;have HL:=zH hl;clear h hl yW hX;go_enter Tryz.func188,Tryz.ntmps188;go_wp2_with fail;refine(fi H.out).mono ?_;rintro e w' ⟨A3,n3,c3,rfl,hr,rfl⟩;rw[HT.out] at hr;have hl3:=hr.len;have kR:n3≤1073741824:=by omega
 have HR:=zH hr;have AN:=zH hl3;clear hr hl3 bG pC;rcases Nat.eq_zero_or_pos n3 with h0|h0
 ·subst h0;have ji:X=0:=gL.1 (by rw[HL.out];exact RS.nil_of' HR.out);subst ji;go_wp2_with fail;go_ret
  exact⟨rfl,rfl⟩
 ·have ji:X≠0:=by
   intro e;have:=AN.out;rw[←HL.out,e,dH] at this;simp at this;omega
  obtain⟨k,rfl⟩:∃k,n3=k+1:=⟨n3-1,by omega⟩;obtain⟨b,o,y,rfl,_,hy,e1⟩:=HR.out.limb_at (k:=k) (by omega);have hb0:((k:Int)+1==0)=false:=by rw[beq_eq_false_iff_ne];omega
  have Ec:=y.isLt;have eD:mG X=32*k+Lib.bitLen y.toNat:=by
   unfold mG;rw[if_neg ji,HL.out,AN.out,List.getD_eq_getElem?_getD,Nat.add_sub_cancel,hy];rfl
  have yD:Lib.bitLen y.toNat≤32:=bitLen_le (by simpa using Ec) (by omega);have HF:=zH eD;obtain⟨z,hz⟩:∃z,Lib.bitLen y.toNat=z:=⟨_,rfl⟩;rw[hz] at yD;have HLZ:Hid (Calls Tryz.prog 218 #[.int .u32 (y.toNat:Int)] w (gW w (.int .i64 (z:Int)))):=zH (by
   refine(Tryz.bits_Len32 (y.toNat:Int) w (by omega) (by omega)).mono fun e w' h=>⟨?_,h.2.symm⟩;rw[h.1,Int.toNat_natCast,hz])
  have HZ:=zH hz;clear hy eD hz ji;go_wp2_with fail;refine HLZ.out.mono ?_;rintro e w' ⟨rfl,rfl⟩;go_wp2_with fail;go_ret
  refine⟨iu ?_,rfl⟩;rw[HF.out,HZ.out];go_num
end Go.Proofs.YtdbpbfglhbiadaaGreatDoor
