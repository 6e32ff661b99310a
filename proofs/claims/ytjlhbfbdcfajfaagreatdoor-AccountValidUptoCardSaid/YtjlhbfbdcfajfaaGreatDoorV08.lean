/- Nat11 -/
import Derived.Test.YtjlhbfbdcfajfaaGreatDoorV01
import Derived.Test.YtjlhbfbdcfajfaaGreatDoorV07
import Derived.Deep.LoopGhost
set_option maxHeartbeats 8000000
set_option maxRecDepth 100000
namespace Go.Proofs.YtjlhbfbdcfajfaaGreatDoor
open Go.RowKit
theorem XL {S S2:Nat→Prop} {A A2:Option Addr} {n c n2 c2:Nat} {xs ys:List (BitVec 32)} {w:World} (h:RS w S A n c xs) (h2:RS w S2 A2 n2 c2 ys) (_:∀b,S b→b<w.heap.size) (iC:∀b,S2 b→b<w.heap.size) (hn:n≤536870912) (hn2:n2≤536870912) : Calls Tryz.prog 135 #[.slice A n c,.slice A2 n2 c2] w (jF w 98 (dc (Nat.gcd (val xs) (val ys)))):=by
 have H:=zH h;have H2:=zH h2;obtain⟨X,hX⟩:∃X,val xs=X:=⟨_,rfl⟩;obtain⟨V,hV⟩:∃V,val ys=V:=⟨_,rfl⟩;have h3:(dc X).length≤536870912:=by rw[←hX,dN];have:=bQ xs;have:=h.len;omega
 have h4:(dc V).length≤536870912:=by rw[←hV,dN];have:=bQ ys;have:=h2.len;omega
 have HX:=zH hX;have HV:=zH hV;obtain⟨G,hG⟩:∃G,Nat.gcd (val xs) (val ys)=G:=⟨_,rfl⟩;rw[hG];rw[hX,hV] at hG;have HG:=zH hG;have Ec:=zH h3;have o0:=zH h4;clear h h2 hX hV hG h3 h4;go_enter Tryz.func135,Tryz.ntmps135;go_wp2_with fail;refine(j0 H.out (by omega)).mono ?_;rintro e w1 ⟨v1,rfl,qf,cI⟩;rw[HX.out] at qf;have ja:=zH qf;have fy:=zH cI;have IF:=zH (H2.out.below cI iC);clear qf cI;go_wp2_with fail;refine(j0 IF.out (by omega)).mono ?_;rintro e w2 ⟨v2,rfl,nh,bZ⟩;rw[HV.out] at nh;have ot:=zH (nh.base_le fy.out.size);have ac7:=zH (ja.out.below bZ);have eP:=zH (ak fy.out bZ);clear nh bZ;go_wp2_with fail;go_loopg [0,1] V (fun k va vb wr=>∃a,k≤V∧(dc a).length≤536870912∧Nat.gcd a k=G∧Own wr bq w.heap.size 98 va (dc a)∧Own wr bq w.heap.size 98 vb (dc k)∧Below w.heap.size w wr)
 case atStart=>exact⟨X,Nat.le_refl _,Ec.out,HG.out,ac7.out,ot.out,eP.out⟩
 case round=>
  clear ja fy IF ot ac7 eP;obtain⟨a,hk,iF,hg,hoa,hob,hb⟩:=hrel;obtain⟨Aa,na,ca,rfl,UM⟩:=hoa.slice;obtain⟨Ab,nb,cb,rfl,KY⟩:=hob.slice;have aob:na≤536870912:=by omega
  have aoa:nb≤536870912:=by have:=j7 o0.out hk;omega
  have HOA:=zH hoa;have HOB:=zH hob;have HB:=zH hb;have HGG:=zH hg;have Vo:=zH KY;have Vp:=zH iF;clear hoa hob hb hg UM KY iF;rcases Nat.eq_zero_or_pos nb with h0|h0
  ·subst h0;have NX:gk=0:=gz.1 (List.length_eq_zero_iff.1 Vo.out.symm);have Xo:a=G:=by have:=HGG.out;rw[NX,Nat.gcd_zero_right] at this;exact this
   have HGA:=zH Xo;clear NX Xo;go_wp2_with fail;go_ret
   exact⟨_,rfl,by rw[←HGA.out];exact HOA.out,HB.out⟩
  ·have Ze:0<gk:=by
    rcases Nat.eq_zero_or_pos gk with h|h
    ·exfalso
     have:=Vo.out;rw[h,dt] at this;simp at this;omega
    ·exact h
   go_wp2_with fail;refine(FB HOA.out.rsAll HOB.out.rsAll (fun _ h=>h) (fun _ h=>h) (by omega) (by omega)).mono ?_;rintro e w3 ⟨vq,vr,rfl,ho,hr,kD⟩;rw[bC,bC,if_neg (by omega)] at hr;have DU:=zH (hr.base_le HB.out.size);have ajn:=zH (HOB.out.below kD);have mg:=zH (ak HB.out kD);clear ho hr kD;go_wp2_with fail
   go_roundg (a%gk)
   case measure=>exact Nat.mod_lt _ Ze
   case rel=>exact⟨gk,by have:=Nat.mod_lt a Ze;omega,j7 o0.out hk,((Nat.gcd_comm _ _).trans ((Nat.gcd_rec gk a).symm.trans (Nat.gcd_comm _ _))).trans HGG.out,ajn.out,DU.out,mg.out⟩
def lX (n:Nat):Nat:=if n=0 then 0 else 32*((dc n).length-1)+Lib.bitLen (((dc n).getD ((dc n).length-1) 0#32).toNat)
theorem mN {n:Nat}:lX n=0↔n=0:=by
 unfold lX;split
 ·rename_i h;simp[h]
 ·rename_i h;have hl:dc n≠[]:=fun e=>h (gz.1 e);have hp:0<(dc n).length:=List.length_pos_iff.2 hl;have ku:(dh (dc n)).getLast?=some ((dc n).getD ((dc n).length-1) 0#32):=by
   rw[xO,List.getLast?_eq_getElem?,List.getD_eq_getElem?_getD,List.getElem?_eq_getElem (by omega)];rfl
  have fv:=uQ ku;have h0:0<((dc n).getD ((dc n).length-1) 0#32).toNat:=by
   rcases Nat.eq_zero_or_pos ((dc n).getD ((dc n).length-1) 0#32).toNat with h|h
   ·exact absurd (mM.2 h) fv
   ·exact h
  have h1:=GY h0 ((dc n).getD ((dc n).length-1) 0#32).isLt;constructor
  ·intro e;omega
  ·intro e;exact absurd e h
theorem Io {S:Nat→Prop} {A:Option Addr} {n c:Nat} {xs:List (BitVec 32)} {w:World} (h:RS w S A n c xs) (hn:n≤1073741824) : Calls Tryz.prog 133 #[.slice A n c] w (gL w (.int .i64 (lX (val xs):Nat))):=by
 have hl:=dN xs;have bM:=bQ xs;have nl:=h.len;have H:=zH h;obtain⟨l,xH⟩:∃l,dh xs=l:=⟨_,rfl⟩;obtain⟨X,hX⟩:∃X,val xs=X:=⟨_,rfl⟩;rw[xH] at hl bM;rw[hX] at hl;rw[hX];have HT:=zH xH;have HL:=zH hl;clear h hl xH hX;go_enter Tryz.func133,Tryz.ntmps133;go_wp2_with fail;refine(eR H.out).mono ?_;rintro e w' ⟨A3,n3,c3,rfl,hr,rfl⟩;rw[HT.out] at hr;have hl3:=hr.len;have kD:n3≤1073741824:=by omega
 have HR:=zH hr;have zi:=zH hl3;clear hr hl3 bM nl;rcases Nat.eq_zero_or_pos n3 with h0|h0
 ·subst h0;have i7:X=0:=gz.1 (by rw[HL.out];exact RS.nil_of' HR.out);subst i7;go_wp2_with fail;go_ret
  exact⟨rfl,rfl⟩
 ·have i7:X≠0:=by
   intro e;have:=zi.out;rw[←HL.out,e,dt] at this;simp at this;omega
  obtain⟨k,rfl⟩:∃k,n3=k+1:=⟨n3-1,by omega⟩;obtain⟨b,o,y,rfl,_,hy,e1⟩:=HR.out.limb_at (k:=k) (by omega);have hb0:((k:Int)+1==0)=false:=by rw[beq_eq_false_iff_ne];omega
  have Cu:=y.isLt;have et:lX X=32*k+Lib.bitLen y.toNat:=by
   unfold lX;rw[if_neg i7,HL.out,zi.out,List.getD_eq_getElem?_getD,Nat.add_sub_cancel,hy];rfl
  have xl:Lib.bitLen y.toNat≤32:=bitLen_le (by simpa using Cu) (by omega);have HF:=zH et;obtain⟨z,hz⟩:∃z,Lib.bitLen y.toNat=z:=⟨_,rfl⟩;rw[hz] at xl;have HLZ:Hid (Calls Tryz.prog 157 #[.int .u32 (y.toNat:Int)] w (gL w (.int .i64 (z:Int)))):=zH (by
   refine(Tryz.bits_Len32 (y.toNat:Int) w (by omega) (by omega)).mono fun e w' h=>⟨?_,h.2.symm⟩;rw[h.1,Int.toNat_natCast,hz])
  have HZ:=zH hz;clear hy et hz i7;go_wp2_with fail;refine HLZ.out.mono ?_;rintro e w' ⟨rfl,rfl⟩;go_wp2_with fail;go_ret
  refine⟨hZ ?_,rfl⟩;rw[HF.out,HZ.out];go_num
end Go.Proofs.YtjlhbfbdcfajfaaGreatDoor
