/- Nat11 -/
import Derived.Test.YtjlhbfbdcfajfaaGreatDoorW01
import Derived.Test.YtjlhbfbdcfajfaaGreatDoorW07
import Derived.Deep.LoopGhost
set_option maxHeartbeats 8000000
set_option maxRecDepth 100000
namespace Go.Proofs.YtjlhbfbdcfajfaaGreatDoor
open Go.RowKit
theorem aaf {S S2:Nat→Prop} {A A2:Option Addr} {n c n2 c2:Nat} {xs ys:List (BitVec 32)} {w:World} (h:RS w S A n c xs) (h2:RS w S2 A2 n2 c2 ys) (_:∀b,S b→b<w.heap.size) (iN:∀b,S2 b→b<w.heap.size) (hn:n≤536870912) (hn2:n2≤536870912) : Calls Tryz.prog 135 #[.slice A n c,.slice A2 n2 c2] w (jR w 98 (dm (Nat.gcd (val xs) (val ys)))):=by
 have H:=zH h;have H2:=zH h2;obtain⟨X,hX⟩:∃X,val xs=X:=⟨_,rfl⟩;obtain⟨V,hV⟩:∃V,val ys=V:=⟨_,rfl⟩;have h3:(dm X).length≤536870912:=by rw[←hX,dU];have:=bT xs;have:=h.len;omega
 have h4:(dm V).length≤536870912:=by rw[←hV,dU];have:=bT ys;have:=h2.len;omega
 have HX:=zH hX;have HV:=zH hV;obtain⟨G,hG⟩:∃G,Nat.gcd (val xs) (val ys)=G:=⟨_,rfl⟩;rw[hG];rw[hX,hV] at hG;have HG:=zH hG;have Fu:=zH h3;have pE:=zH h4;clear h h2 hX hV hG h3 h4;go_enter Tryz.func135,Tryz.ntmps135;go_wp2_with fail;refine(kf H.out (by omega)).mono ?_;rintro e w1 ⟨v1,rfl,qN,cI⟩;rw[HX.out] at qN;have jm:=zH qN;have fL:=zH cI;have JV:=zH (H2.out.below cI iN);clear qN cI;go_wp2_with fail;refine(kf JV.out (by omega)).mono ?_;rintro e w2 ⟨v2,rfl,nM,cj⟩;rw[HV.out] at nM;have oR:=zH (nM.base_le fL.out.size);have aga:=zH (jm.out.below cj);have fe:=zH (ak fL.out cj);clear nM cj;go_wp2_with fail;go_loopg [0,1] V (fun k va vb wr=>∃a,k≤V∧(dm a).length≤536870912∧Nat.gcd a k=G∧Own wr bw w.heap.size 98 va (dm a)∧Own wr bw w.heap.size 98 vb (dm k)∧Below w.heap.size w wr)
 case atStart=>exact⟨X,Nat.le_refl _,Fu.out,HG.out,aga.out,oR.out,fe.out⟩
 case round=>
  clear jm fL JV oR aga fe;obtain⟨a,hk,iQ,hg,hoa,hob,hb⟩:=hrel;obtain⟨Aa,na,ca,rfl,WT⟩:=hoa.slice;obtain⟨Ab,nb,cb,rfl,Mo⟩:=hob.slice;have arZ:na≤536870912:=by omega
  have arY:nb≤536870912:=by have:=ko pE.out hk;omega
  have HOA:=zH hoa;have HOB:=zH hob;have HB:=zH hb;have HGG:=zH hg;have Xy:=zH Mo;have Xz:=zH iQ;clear hoa hob hb hg WT Mo iQ;rcases Nat.eq_zero_or_pos nb with h0|h0
  ·subst h0;have PF:gk=0:=gI.1 (List.length_eq_zero_iff.1 Xy.out.symm);have ZM:a=G:=by have:=HGG.out;rw[PF,Nat.gcd_zero_right] at this;exact this
   have HGA:=zH ZM;clear PF ZM;go_wp2_with fail;go_ret
   exact⟨_,rfl,by rw[←HGA.out];exact HOA.out,HB.out⟩
  ·have hkp:0<gk:=by
    rcases Nat.eq_zero_or_pos gk with h|h
    ·exfalso
     have:=Xy.out;rw[h,dC] at this;simp at this;omega
    ·exact h
   go_wp2_with fail;refine(GO HOA.out.rsAll HOB.out.rsAll (fun _ h=>h) (fun _ h=>h) (by omega) (by omega)).mono ?_;rintro e w3 ⟨vq,vr,rfl,ho,hr,kP⟩;rw[bF,bF,if_neg (by omega)] at hr;have E6:=zH (hr.base_le HB.out.size);have amS:=zH (HOB.out.below kP);have mI:=zH (ak HB.out kP);clear ho hr kP;go_wp2_with fail
   go_roundg (a%gk)
   case measure=>exact Nat.mod_lt _ hkp
   case rel=>exact⟨gk,by have:=Nat.mod_lt a hkp;omega,ko pE.out hk,((Nat.gcd_comm _ _).trans ((Nat.gcd_rec gk a).symm.trans (Nat.gcd_comm _ _))).trans HGG.out,amS.out,E6.out,mI.out⟩
def mC (n:Nat):Nat:=if n=0 then 0 else 32*((dm n).length-1)+Lib.bitLen (((dm n).getD ((dm n).length-1) 0#32).toNat)
theorem nf {n:Nat}:mC n=0↔n=0:=by
 unfold mC;split
 ·rename_i h;simp[h]
 ·rename_i h;have hl:dm n≠[]:=fun e=>h (gI.1 e);have hp:0<(dm n).length:=List.length_pos_iff.2 hl;have kH:(dt (dm n)).getLast?=some ((dm n).getD ((dm n).length-1) 0#32):=by
   rw[yP,List.getLast?_eq_getElem?,List.getD_eq_getElem?_getD,List.getElem?_eq_getElem (by omega)];rfl
  have fI:=vT kH;have h0:0<((dm n).getD ((dm n).length-1) 0#32).toNat:=by
   rcases Nat.eq_zero_or_pos ((dm n).getD ((dm n).length-1) 0#32).toNat with h|h
   ·exact absurd (nc.2 h) fI
   ·exact h
  have h1:=IS h0 ((dm n).getD ((dm n).length-1) 0#32).isLt;constructor
  ·intro e;omega
  ·intro e;exact absurd e h
theorem JE {S:Nat→Prop} {A:Option Addr} {n c:Nat} {xs:List (BitVec 32)} {w:World} (h:RS w S A n c xs) (hn:n≤1073741824) : Calls Tryz.prog 133 #[.slice A n c] w (gU w (.int .i64 (mC (val xs):Nat))):=by
 have hl:=dU xs;have bO:=bT xs;have nA:=h.len;have H:=zH h;obtain⟨l,yI⟩:∃l,dt xs=l:=⟨_,rfl⟩;obtain⟨X,hX⟩:∃X,val xs=X:=⟨_,rfl⟩;rw[yI] at hl bO;rw[hX] at hl;rw[hX];have HT:=zH yI;have HL:=zH hl;clear h hl yI hX;go_enter Tryz.func133,Tryz.ntmps133;go_wp2_with fail;refine(fh H.out).mono ?_;rintro e w' ⟨A3,n3,c3,rfl,hr,rfl⟩;rw[HT.out] at hr;have hl3:=hr.len;have kP:n3≤1073741824:=by omega
 have HR:=zH hr;have AG:=zH hl3;clear hr hl3 bO nA;rcases Nat.eq_zero_or_pos n3 with h0|h0
 ·subst h0;have jk:X=0:=gI.1 (by rw[HL.out];exact RS.nil_of' HR.out);subst jk;go_wp2_with fail;go_ret
  exact⟨rfl,rfl⟩
 ·have jk:X≠0:=by
   intro e;have:=AG.out;rw[←HL.out,e,dC] at this;simp at this;omega
  obtain⟨k,rfl⟩:∃k,n3=k+1:=⟨n3-1,by omega⟩;obtain⟨b,o,y,rfl,_,hy,e1⟩:=HR.out.limb_at (k:=k) (by omega);have hb0:((k:Int)+1==0)=false:=by rw[beq_eq_false_iff_ne];omega
  have DY:=y.isLt;have eB:mC X=32*k+Lib.bitLen y.toNat:=by
   unfold mC;rw[if_neg jk,HL.out,AG.out,List.getD_eq_getElem?_getD,Nat.add_sub_cancel,hy];rfl
  have ym:Lib.bitLen y.toNat≤32:=bitLen_le (by simpa using DY) (by omega);have HF:=zH eB;obtain⟨z,hz⟩:∃z,Lib.bitLen y.toNat=z:=⟨_,rfl⟩;rw[hz] at ym;have HLZ:Hid (Calls Tryz.prog 157 #[.int .u32 (y.toNat:Int)] w (gU w (.int .i64 (z:Int)))):=zH (by
   refine(Tryz.bits_Len32 (y.toNat:Int) w (by omega) (by omega)).mono fun e w' h=>⟨?_,h.2.symm⟩;rw[h.1,Int.toNat_natCast,hz])
  have HZ:=zH hz;clear hy eB hz jk;go_wp2_with fail;refine HLZ.out.mono ?_;rintro e w' ⟨rfl,rfl⟩;go_wp2_with fail;go_ret
  refine⟨iw ?_,rfl⟩;rw[HF.out,HZ.out];go_num
end Go.Proofs.YtjlhbfbdcfajfaaGreatDoor
