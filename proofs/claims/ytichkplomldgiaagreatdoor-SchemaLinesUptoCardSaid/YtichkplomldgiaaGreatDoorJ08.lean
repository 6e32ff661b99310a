/- Nat11 -/
import Derived.Test.YtichkplomldgiaaGreatDoorJ01
import Derived.Test.YtichkplomldgiaaGreatDoorJ07
import Derived.Deep.LoopGhost
set_option maxHeartbeats 4000000
set_option maxRecDepth 100000
namespace Go.Proofs.YtichkplomldgiaaGreatDoor
open Go.RowKit
theorem MO {S S2:Nat->Prop} {A A2:Option Addr} {n c n2 c2:Nat} {xs ys:List (BitVec 32)} {w:World} (h:RS w S A n c xs) (h2:RS w S2 A2 n2 c2 ys) (_:∀b,S b->b<w.heap.size) (fG:∀b,S2 b->b<w.heap.size) (hn:n<=536870912) (hn2:n2<=536870912) : Calls Tryz.prog 206 #[.slice A n c,.slice A2 n2 c2] w (lE w 138 (bC (Nat.gcd (val xs) (val ys)))):=by
 have H:=zH h;have H2:=zH h2;obtain⟨X,hX⟩:∃X,val xs=X:=⟨_,rfl⟩;obtain⟨V,hV⟩:∃V,val ys=V:=⟨_,rfl⟩;have h3:(bC X).length<=536870912:=by rw[<-hX,bR];have:=aR xs;have:=h.len;omega
 have h4:(bC V).length<=536870912:=by rw[<-hV,bR];have:=aR ys;have:=h2.len;omega
 have HX:=zH hX;have HV:=zH hV;obtain⟨G,hG⟩:∃G,Nat.gcd (val xs) (val ys)=G:=⟨_,rfl⟩;rw[hG];rw[hX,hV] at hG;have HG:=zH hG;have NE:=zH h3;have Bm:=zH h4;clear h h2 hX hV hG h3 h4;go_enter Tryz.func206,Tryz.ntmps206;go_wp2_with fail;refine(fj H.out (by omega)).mono ?_;rintro e w1 ⟨v1,rfl,kh,bp⟩;rw[HX.out] at kh;have eH:=zH kh;have dc:=zH bp;have zg:=zH (H2.out.below bp fG);clear kh bp;go_wp2_with fail;refine(fj zg.out (by omega)).mono ?_;rintro e w2 ⟨v2,rfl,FU,bQ⟩;rw[HV.out] at FU;have BB:=zH (FU.base_le dc.out.size);have RP:=zH (eH.out.below bQ);have fM:=zH (ah dc.out bQ);clear FU bQ;go_wp2_with fail;go_loopg [0,1] V (λk va vb wr=>∃a,k<=V/\(bC a).length<=536870912/\Nat.gcd a k=G/\Own wr ba w.heap.size 138 va (bC a)/\Own wr ba w.heap.size 138 vb (bC k)/\Below w.heap.size w wr)
 case atStart=>exact⟨X,Nat.le_refl _,NE.out,HG.out,RP.out,BB.out,fM.out⟩
 case round=>
  clear eH dc zg BB RP fM;obtain⟨a,hk,et,hg,Vm,Qm,hb⟩:=hrel;obtain⟨Aa,na,ca,rfl,hna⟩:=Vm.slice;obtain⟨Ab,nb,cb,rfl,Qq⟩:=Qm.slice;have abW:na<=536870912:=by omega
  have abV:nb<=536870912:=by have:=fm Bm.out hk;omega
  have HOA:=zH Vm;have HOB:=zH Qm;have HB:=zH hb;have HGG:=zH hg;have Ou:=zH Qq;have RX:=zH et;clear Vm Qm hb hg hna Qq et;rcases Nat.eq_zero_or_pos nb with h0|h0
  ·subst h0;have Qv:gk=0:=du.1 (List.length_eq_zero_iff.1 Ou.out.symm);have SL:a=G:=by have:=HGG.out;rw[Qv,Nat.gcd_zero_right] at this;exact this
   have HGA:=zH SL;clear Qv SL;go_wp2_with fail;go_ret
   exact⟨_,rfl,by rw[<-HGA.out];exact HOA.out,HB.out⟩
  ·have Zu:0<gk:=by
    rcases Nat.eq_zero_or_pos gk with h|h
    ·exfalso
     have:=Ou.out;rw[h,bU] at this;simp at this;omega
    ·exact h
   go_wp2_with fail;refine(wK HOA.out.rsAll HOB.out.rsAll (λ_ h=>h) (λ_ h=>h) (by omega) (by omega)).mono ?_;rintro e w3 ⟨vq,vr,rfl,ho,hr,kE⟩;rw[aM,aM,if_neg (by omega)] at hr;have Bl:=zH (hr.base_le HB.out.size);have XO:=zH (HOB.out.below kE);have qx:=zH (ah HB.out kE);clear ho hr kE;go_wp2_with fail
   go_roundg (a%gk)
   case measure=>exact Nat.mod_lt _ Zu
   case rel=>exact⟨gk,by have:=Nat.mod_lt a Zu;omega,fm Bm.out hk,((Nat.gcd_comm _ _).trans ((Nat.gcd_rec gk a).symm.trans (Nat.gcd_comm _ _))).trans HGG.out,XO.out,Bl.out,qx.out⟩
def gJ (n:Nat):Nat:=if n=0 then 0 else 32*((bC n).length-1)+Lib.bitLen (((bC n).getD ((bC n).length-1) 0#32).toNat)
theorem hO {n:Nat}:gJ n=0↔n=0:=by
 unfold gJ;split
 ·rename_i h;simp[h]
 ·rename_i h;have hl:bC n≠[]:=λe=>h (du.1 e);have hp:0<(bC n).length:=List.length_pos_iff.2 hl;have il:(bA (bC n)).getLast?=some ((bC n).getD ((bC n).length-1) 0#32):=by
   rw[o0,List.getLast?_eq_getElem?,List.getD_eq_getElem?_getD,List.getElem?_eq_getElem (by omega)];rfl
  have hne:=mT il;have h0:0<((bC n).getD ((bC n).length-1) 0#32).toNat:=by
   rcases Nat.eq_zero_or_pos ((bC n).getD ((bC n).length-1) 0#32).toNat with h|h
   ·exact absurd (hJ.2 h) hne
   ·exact h
  have h1:=yj h0 ((bC n).getD ((bC n).length-1) 0#32).isLt;constructor
  ·intro e;omega
  ·intro e;exact absurd e h
theorem yT {S:Nat->Prop} {A:Option Addr} {n c:Nat} {xs:List (BitVec 32)} {w:World} (h:RS w S A n c xs) (hn:n<=1073741824) : Calls Tryz.prog 204 #[.slice A n c] w (uM w (.int .i64 (gJ (val xs):Nat))):=by
 have hl:=bR xs;have hlen:=aR xs;have jt:=h.len;have H:=zH h;obtain⟨l,oU⟩:∃l,bA xs=l:=⟨_,rfl⟩;obtain⟨X,hX⟩:∃X,val xs=X:=⟨_,rfl⟩;rw[oU] at hl hlen;rw[hX] at hl;rw[hX];have HT:=zH oU;have HL:=zH hl;clear h hl oU hX;go_enter Tryz.func204,Tryz.ntmps204;go_wp2_with fail;refine(cy H.out).mono ?_;rintro e w' ⟨A3,n3,c3,rfl,hr,rfl⟩;rw[HT.out] at hr;have hl3:=hr.len;have kE:n3<=1073741824:=by omega
 have HR:=zH hr;have qw:=zH hl3;clear hr hl3 hlen jt;rcases Nat.eq_zero_or_pos n3 with h0|h0
 ·subst h0;have ju:X=0:=du.1 (by rw[HL.out];exact RS.nil_of' HR.out);subst ju;go_wp2_with fail;go_ret
  exact⟨rfl,rfl⟩
 ·have ju:X≠0:=by
   intro e;have:=qw.out;rw[<-HL.out,e,bU] at this;simp at this;omega
  obtain⟨k,rfl⟩:∃k,n3=k+1:=⟨n3-1,by omega⟩;obtain⟨b,o,y,rfl,_,hy,e1⟩:=HR.out.limb_at (k:=k) (by omega);have hb0:((k:Int)+1==0)=false:=by rw[beq_eq_false_iff_ne];omega
  have t4:=y.isLt;have cM:gJ X=32*k+Lib.bitLen y.toNat:=by
   unfold gJ;rw[if_neg ju,HL.out,qw.out,List.getD_eq_getElem?_getD,Nat.add_sub_cancel,hy];rfl
  have uX:Lib.bitLen y.toNat<=32:=bitLen_le (by simpa using t4) (by omega);have HF:=zH cM;obtain⟨z,hz⟩:∃z,Lib.bitLen y.toNat=z:=⟨_,rfl⟩;rw[hz] at uX;have XZ:Hid (Calls Tryz.prog 230 #[.int .u32 (y.toNat:Int)] w (uM w (.int .i64 (z:Int)))):=zH (by
   refine(Tryz.bits_Len32 (y.toNat:Int) w (by omega) (by omega)).mono λe w' h=>⟨?_,h.2.symm⟩;rw[h.1,Int.toNat_natCast,hz])
  have HZ:=zH hz;clear hy cM hz ju;go_wp2_with fail;refine XZ.out.mono ?_;rintro e w' ⟨rfl,rfl⟩;go_wp2_with fail;go_ret
  refine⟨kY ?_,rfl⟩;rw[HF.out,HZ.out];go_num
end Go.Proofs.YtichkplomldgiaaGreatDoor
