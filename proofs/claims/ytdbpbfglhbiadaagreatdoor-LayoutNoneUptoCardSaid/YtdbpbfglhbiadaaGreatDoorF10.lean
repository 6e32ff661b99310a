/- NatT Conv Nat12 -/
import Derived.Test.YtdbpbfglhbiadaaGreatDoorF01
import Derived.Test.YtdbpbfglhbiadaaGreatDoorF07
import Derived.Lib.TrimByte
import Derived.Laws.BytesArg
import Derived.Laws.IdiomStrings
import Derived.Test.YtdbpbfglhbiadaaGreatDoorF08
import Derived.Test.YtdbpbfglhbiadaaGreatDoorF09
set_option maxHeartbeats 8000000
set_option maxRecDepth 100000
namespace Go.Proofs.YtdbpbfglhbiadaaGreatDoor
open Go Go.RowKit
def pad:Nat->Nat->List UInt8
 | 0,_=>[]
 | k+1,n=>CX n::pad k (n/10)
theorem oh (k n:Nat):(pad k n).length=k:=by
 induction k generalizing n with
 | zero=>rfl
 | succ k ih=>simp[pad,ih]
theorem LW (k n:Nat):pad (k+1) n=pad k n++[CX (n/10^k)]:=by
 induction k generalizing n with
 | zero=>simp[pad]
 | succ k ih=>
  rw[pad,ih,pad,List.cons_append,Nat.div_div_eq_div_mul,Nat.pow_succ']
theorem LX (k n:Nat) (h:n<10^k):pad k n=fE n++List.replicate (k-(fE n).length) 48:=by
 induction k generalizing n with
 | zero=>
  have:n=0:=by simpa using h
  subst this;simp[pad,fX]
 | succ k ih=>
  by_cases hn:n=0
  ·subst hn;rw[fX,pad,ih 0 (Nat.pow_pos (by omega)),fX];simp[CX,List.replicate_succ]
  ·rw[pad,fE,dif_neg hn,ih (n/10) (by rw[Nat.pow_succ'] at h;omega)];simp
theorem YN {n:Nat} (h:n%10≠0):CX n≠48:=by
 intro e;have:=congrArg UInt8.toNat e;simp[CX] at this;omega
theorem JM {n:Nat} {c:UInt8} (h:(fE n).getLast?=some c):c≠48:=by
 induction n using Nat.strongRecOn with
 | ind n ih=>
  rw[fE] at h;split at h
  ·simp at h
  ·rename_i hn;rw[List.getLast?_cons] at h;by_cases h10:n/10=0
   ·rw[h10,fX] at h;simp at h;subst h;exact YN (by omega)
   ·have:fE (n/10)≠[]:=by rw[fE,dif_neg h10];simp
    obtain⟨z,hz⟩:∃z,(fE (n/10)).getLast?=some z:=by
     cases hh:(fE (n/10)).getLast? with
     | none=>rw[List.getLast?_eq_none_iff] at hh;exact absurd hh this
     | some z=>exact⟨z,rfl⟩
    rw[hz] at h;simp at h;subst h;exact ih (n/10) (by omega) hz
theorem nV (k:Nat) (l:List UInt8) (h:l.head?≠some 48):Lib.trimLeftB (List.replicate k 48++l) 48=l:=by
 induction k with
 | zero=>
  cases l with
  | nil=>rfl
  | cons x l=>
   have hx:x≠48:=λe=>h (by rw[e];rfl);simp[Lib.trimLeftB,hx]
 | succ k ih=>
  rw[List.replicate_succ,List.cons_append];simp only[Lib.trimLeftB] at ih ⊢;simpa using ih
theorem Ia {k n:Nat} (h:n<10^k):Lib.trimLeftB (pad k n).reverse 48=(fE n).reverse:=by
 rw[LX k n h,List.reverse_append,List.reverse_replicate];apply nV;rw[List.head?_reverse];intro e;exact JM e rfl
theorem Ce (X k i:Nat) (hi:i<9):CX (X/10^k%1000000000/10^i)=CX (X/10^(k+i)):=by
 have e:X/10^(k+i)=X/10^k/10^i:=by rw[Nat.pow_add,Nat.div_div_eq_div_mul]
 rw[e];obtain⟨Y,hY⟩:∃Y,X/10^k=Y:=⟨_,rfl⟩;rw[hY];unfold CX;congr 2
 have h9:1000000000=10^i*10^(9-i):=by rw[<-Nat.pow_add,show i+(9-i)=9 by omega]
 rw[h9,Nat.mod_mul_right_div_self];have h10:10∣10^(9-i):=⟨10^(8-i),by rw[<-Nat.pow_succ',show(8-i).succ=9-i by omega]⟩;exact Nat.mod_mod_of_dvd _ h10
theorem RS.byteCells {S:Nat->Prop} {w:World} {n c:Nat} {xs:List UInt8} {b o:Nat} (h:RS w S (some ⟨b,o,none⟩) n c xs):∀j (hj:j<xs.length),w.cell? ((⟨b,o,none⟩:Addr).add j)=some (.int .u8 (xs[j].toNat:Int)):=by
 intro j hj;obtain⟨b',o',x,e,_,hx,hc⟩:=h.byte_at (k:=j) (by rw[<-h.len];exact hj);injection e with e;injection e with e1 e2
 subst e1 e2;have hp:(⟨b,o,none⟩:Addr).add j=⟨b,o+j,none⟩:=by unfold Addr.add;split<;>simp_all
 rw[hp,hc];rw[List.getElem?_eq_getElem hj] at hx;injection hx with hx
 rw[hx]
theorem BU {P:Program} {s t e:TypeId} (hs:P.underlying s=some (.slice e)) (he:P.underlying e=some (.int .u8)) (ht:P.underlying t=some .string) {S:Nat->Prop} {w:World} {A:Option Addr} {n c:Nat} {xs:List UInt8} (h:RS w S A n c xs):(convert s t (.slice A n c)).run P w=.ok (.string ⟨xs.toArray⟩) w:=by
 cases A with
 | none=>
  have hn:n=0:=by
   rcases Nat.eq_zero_or_pos n with h0|h0
   ·exact h0
   ·obtain⟨b,o,e,_⟩:=h.2.2.2 h0;cases e
  subst hn;rw[List.eq_nil_of_length_eq_zero h.1.symm];exact run_convert_bytes_nil w s e hs he 0 c _ ht
 | some a=>
  rcases Nat.eq_zero_or_pos n with h0|h0
  ·subst h0;have hx:xs=[]:=List.eq_nil_of_length_eq_zero h.1.symm;subst hx;have q:=run_convert_bytes_back (P:=P) w s t e a c [] hs he ht (λj hj=>absurd hj (Nat.not_lt_zero _));rw[List.length_nil] at q;exact q
  ·obtain⟨b,o,e,_⟩:=h.2.2.2 h0;cases e
   have:=run_convert_bytes_back w s t _ ⟨b,o,none⟩ c xs hs he ht h.byteCells;rw[h.len] at this;exact this
theorem Tryz.bytesTy:fC Tryz.prog 61 5 1 1:=fC.mk' (z:=.int .u8 0) Tryz.underlying61 (by kernel_rfl) rfl (by omega)
theorem aaK (s:Nat):IntKind.u8.wrap (s:Int)=((UInt8.ofNat s).toNat:Int):=by
 rw[IntKind.wrap_u8,UInt8.toNat_ofNat'];omega
theorem yc {S:Nat->Prop} {w:World} {A:Option Addr} {n c:Nat} {xs:List UInt8} (h:RS w S A n c xs):(convert 61 9 (.slice A n c)).run Tryz.prog w=.ok (.string ⟨xs.toArray⟩) w:=BU Tryz.underlying61 Tryz.underlying5 Tryz.underlying9 h
theorem Fy {S:Nat->Prop} {A:Option Addr} {n c:Nat} {xs:List (BitVec 32)} {w:World} (h:RS w S A n c xs) (hS:∀b,S b->b<w.heap.size) (hn:n<=536870912) : Calls Tryz.prog 126 #[.slice A n c] w (iT w (.string ⟨(bj (val xs)).toArray⟩)):=by
 have hl:=di xs;have bm:=bA xs;have nA:=h.len;have H:=zH h;obtain⟨l,wo⟩:∃l,cG xs=l:=⟨_,rfl⟩;obtain⟨X,hX⟩:∃X,val xs=X:=⟨_,rfl⟩;rw[wo] at hl bm;rw[hX] at hl;rw[hX];have hXb:X<4294967296^n:=by
  rw[<-hX,<-nA];exact dL xs
 have HXB:=zH hXb;have HT:=zH wo;have HL:=zH hl;clear h hl wo hX hXb;go_enter Tryz.func126,Tryz.ntmps126;go_wp2_with fail;refine(et H.out).mono ?_;rintro e w' ⟨A3,n3,c3,rfl,hr,rfl⟩;rw[HT.out] at hr;have hl3:=hr.len;have jF:n3<=536870912:=by omega
 have HR:=zH hr;have xV:=zH hl3;clear hr hl3 bm nA;rcases Nat.eq_zero_or_pos n3 with h0|h0
 ·subst h0;have ia:X=0:=fN.1 (by rw[HL.out];exact RS.nil_of' HR.out);subst ia;go_wp2_with fail;go_ret
  exact⟨by simp[bj],Below.refl _ _⟩
 ·have hb0:((n3:Int)==0)=false:=by rw[beq_eq_false_iff_ne];omega
  have ia:X≠0:=by
   intro e;have:=xV.out;rw[<-HL.out,e,cN] at this;simp at this;omega
  have Zr:=zH ia;clear ia;go_wp2_with fail;go_loopg [0,3] X (λg va vo wr=>∃(k:Nat) (A:Option Addr) (n c:Nat) (Sa:Nat->Prop),va=.slice A n c/\n<=536870912/\RS wr Sa A n c (cF g)/\(∀b,Sa b->b<wr.heap.size/\some b≠vo.ownBlock)/\g=X/10^k/\k<=6442450944/\ Own wr bb w.heap.size 5 vo (pad k X)/\Below w.heap.size w wr)
  case atStart=>exact⟨0,A3,n3,c3,S,rfl,jF,by rw[HL.out];exact HR.out,λb hb=>⟨hS b hb,by simp[Value.ownBlock]⟩,by simp,by omega,Own.nil _ _ _,Below.refl _ _⟩
  case round=>
   clear HR xV hb0 h0;obtain⟨k,A4,n4,c4,Sa,rfl,iY,hr4,hsa,hg,hk,ho,hb⟩:=hrel;obtain⟨Ao,no,co,rfl,Jm⟩:=ho.slice;rw[oh] at Jm;have apu:no<=6442450944:=by omega
   have nl:=zH hr4;have HSA:=zH hsa;have HG:=zH hg;have HO:=zH ho;have HB:=zH hb;have Db:=zH hr4.len;clear hr4 hsa hg ho hb Jm;rcases Nat.eq_zero_or_pos n4 with h0|h0
   ·subst h0;have hg0:gk=0:=fN.1 (RS.nil_of' nl.out);have hlt:X<10^k:=by
     have h1:=HG.out;rw[hg0] at h1;exact(Nat.div_eq_zero_iff_lt (Nat.pow_pos (by omega))).1 h1.symm
    have dG:=Ia hlt;have hdt:bj X=(fE X).reverse:=by unfold bj;rw[if_neg Zr.out]
    have vt:=zH dG;have HDT:=zH hdt;clear hg0 hlt dG hdt;go_wp2_with fail;refine(AC HO.out HB.out (Nat.le_refl _) (by omega)).mono ?_;rintro e w5 ⟨rfl,Se,zN⟩;have P1:=yc Se.rs8;have Hs:=zH zN;obtain⟨st,dV⟩:∃st:ByteArray,⟨(pad k X).reverse.toArray⟩=st:=⟨_,rfl⟩;rw[dV] at P1;have eX:st.data.toList=(pad k X).reverse:=by rw[<-dV]
    have HSL:=zH eX;clear Se zN dV eX;go_wp2_with fail;refine(Tryz.strings_TrimLeft_one st 48 (by decide) w5).mono ?_;rintro e w6 ⟨rfl,rfl⟩;rw[HSL.out,vt.out,<-HDT.out];go_wp2_with fail;go_ret
    exact⟨rfl,Hs.out⟩
   ·have hgk:gk≠0:=by
     intro e;have:=Db.out;rw[e,cN] at this;simp at this;omega
    have hkb:3*k<32*n:=by
     refine pC (X:=X) ?_ HXB.out;have h1:=HG.out;rcases Nat.lt_or_ge X (10^k) with h|h
     ·rw[Nat.div_eq_of_lt h] at h1;exact absurd h1 hgk
     ·exact h
    have HGK:=zH hgk;clear hgk;go_wp2_with fail;refine(wG 1000000000 nl.out (λb hb=>(HSA.out b hb).1) (by omega) (by omega) (by omega)).mono ?_;rintro e w2 ⟨sq,qs,rfl,wj,Xu,zM,bH⟩;rw[bi] at Xu;rw[bi];obtain⟨r,hr⟩:∃r,gk%1000000000=r:=⟨_,rfl⟩;rw[hr];have CG:=zH hr;clear hr;obtain⟨Aq,nq,cq,rfl,UI⟩:=wj.slice;rw[zM] at UI;subst UI;obtain⟨lo,lR⟩:∃x,wr.heap.size=x:=⟨_,rfl⟩;have zV:=zH lR;rw[lR] at wj;have HRQ:=zH (wj.rs (S':=λb=>lo<=b/\b<w2.heap.size) (λ_ h=>h.elim) (λ_ h1 h2=>⟨h1,h2⟩));have HQV:=zH Xu;have Hr:=zH zM;have mR:=zH (HO.out.below bH);have Zz:=zH (HO.out.lt);have ek:=zH (ak HB.out bH);clear wj Xu zM bH lR;go_wp2_with fail;refine(et HRQ.out).mono ?_;rintro e w' ⟨A5,n5,c5,rfl,Gz,rfl⟩;rw[<-di,HQV.out] at Gz;have hn5:n5<=536870912:=by
     have h1:=bA qs;rw[<-di,HQV.out,Gz.len,Hr.out] at h1;omega
    have TR:=zH Gz;clear Gz;go_wp2_with fail;go_loopw [3,5,21] (λvo rv iv wx=>∃(i rr:Nat),i<=9/\iv=.int .i64 i/\rv=.int .u64 rr/\rr=r/10^i/\rr<1000000000/\RS wx (λb=>lo<=b/\b<w2.heap.size) A5 n5 c5 (cF (gk/1000000000))/\(∀g,vo.ownBlock=some g->¬(lo<=g/\g<w2.heap.size))/\ w2.heap.size<=wx.heap.size/\Own wx bb w.heap.size 5 vo (pad (k+i) X)/\Below w.heap.size w wx)
     (λ_ _ iv _=>9-(intOf iv).toNat)
    case atStart=>
     refine⟨0,r,by omega,rfl,rfl,by simp,by rw[<-CG.out];exact Nat.mod_lt _ (by omega),TR.out,λg hg=>?_,Nat.le_refl _,mR.out,ek.out⟩;have:=Zz.out g hg;have:=zV.out;omega
    case round=>
     clear HRQ mR ek TR Zz HO;obtain⟨i,rr,hi,rfl,rfl,Sc,xu,Gz,UF,iL,ho,hb⟩:=hrel;obtain⟨Ax,nx,cx,rfl,hnx⟩:=ho.slice;rw[oh] at hnx;have TR:=zH Gz;have HVA:=zH UF;have HO:=zH ho;have HB:=zH hb;have Zw:=zH Sc;have HNX:=zH hnx;clear Gz UF ho hb Sc hnx;by_cases hlt:i<9
     ·obtain⟨d,hd⟩:∃d,rr%10=d:=⟨_,rfl⟩;obtain⟨r2,Jj⟩:∃d,rr/10=d:=⟨_,rfl⟩;have US:(rr:Int).tmod 10=(d:Int):=by rw[<-hd];rfl
      have P0:(rr:Int)%10=(d:Int):=by rw[<-hd];rfl
      have PU:(rr:Int).tdiv 10=(r2:Int):=by rw[<-Jj];rfl
      have GA:(rr:Int)/10=(r2:Int):=by rw[<-Jj];rfl
      have XU:d<10:=by omega
      have ahD:r2<1000000000:=by omega
      obtain⟨s,hs⟩:∃s,48+d=s:=⟨_,rfl⟩;have lJ:48+(d:Int)=(s:Int):=by omega
      have PS:s<58:=by omega
      have xq:=aaK s;obtain⟨y,hy⟩:∃y,UInt8.ofNat s=y:=⟨_,rfl⟩;rw[hy] at xq;have UD:CX (X/10^(k+i))=y:=by
       rw[<-Ce X k i hlt,<-HG.out,CG.out,<-Zw.out,<-hy,<-hs,<-hd];rfl
      have acs:r2=r/10^(i+1):=by rw[<-Jj,Zw.out,Nat.div_div_eq_div_mul,Nat.pow_succ]
      have HYD:=zH UD;have Hq:=zH acs;clear hd Jj hs hy UD acs;go_wp2_with (at_builtin; refine cI (α:=UInt8) (w0:=w) (B:=w.heap.size) (base:=w.heap.size) rfl _ _ 61 rfl 1 Tryz.bytesTy rfl HO.out HB.out (Nat.le_refl _) HB.out.size [.int .u8 (y.toNat:Int)] y 1 rfl rfl 5 (by simp[Value.oneCell']) (by rw[oh];omega) ?_; intro v4 w4 hown4 iY hg4 hl4; have CI:=zH hown4; have vz:=zH iY; have HG4:=zH hg4; have akM:Hid (v4.ownBlock=(Value.slice Ax nx cx).ownBlock\/v4.ownBlock=some (wr.heap.size+1)):=zH hl4; clear hown4 iY hg4 hl4);go_roundw
      case rel=>
       have ahq:=HG4.out.size;have mC:aw (λb=>lo<=b/\b<w2.heap.size) wr (wr.alloc (.cells [Value.int .u8 (y.toNat:Int)].toArray 5)):=(aw.refl _ _).alloc (λb hb=>Nat.lt_of_lt_of_le hb.2 iL) _;have gr:aw (λb=>lo<=b/\b<w2.heap.size) (wr.alloc (.cells [Value.int .u8 (y.toNat:Int)].toArray 5)) w4:=(aw.grown HG4.out).sub λb hb=>⟨by simp;omega,λe=>HVA.out b e.symm hb⟩;refine⟨i+1,r2,by omega,by go_num,rfl,Hq.out,ahD,TR.out.keep (λ_ h=>h) (mC.trans gr),λg hg=>?_,by simp at ahq;omega,?_,vz.out⟩
       ·rcases akM.out with h|h
        ·exact HVA.out g (by rw[<-h];exact hg)
        ·rw[h] at hg;injection hg with hg;omega
       ·rw[<-Nat.add_assoc,LW,HYD.out];exact CI.out
      case measure=>simp[intOf];omega
     ·have hi9:i=9:=by omega
      subst hi9;clear hlt;go_wp2_with fail
      go_roundg (gk/1000000000)
      case measure=>exact Nat.div_lt_self (by have:=HGK.out;omega) (by omega)
      case rel=>exact⟨k+9,A5,n5,c5,λb=>lo<=b/\b<w2.heap.size,rfl,hn5,TR.out,λb hb=>⟨Nat.lt_of_lt_of_le hb.2 iL,λe=>HVA.out b e.symm hb⟩,by rw[HG.out,Nat.div_div_eq_div_mul,Nat.pow_add],by omega,HO.out,HB.out⟩
end Go.Proofs.YtdbpbfglhbiadaaGreatDoor
