/- NatT Conv Nat12 -/
import Derived.Test.YtdbpbfglhbiadaaGreatDoorH01
import Derived.Test.YtdbpbfglhbiadaaGreatDoorH05
import Derived.Lib.TrimByte
import Derived.Laws.BytesArg
import Derived.Laws.IdiomStrings
import Derived.Test.YtdbpbfglhbiadaaGreatDoorH08
import Derived.Test.YtdbpbfglhbiadaaGreatDoorH10
set_option maxHeartbeats 4000000
set_option maxRecDepth 100000
namespace Go.Proofs.YtdbpbfglhbiadaaGreatDoor
open Go Go.RowKit
def pad:Nat->Nat->List UInt8
 | 0,_=>[]
 | k+1,n=>EL n::pad k (n/10)
theorem oV (k n:Nat):(pad k n).length=k:=by
 induction k generalizing n with
 | zero=>rfl
 | succ k ih=>simp[pad,ih]
theorem Og (k n:Nat):pad (k+1) n=pad k n++[EL (n/10^k)]:=by
 induction k generalizing n with
 | zero=>simp[pad]
 | succ k ih=>
  rw[pad,ih,pad,List.cons_append,Nat.div_div_eq_div_mul,Nat.pow_succ']
theorem Oh (k n:Nat) (h:n<10^k):pad k n=fT n++List.replicate (k-(fT n).length) 48:=by
 induction k generalizing n with
 | zero=>
  have:n=0:=by simpa using h
  subst this;simp[pad,gr]
 | succ k ih=>
  by_cases hn:n=0
  ·subst hn;rw[gr,pad,ih 0 (Nat.pow_pos (by omega)),gr];simp[EL,List.replicate_succ]
  ·rw[pad,fT,dif_neg hn,ih (n/10) (by rw[Nat.pow_succ'] at h;omega)];simp
theorem abi {n:Nat} (h:n%10≠0):EL n≠48:=by
 intro e;have:=congrArg UInt8.toNat e;simp[EL] at this;omega
theorem LO {n:Nat} {c:UInt8} (h:(fT n).getLast?=some c):c≠48:=by
 induction n using Nat.strongRecOn with
 | ind n ih=>
  rw[fT] at h;split at h
  ·simp at h
  ·rename_i hn;rw[List.getLast?_cons] at h;by_cases h10:n/10=0
   ·rw[h10,gr] at h;simp at h;subst h;exact abi (by omega)
   ·have:fT (n/10)≠[]:=by rw[fT,dif_neg h10];simp
    obtain⟨z,hz⟩:∃z,(fT (n/10)).getLast?=some z:=by
     cases hh:(fT (n/10)).getLast? with
     | none=>rw[List.getLast?_eq_none_iff] at hh;exact absurd hh this
     | some z=>exact⟨z,rfl⟩
    rw[hz] at h;simp at h;subst h;exact ih (n/10) (by omega) hz
theorem oO (k:Nat) (l:List UInt8) (h:l.head?≠some 48):Lib.trimLeftB (List.replicate k 48++l) 48=l:=by
 induction k with
 | zero=>
  cases l with
  | nil=>rfl
  | cons x l=>
   have hx:x≠48:=λe=>h (by rw[e];rfl);simp[Lib.trimLeftB,hx]
 | succ k ih=>
  rw[List.replicate_succ,List.cons_append];simp only[Lib.trimLeftB] at ih ⊢;simpa using ih
theorem JV {k n:Nat} (h:n<10^k):Lib.trimLeftB (pad k n).reverse 48=(fT n).reverse:=by
 rw[Oh k n h,List.reverse_append,List.reverse_replicate];apply oO;rw[List.head?_reverse];intro e;exact LO e rfl
theorem DW (X k i:Nat) (hi:i<9):EL (X/10^k%1000000000/10^i)=EL (X/10^(k+i)):=by
 have e:X/10^(k+i)=X/10^k/10^i:=by rw[Nat.pow_add,Nat.div_div_eq_div_mul]
 rw[e];obtain⟨Y,hY⟩:∃Y,X/10^k=Y:=⟨_,rfl⟩;rw[hY];unfold EL;congr 2
 have h9:1000000000=10^i*10^(9-i):=by rw[<-Nat.pow_add,show i+(9-i)=9 by omega]
 rw[h9,Nat.mod_mul_right_div_self];have h10:10∣10^(9-i):=⟨10^(8-i),by rw[<-Nat.pow_succ',show(8-i).succ=9-i by omega]⟩;exact Nat.mod_mod_of_dvd _ h10
theorem RS.byteCells {S:Nat->Prop} {w:World} {n c:Nat} {xs:List UInt8} {b o:Nat} (h:RS w S (some ⟨b,o,none⟩) n c xs):∀j (hj:j<xs.length),w.cell? ((⟨b,o,none⟩:Addr).add j)=some (.int .u8 (xs[j].toNat:Int)):=by
 intro j hj;obtain⟨b',o',x,e,_,hx,hc⟩:=h.byte_at (k:=j) (by rw[<-h.len];exact hj);injection e with e;injection e with e1 e2
 subst e1 e2;have hp:(⟨b,o,none⟩:Addr).add j=⟨b,o+j,none⟩:=by unfold Addr.add;split<;>simp_all
 rw[hp,hc];rw[List.getElem?_eq_getElem hj] at hx;injection hx with hx
 rw[hx]
theorem DL {P:Program} {s t e:TypeId} (hs:P.underlying s=some (.slice e)) (he:P.underlying e=some (.int .u8)) (ht:P.underlying t=some .string) {S:Nat->Prop} {w:World} {A:Option Addr} {n c:Nat} {xs:List UInt8} (h:RS w S A n c xs):(convert s t (.slice A n c)).run P w=.ok (.string ⟨xs.toArray⟩) w:=by
 cases A with
 | none=>
  have hn:n=0:=by
   rcases Nat.eq_zero_or_pos n with h0|h0
   ·exact h0
   ·obtain⟨b,o,e,_⟩:=h.2.2.2 h0;cases e
  subst hn;rw[List.eq_nil_of_length_eq_zero h.1.symm];exact run_convert_bytes_nil w s e hs he 0 c _ ht
 | some a=>
  rcases Nat.eq_zero_or_pos n with h0|h0
  ·subst h0;have hx:xs=[]:=List.eq_nil_of_length_eq_zero h.1.symm;subst hx;have q:=run_convert_bytes_back (P:=P) w s t e a c [] hs he ht (λj hj=>absurd hj (Nat.not_lt_zero _));rw[List.length_nil] at q;exact q
  ·obtain⟨b,o,e,_⟩:=h.2.2.2 h0;cases e
   have:=run_convert_bytes_back w s t _ ⟨b,o,none⟩ c xs hs he ht h.byteCells;rw[h.len] at this;exact this
theorem Tryz.bytesTy:fS Tryz.prog 61 5 1 1:=fS.mk' (z:=.int .u8 0) Tryz.underlying61 (by kernel_rfl) rfl (by omega)
theorem adC (s:Nat):IntKind.u8.wrap (s:Int)=((UInt8.ofNat s).toNat:Int):=by
 rw[IntKind.wrap_u8,UInt8.toNat_ofNat'];omega
theorem Hm {S:Nat->Prop} {w:World} {A:Option Addr} {n c:Nat} {xs:List UInt8} (h:RS w S A n c xs):(convert 61 9 (.slice A n c)).run Tryz.prog w=.ok (.string ⟨xs.toArray⟩) w:=DL Tryz.underlying61 Tryz.underlying5 Tryz.underlying9 h
theorem Hg {S:Nat->Prop} {A:Option Addr} {n c:Nat} {xs:List (BitVec 32)} {w:World} (h:RS w S A n c xs) (hS:∀b,S b->b<w.heap.size) (hn:n<=536870912) : Calls Tryz.prog 126 #[.slice A n c] w (kB w (.string ⟨(bq (val xs)).toArray⟩)):=by
 have hl:=du xs;have bJ:=bI xs;have kC:=h.len;have H:=zH h;obtain⟨l,xE⟩:∃l,cM xs=l:=⟨_,rfl⟩;obtain⟨X,hX⟩:∃X,val xs=X:=⟨_,rfl⟩;rw[xE] at hl bJ;rw[hX] at hl;rw[hX];have hXb:X<4294967296^n:=by
  rw[<-hX,<-kC];exact dT xs
 have HXB:=zH hXb;have HT:=zH xE;have HL:=zH hl;clear h hl xE hX hXb;go_enter Tryz.func126,Tryz.ntmps126;go_wp2_with fail;refine(eH H.out).mono ?_;rintro e w' ⟨A3,n3,c3,rfl,hr,rfl⟩;rw[HT.out] at hr;have hl3:=hr.len;have kx:n3<=536870912:=by omega
 have HR:=zH hr;have zn:=zH hl3;clear hr hl3 bJ kC;rcases Nat.eq_zero_or_pos n3 with h0|h0
 ·subst h0;have iF:X=0:=gb.1 (by rw[HL.out];exact RS.nil_of' HR.out);subst iF;go_wp2_with fail;go_ret
  exact⟨by simp[bq],Below.refl _ _⟩
 ·have hb0:((n3:Int)==0)=false:=by rw[beq_eq_false_iff_ne];omega
  have iF:X≠0:=by
   intro e;have:=zn.out;rw[<-HL.out,e,cT] at this;simp at this;omega
  have HX0:=zH iF;clear iF;go_wp2_with fail;go_loopg [0,3] X (λg va vo wr=>∃(k:Nat) (A:Option Addr) (n c:Nat) (Sa:Nat->Prop),va=.slice A n c/\n<=536870912/\RS wr Sa A n c (cJ g)/\(∀b,Sa b->b<wr.heap.size/\some b≠vo.ownBlock)/\g=X/10^k/\k<=6442450944/\ Own wr bi w.heap.size 5 vo (pad k X)/\Below w.heap.size w wr)
  case atStart=>exact⟨0,A3,n3,c3,S,rfl,kx,by rw[HL.out];exact HR.out,λb hb=>⟨hS b hb,by simp[Value.ownBlock]⟩,by simp,by omega,Own.nil _ _ _,Below.refl _ _⟩
  case round=>
   clear HR zn hb0 h0;obtain⟨k,A4,n4,c4,Sa,rfl,qw,hr4,hsa,hg,hk,ho,hb⟩:=hrel;obtain⟨Ao,no,co,rfl,PL⟩:=ho.slice;rw[oV] at PL;have at1:no<=6442450944:=by omega
   have oe:=zH hr4;have HSA:=zH hsa;have HG:=zH hg;have HO:=zH ho;have HB:=zH hb;have EO:=zH hr4.len;clear hr4 hsa hg ho hb PL;rcases Nat.eq_zero_or_pos n4 with h0|h0
   ·subst h0;have hg0:gk=0:=gb.1 (RS.nil_of' oe.out);have hlt:X<10^k:=by
     have h1:=HG.out;rw[hg0] at h1;exact(Nat.div_eq_zero_iff_lt (Nat.pow_pos (by omega))).1 h1.symm
    have dS:=JV hlt;have hdt:bq X=(fT X).reverse:=by unfold bq;rw[if_neg HX0.out]
    have xg:=zH dS;have HDT:=zH hdt;clear hg0 hlt dS hdt;go_wp2_with fail;refine(Cd HO.out HB.out (Nat.le_refl _) (by omega)).mono ?_;rintro e w5 ⟨rfl,U9,EH⟩;have hcv:=Hm U9.rs8;have HB5:=zH EH;obtain⟨st,eu⟩:∃st:ByteArray,⟨(pad k X).reverse.toArray⟩=st:=⟨_,rfl⟩;rw[eu] at hcv;have fm:st.data.toList=(pad k X).reverse:=by rw[<-eu]
    have HSL:=zH fm;clear U9 EH eu fm;go_wp2_with fail;refine(Tryz.strings_TrimLeft_one st 48 (by decide) w5).mono ?_;rintro e w6 ⟨rfl,rfl⟩;rw[HSL.out,xg.out,<-HDT.out];go_wp2_with fail;go_ret
    exact⟨rfl,HB5.out⟩
   ·have hgk:gk≠0:=by
     intro e;have:=EO.out;rw[e,cT] at this;simp at this;omega
    have hkb:3*k<32*n:=by
     refine qD (X:=X) ?_ HXB.out;have h1:=HG.out;rcases Nat.lt_or_ge X (10^k) with h|h
     ·rw[Nat.div_eq_of_lt h] at h1;exact absurd h1 hgk
     ·exact h
    have HGK:=zH hgk;clear hgk;go_wp2_with fail;refine(xS 1000000000 oe.out (λb hb=>(HSA.out b hb).1) (by omega) (by omega) (by omega)).mono ?_;rintro e w2 ⟨sq,qs,rfl,xD,hqv,Bv,bX⟩;rw[bn] at hqv;rw[bn];obtain⟨r,hr⟩:∃r,gk%1000000000=r:=⟨_,rfl⟩;rw[hr];have Er:=zH hr;clear hr;obtain⟨Aq,nq,cq,rfl,Xo⟩:=xD.slice;rw[Bv] at Xo;subst Xo;obtain⟨lo,mC⟩:∃x,wr.heap.size=x:=⟨_,rfl⟩;have BE:=zH mC;rw[mC] at xD;have HRQ:=zH (xD.rs (S':=λb=>lo<=b/\b<w2.heap.size) (λ_ h=>h.elim) (λ_ h1 h2=>⟨h1,h2⟩));have HQV:=zH hqv;have JK:=zH Bv;have nA:=zH (HO.out.below bX);have HOL:=zH (HO.out.lt);have fu:=zH (au HB.out bX);clear xD hqv Bv bX mC;go_wp2_with fail;refine(eH HRQ.out).mono ?_;rintro e w' ⟨A5,n5,c5,rfl,IZ,rfl⟩;rw[<-du,HQV.out] at IZ;have hn5:n5<=536870912:=by
     have h1:=bI qs;rw[<-du,HQV.out,IZ.len,JK.out] at h1;omega
    have WA:=zH IZ;clear IZ;go_wp2_with fail;go_loopw [3,5,21] (λvo rv iv wx=>∃(i rr:Nat),i<=9/\iv=.int .i64 i/\rv=.int .u64 rr/\rr=r/10^i/\rr<1000000000/\RS wx (λb=>lo<=b/\b<w2.heap.size) A5 n5 c5 (cJ (gk/1000000000))/\(∀g,vo.ownBlock=some g->¬(lo<=g/\g<w2.heap.size))/\ w2.heap.size<=wx.heap.size/\Own wx bi w.heap.size 5 vo (pad (k+i) X)/\Below w.heap.size w wx)
     (λ_ _ iv _=>9-(intOf iv).toNat)
    case atStart=>
     refine⟨0,r,by omega,rfl,rfl,by simp,by rw[<-Er.out];exact Nat.mod_lt _ (by omega),WA.out,λg hg=>?_,Nat.le_refl _,nA.out,fu.out⟩;have:=HOL.out g hg;have:=BE.out;omega
    case round=>
     clear HRQ nA fu WA HOL HO;obtain⟨i,rr,hi,rfl,rfl,U7,yH,IZ,Xl,jb,ho,hb⟩:=hrel;obtain⟨Ax,nx,cx,rfl,hnx⟩:=ho.slice;rw[oV] at hnx;have WA:=zH IZ;have HVA:=zH Xl;have HO:=zH ho;have HB:=zH hb;have HRX:=zH U7;have HNX:=zH hnx;clear IZ Xl ho hb U7 hnx;by_cases hlt:i<9
     ·obtain⟨d,hd⟩:∃d,rr%10=d:=⟨_,rfl⟩;obtain⟨r2,PD⟩:∃d,rr/10=d:=⟨_,rfl⟩;have Xv:(rr:Int).tmod 10=(d:Int):=by rw[<-hd];rfl
      have Sw:(rr:Int)%10=(d:Int):=by rw[<-hd];rfl
      have PE:(rr:Int).tdiv 10=(r2:Int):=by rw[<-PD];rfl
      have Lh:(rr:Int)/10=(r2:Int):=by rw[<-PD];rfl
      have hdl:d<10:=by omega
      have alg:r2<1000000000:=by omega
      obtain⟨s,hs⟩:∃s,48+d=s:=⟨_,rfl⟩;have ml:48+(d:Int)=(s:Int):=by omega
      have Sl:s<58:=by omega
      have yF:=adC s;obtain⟨y,hy⟩:∃y,UInt8.ofNat s=y:=⟨_,rfl⟩;rw[hy] at yF;have Xi:EL (X/10^(k+i))=y:=by
       rw[<-DW X k i hlt,<-HG.out,Er.out,<-HRX.out,<-hy,<-hs,<-hd];rfl
      have afq:r2=r/10^(i+1):=by rw[<-PD,HRX.out,Nat.div_div_eq_div_mul,Nat.pow_succ]
      have HYD:=zH Xi;have JJ:=zH afq;clear hd PD hs hy Xi afq;go_wp2_with (at_builtin; refine pA (α:=UInt8) (w0:=w) (B:=w.heap.size) (base:=w.heap.size) rfl _ _ 61 rfl 1 Tryz.bytesTy rfl HO.out HB.out (Nat.le_refl _) HB.out.size [.int .u8 (y.toNat:Int)] y 1 rfl rfl 5 (by simp[Value.oneCell']) (by rw[oV];omega) ?_; intro v4 w4 hown4 qw hg4 hl4; have Mk:=zH hown4; have Ev:=zH qw; have HG4:=zH hg4; have aoG:Hid (v4.ownBlock=(Value.slice Ax nx cx).ownBlock\/v4.ownBlock=some (wr.heap.size+1)):=zH hl4; clear hown4 qw hg4 hl4);go_roundw
      case rel=>
       have ak1:=HG4.out.size;have nR:aw (λb=>lo<=b/\b<w2.heap.size) wr (wr.alloc (.cells [Value.int .u8 (y.toNat:Int)].toArray 5)):=(aw.refl _ _).alloc (λb hb=>Nat.lt_of_lt_of_le hb.2 jb) _;have gM:aw (λb=>lo<=b/\b<w2.heap.size) (wr.alloc (.cells [Value.int .u8 (y.toNat:Int)].toArray 5)) w4:=(aw.grown HG4.out).sub λb hb=>⟨by simp;omega,λe=>HVA.out b e.symm hb⟩;refine⟨i+1,r2,by omega,by go_num,rfl,JJ.out,alg,WA.out.keep (λ_ h=>h) (nR.trans gM),λg hg=>?_,by simp at ak1;omega,?_,Ev.out⟩
       ·rcases aoG.out with h|h
        ·exact HVA.out g (by rw[<-h];exact hg)
        ·rw[h] at hg;injection hg with hg;omega
       ·rw[<-Nat.add_assoc,Og,HYD.out];exact Mk.out
      case measure=>simp[intOf];omega
     ·have hi9:i=9:=by omega
      subst hi9;clear hlt;go_wp2_with fail
      go_roundg (gk/1000000000)
      case measure=>exact Nat.div_lt_self (by have:=HGK.out;omega) (by omega)
      case rel=>exact⟨k+9,A5,n5,c5,λb=>lo<=b/\b<w2.heap.size,rfl,hn5,WA.out,λb hb=>⟨Nat.lt_of_lt_of_le hb.2 jb,λe=>HVA.out b e.symm hb⟩,by rw[HG.out,Nat.div_div_eq_div_mul,Nat.pow_add],by omega,HO.out,HB.out⟩
end Go.Proofs.YtdbpbfglhbiadaaGreatDoor
