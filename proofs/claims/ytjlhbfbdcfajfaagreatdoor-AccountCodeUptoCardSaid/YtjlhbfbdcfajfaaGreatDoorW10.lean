/- NatT Nat12 -/
import Derived.Test.YtjlhbfbdcfajfaaGreatDoorW01
import Derived.Test.YtjlhbfbdcfajfaaGreatDoorW07
import Derived.Lib.TrimByte
import Derived.Test.YtjlhbfbdcfajfaaGreatDoorW08
import Derived.Test.YtjlhbfbdcfajfaaGreatDoorW09
import Derived.Laws.BytesArg
import Derived.Laws.IdiomStrings
set_option maxHeartbeats 8000000
set_option maxRecDepth 100000
namespace Go.Proofs.YtjlhbfbdcfajfaaGreatDoor
open Go.RowKit
def pad:Nat→Nat→List UInt8
 | 0,_=>[]
 | k+1,n=>Fp n::pad k (n/10)
theorem qj (k n:Nat):(pad k n).length=k:=by
 induction k generalizing n with
 | zero=>rfl
 | succ k ih=>simp[pad,ih]
theorem N8 (k n:Nat):pad (k+1) n=pad k n++[Fp (n/10^k)]:=by
 induction k generalizing n with
 | zero=>simp[pad]
 | succ k ih=>
  rw[pad,ih,pad,List.cons_append,Nat.div_div_eq_div_mul,Nat.pow_succ']
theorem N9 (k n:Nat) (h:n<10^k):pad k n=gy n++List.replicate (k-(gy n).length) 48:=by
 induction k generalizing n with
 | zero=>
  have:n=0:=by simpa using h
  subst this;simp[pad,gS]
 | succ k ih=>
  by_cases hn:n=0
  ·subst hn;rw[gS,pad,ih 0 (Nat.pow_pos (by omega)),gS];simp[Fp,List.replicate_succ]
  ·rw[pad,gy,dif_neg hn,ih (n/10) (by rw[Nat.pow_succ'] at h;omega)];simp
theorem aaD {n:Nat} (h:n%10≠0):Fp n≠48:=by
 intro e;have:=congrArg UInt8.toNat e;simp[Fp] at this;omega
theorem LI {n:Nat} {c:UInt8} (h:(gy n).getLast?=some c):c≠48:=by
 induction n using Nat.strongRecOn with
 | ind n ih=>
  rw[gy] at h;split at h
  ·simp at h
  ·rename_i hn;rw[List.getLast?_cons] at h;by_cases h10:n/10=0
   ·rw[h10,gS] at h;simp at h;subst h;exact aaD (by omega)
   ·have:gy (n/10)≠[]:=by rw[gy,dif_neg h10];simp
    obtain⟨z,hz⟩:∃z,(gy (n/10)).getLast?=some z:=by
     cases hh:(gy (n/10)).getLast? with
     | none=>rw[List.getLast?_eq_none_iff] at hh;exact absurd hh this
     | some z=>exact⟨z,rfl⟩
    rw[hz] at h;simp at h;subst h;exact ih (n/10) (by omega) hz
theorem pY (k:Nat) (l:List UInt8) (h:l.head?≠some 48):Lib.trimLeftB (List.replicate k 48++l) 48=l:=by
 induction k with
 | zero=>
  cases l with
  | nil=>rfl
  | cons x l=>
   have hx:x≠48:=fun e=>h (by rw[e];rfl);simp[Lib.trimLeftB,hx]
 | succ k ih=>
  rw[List.replicate_succ,List.cons_append];simp only[Lib.trimLeftB] at ih ⊢;simpa using ih
theorem J6 {k n:Nat} (h:n<10^k):Lib.trimLeftB (pad k n).reverse 48=(gy n).reverse:=by
 rw[N9 k n h,List.reverse_append,List.reverse_replicate];apply pY;rw[List.head?_reverse];intro e;exact LI e rfl
theorem EF (X k i:Nat) (hi:i<9):Fp (X/10^k%1000000000/10^i)=Fp (X/10^(k+i)):=by
 have e:X/10^(k+i)=X/10^k/10^i:=by rw[Nat.pow_add,Nat.div_div_eq_div_mul]
 rw[e];obtain⟨Y,hY⟩:∃Y,X/10^k=Y:=⟨_,rfl⟩;rw[hY];unfold Fp;congr 2
 have h9:1000000000=10^i*10^(9-i):=by rw[←Nat.pow_add,show i+(9-i)=9 by omega]
 rw[h9,Nat.mod_mul_right_div_self];have h10:10∣10^(9-i):=⟨10^(8-i),by rw[←Nat.pow_succ',show(8-i).succ=9-i by omega]⟩;exact Nat.mod_mod_of_dvd _ h10
theorem Tryz.bytesTy:gx Tryz.prog 49 5 1 1:=gx.mk' (z:=.int .u8 0) Tryz.underlying49 (by kernel_rfl) rfl (by omega)
theorem acE (s:Nat):IntKind.u8.wrap (s:Int)=((UInt8.ofNat s).toNat:Int):=by
 rw[IntKind.wrap_u8,UInt8.toNat_ofNat'];omega
theorem RS.byteCells {S:Nat→Prop} {w:World} {n c:Nat} {xs:List UInt8} {b o:Nat} (h:RS w S (some ⟨b,o,none⟩) n c xs):∀j (hj:j<xs.length),w.cell? ((⟨b,o,none⟩:Addr).add j)=some (.int .u8 (xs[j].toNat:Int)):=by
 intro j hj;obtain⟨b',o',x,e,_,hx,hc⟩:=h.byte_at (k:=j) (by rw[←h.len];exact hj);injection e with e;injection e with e1 e2
 subst e1 e2;have hp:(⟨b,o,none⟩:Addr).add j=⟨b,o+j,none⟩:=by unfold Addr.add;split<;>simp_all
 rw[hp,hc];rw[List.getElem?_eq_getElem hj] at hx;injection hx with hx
 rw[hx]
theorem AM {S:Nat→Prop} {w:World} {A:Option Addr} {n c:Nat} {xs:List UInt8} (h:RS w S A n c xs):(convert 49 9 (.slice A n c)).run Tryz.prog w=.ok (.string ⟨xs.toArray⟩) w:=by
 cases A with
 | none=>
  have hn:n=0:=by
   rcases Nat.eq_zero_or_pos n with h0|h0
   ·exact h0
   ·obtain⟨b,o,e⟩:=h.some_of h0;cases e
  subst hn;rw[h.nil_of];exact run_convert_bytes_nil w 49 5 Tryz.underlying49 Tryz.underlying5 0 c _ Tryz.underlying9
 | some a=>
  rcases Nat.eq_zero_or_pos n with h0|h0
  ·subst h0;have hx:=h.nil_of;subst hx;have q:=run_convert_bytes_back (P:=Tryz.prog) w 49 9 5 a c [] Tryz.underlying49 Tryz.underlying5 Tryz.underlying9 (fun j hj=>absurd hj (Nat.not_lt_zero _));rw[List.length_nil] at q;exact q
  ·obtain⟨b,o,e⟩:=h.some_of h0;cases e
   have:=run_convert_bytes_back w 49 9 5 ⟨b,o,none⟩ c xs Tryz.underlying49 Tryz.underlying5 Tryz.underlying9 h.byteCells;rw[h.len] at this;exact this
theorem HJ {S:Nat→Prop} {A:Option Addr} {n c:Nat} {xs:List (BitVec 32)} {w:World} (h:RS w S A n c xs) (hS:∀b,S b→b<w.heap.size) (hn:n≤536870912) : Calls Tryz.prog 104 #[.slice A n c] w (jQ w (.string ⟨(bI (val xs)).toArray⟩)):=by
 have hl:=dU xs;have bO:=bT xs;have nA:=h.len;have H:=zH h;obtain⟨l,yI⟩:∃l,dt xs=l:=⟨_,rfl⟩;obtain⟨X,hX⟩:∃X,val xs=X:=⟨_,rfl⟩;rw[yI] at hl bO;rw[hX] at hl;rw[hX];have hXb:X<4294967296^n:=by
  rw[←hX,←nA];exact eJ xs
 have HXB:=zH hXb;have HT:=zH yI;have HL:=zH hl;clear h hl yI hX hXb;go_enter Tryz.func104,Tryz.ntmps104;go_wp2_with fail;refine(fh H.out).mono ?_;rintro e w' ⟨A3,n3,c3,rfl,hr,rfl⟩;rw[HT.out] at hr;have hl3:=hr.len;have kP:n3≤536870912:=by omega
 have HR:=zH hr;have AG:=zH hl3;clear hr hl3 bO nA;rcases Nat.eq_zero_or_pos n3 with h0|h0
 ·subst h0;have jk:X=0:=gI.1 (by rw[HL.out];exact RS.nil_of' HR.out);subst jk;go_wp2_with fail;go_ret
  exact⟨by simp[bI],Below.refl _ _⟩
 ·have hb0:((n3:Int)==0)=false:=by rw[beq_eq_false_iff_ne];omega
  have jk:X≠0:=by
   intro e;have:=AG.out;rw[←HL.out,e,dC] at this;simp at this;omega
  have HX0:=zH jk;clear jk;go_wp2_with fail;go_loopg [0,3] X (fun g va vo wr=>∃(k:Nat) (A:Option Addr) (n c:Nat) (Sa:Nat→Prop),va=.slice A n c∧n≤536870912∧RS wr Sa A n c (dm g)∧(∀b,Sa b→b<wr.heap.size∧some b≠vo.ownBlock)∧g=X/10^k∧k≤6442450944∧ Own wr bw w.heap.size 5 vo (pad k X)∧Below w.heap.size w wr)
  case atStart=>exact⟨0,A3,n3,c3,S,rfl,kP,by rw[HL.out];exact HR.out,fun b hb=>⟨hS b hb,by simp[Value.ownBlock]⟩,by simp,by omega,Own.nil _ _ _,Below.refl _ _⟩
  case round=>
   clear HR AG hb0 h0;obtain⟨k,A4,n4,c4,Sa,rfl,j6,hr4,hsa,hg,hk,ho,hb⟩:=hrel;obtain⟨Ao,no,co,rfl,Fh⟩:=ho.slice;rw[qj] at Fh;have arS:no≤6442450944:=by omega
   have pe:=zH hr4;have HSA:=zH hsa;have HG:=zH hg;have HO:=zH ho;have HB:=zH hb;have Ft:=zH hr4.len;clear hr4 hsa hg ho hb Fh;rcases Nat.eq_zero_or_pos n4 with h0|h0
   ·subst h0;have hg0:gk=0:=gI.1 (RS.nil_of' pe.out);have hlt:X<10^k:=by
     have h1:=HG.out;rw[hg0] at h1;exact(Nat.div_eq_zero_iff_lt (Nat.pow_pos (by omega))).1 h1.symm
    have eB:=J6 hlt;have hdt:bI X=(gy X).reverse:=by unfold bI;rw[if_neg HX0.out]
    have yh:=zH eB;have HDT:=zH hdt;clear hg0 hlt eB hdt;go_wp2_with fail;refine(Dd HO.out HB.out (Nat.le_refl _) (by omega)).mono ?_;rintro e w5 ⟨rfl,UH,Ct⟩;have Sq:=AM UH.rs8;have JX:=zH Ct;obtain⟨st,fa⟩:∃st:ByteArray,⟨(pad k X).reverse.toArray⟩=st:=⟨_,rfl⟩;rw[fa] at Sq;have fU:st.data.toList=(pad k X).reverse:=by rw[←fa]
    have HSL:=zH fU;clear UH Ct fa fU;go_wp2_with fail;refine(Tryz.strings_TrimLeft_one st 48 (by decide) w5).mono ?_;rintro e w6 ⟨rfl,rfl⟩;rw[HSL.out,yh.out,←HDT.out];go_wp2_with fail;go_ret
    exact⟨rfl,JX.out⟩
   ·have hgk:gk≠0:=by
     intro e;have:=Ft.out;rw[e,dC] at this;simp at this;omega
    have hkb:3*k<32*n:=by
     refine sf (X:=X) ?_ HXB.out;have h1:=HG.out;rcases Nat.lt_or_ge X (10^k) with h|h
     ·rw[Nat.div_eq_of_lt h] at h1;exact absurd h1 hgk
     ·exact h
    have HGK:=zH hgk;clear hgk;go_wp2_with fail;refine(yV 1000000000 pe.out (fun b hb=>(HSA.out b hb).1) (by omega) (by omega) (by omega)).mono ?_;rintro e w2 ⟨sq,qs,rfl,yF,Zt,Cr,cj⟩;rw[bF] at Zt;rw[bF];obtain⟨r,hr⟩:∃r,gk%1000000000=r:=⟨_,rfl⟩;rw[hr];have E6:=zH hr;clear hr;obtain⟨Aq,nq,cq,rfl,WS⟩:=yF.slice;rw[Cr] at WS;subst WS;obtain⟨lo,nS⟩:∃x,wr.heap.size=x:=⟨_,rfl⟩;have Cz:=zH nS;rw[nS] at yF;have HRQ:=zH (yF.rs (S':=fun b=>lo≤b∧b<w2.heap.size) (fun _ h=>h.elim) (fun _ h1 h2=>⟨h1,h2⟩));have HQV:=zH Zt;have JW:=zH Cr;have oR:=zH (HO.out.below cj);have HOL:=zH (HO.out.lt);have fe:=zH (ak HB.out cj);clear yF Zt Cr cj nS;go_wp2_with fail;refine(fh HRQ.out).mono ?_;rintro e w' ⟨A5,n5,c5,rfl,Jb,rfl⟩;rw[←dU,HQV.out] at Jb;have hn5:n5≤536870912:=by
     have h1:=bT qs;rw[←dU,HQV.out,Jb.len,JW.out] at h1;omega
    have V4:=zH Jb;clear Jb;go_wp2_with fail;go_loopw [3,5,21] (fun vo rv iv wx=>∃(i rr:Nat),i≤9∧iv=.int .i64 i∧rv=.int .u64 rr∧rr=r/10^i∧rr<1000000000∧RS wx (fun b=>lo≤b∧b<w2.heap.size) A5 n5 c5 (dm (gk/1000000000))∧(∀g,vo.ownBlock=some g→¬(lo≤g∧g<w2.heap.size))∧ w2.heap.size≤wx.heap.size∧Own wx bw w.heap.size 5 vo (pad (k+i) X)∧Below w.heap.size w wx)
     (fun _ _ iv _=>9-(intOf iv).toNat)
    case atStart=>
     refine⟨0,r,by omega,rfl,rfl,by simp,by rw[←E6.out];exact Nat.mod_lt _ (by omega),V4.out,fun g hg=>?_,Nat.le_refl _,oR.out,fe.out⟩;have:=HOL.out g hg;have:=Cz.out;omega
    case round=>
     clear HRQ oR fe V4 HOL HO;obtain⟨i,rr,hi,rfl,rfl,UF,zP,Jb,BC,jN,ho,hb⟩:=hrel;obtain⟨Ax,nx,cx,rfl,hnx⟩:=ho.slice;rw[qj] at hnx;have V4:=zH Jb;have HVA:=zH BC;have HO:=zH ho;have HB:=zH hb;have HRX:=zH UF;have HNX:=zH hnx;clear Jb BC ho hb UF hnx;by_cases hlt:i<9
     ·obtain⟨d,hd⟩:∃d,rr%10=d:=⟨_,rfl⟩;obtain⟨r2,Lg⟩:∃d,rr/10=d:=⟨_,rfl⟩;have W6:(rr:Int).tmod 10=(d:Int):=by rw[←hd];rfl
      have Sp:(rr:Int)%10=(d:Int):=by rw[←hd];rfl
      have Si:(rr:Int).tdiv 10=(r2:Int):=by rw[←Lg];rfl
      have Cs:(rr:Int)/10=(r2:Int):=by rw[←Lg];rfl
      have ZT:d<10:=by omega
      have ajZ:r2<1000000000:=by omega
      obtain⟨s,hs⟩:∃s,48+d=s:=⟨_,rfl⟩;have nJ:48+(d:Int)=(s:Int):=by omega
      have Sf:s<58:=by omega
      have zN:=acE s;obtain⟨y,hy⟩:∃y,UInt8.ofNat s=y:=⟨_,rfl⟩;rw[hy] at zN;have WN:Fp (X/10^(k+i))=y:=by
       rw[←EF X k i hlt,←HG.out,E6.out,←HRX.out,←hy,←hs,←hd];rfl
      have aee:r2=r/10^(i+1):=by rw[←Lg,HRX.out,Nat.div_div_eq_div_mul,Nat.pow_succ]
      have HYD:=zH WN;have JV:=zH aee;clear hd Lg hs hy WN aee;go_wp2_with (at_builtin; refine dy (α:=UInt8) (w0:=w) (B:=w.heap.size) (base:=w.heap.size) rfl _ _ 49 rfl 1 Tryz.bytesTy rfl HO.out HB.out (Nat.le_refl _) HB.out.size [.int .u8 (y.toNat:Int)] y 1 rfl rfl 5 (by simp[Value.oneCell']) (by rw[qj];omega) ?_; intro v4 w4 hown4 j6 hg4 hl4; have E8:=zH hown4; have yi:=zH j6; have HG4:=zH hg4; have am6:Hid (v4.ownBlock=(Value.slice Ax nx cx).ownBlock∨v4.ownBlock=some (wr.heap.size+1)):=zH hl4; clear hown4 j6 hg4 hl4);go_roundw
      case rel=>
       have ajL:=HG4.out.size;have ui:aA (fun b=>lo≤b∧b<w2.heap.size) wr (wr.alloc (.cells [Value.int .u8 (y.toNat:Int)].toArray 5)):=(aA.refl _ _).alloc (fun b hb=>Nat.lt_of_lt_of_le hb.2 jN) _;have eX:aA (fun b=>lo≤b∧b<w2.heap.size) (wr.alloc (.cells [Value.int .u8 (y.toNat:Int)].toArray 5)) w4:=(aA.grown HG4.out).sub fun b hb=>⟨by simp;omega,fun e=>HVA.out b e.symm hb⟩;refine⟨i+1,r2,by omega,by go_num,rfl,JV.out,ajZ,V4.out.keep (fun _ h=>h) (ui.trans eX),fun g hg=>?_,by simp at ajL;omega,?_,yi.out⟩
       ·rcases am6.out with h|h
        ·exact HVA.out g (by rw[←h];exact hg)
        ·rw[h] at hg;injection hg with hg;omega
       ·rw[←Nat.add_assoc,N8,HYD.out];exact E8.out
      case measure=>simp[intOf];omega
     ·have hi9:i=9:=by omega
      subst hi9;clear hlt;go_wp2_with fail
      go_roundg (gk/1000000000)
      case measure=>exact Nat.div_lt_self (by have:=HGK.out;omega) (by omega)
      case rel=>exact⟨k+9,A5,n5,c5,fun b=>lo≤b∧b<w2.heap.size,rfl,hn5,V4.out,fun b hb=>⟨Nat.lt_of_lt_of_le hb.2 jN,fun e=>HVA.out b e.symm hb⟩,by rw[HG.out,Nat.div_div_eq_div_mul,Nat.pow_add],by omega,HO.out,HB.out⟩
end Go.Proofs.YtjlhbfbdcfajfaaGreatDoor
