/- NatT Nat12 -/
import Derived.Test.YtdbpbfglhbiadaaGreatDoorL01
import Derived.Test.YtdbpbfglhbiadaaGreatDoorL07
import Derived.Lib.TrimByte
import Derived.Test.YtdbpbfglhbiadaaGreatDoorL08
import Derived.Test.YtdbpbfglhbiadaaGreatDoorL09
import Derived.Laws.BytesArg
import Derived.Laws.IdiomStrings
set_option maxHeartbeats 8000000
set_option maxRecDepth 100000
namespace Go.Proofs.YtdbpbfglhbiadaaGreatDoor
open Go.RowKit
def pad:Nat→Nat→List UInt8
 | 0,_=>[]
 | k+1,n=>FA n::pad k (n/10)
theorem qy (k n:Nat):(pad k n).length=k:=by
 induction k generalizing n with
 | zero=>rfl
 | succ k ih=>simp[pad,ih]
theorem Om (k n:Nat):pad (k+1) n=pad k n++[FA (n/10^k)]:=by
 induction k generalizing n with
 | zero=>simp[pad]
 | succ k ih=>
  rw[pad,ih,pad,List.cons_append,Nat.div_div_eq_div_mul,Nat.pow_succ']
theorem On (k n:Nat) (h:n<10^k):pad k n=gC n++List.replicate (k-(gC n).length) 48:=by
 induction k generalizing n with
 | zero=>
  have:n=0:=by simpa using h
  subst this;simp[pad,gT]
 | succ k ih=>
  by_cases hn:n=0
  ·subst hn;rw[gT,pad,ih 0 (Nat.pow_pos (by omega)),gT];simp[FA,List.replicate_succ]
  ·rw[pad,gC,dif_neg hn,ih (n/10) (by rw[Nat.pow_succ'] at h;omega)];simp
theorem abg {n:Nat} (h:n%10≠0):FA n≠48:=by
 intro e;have:=congrArg UInt8.toNat e;simp[FA] at this;omega
theorem L0 {n:Nat} {c:UInt8} (h:(gC n).getLast?=some c):c≠48:=by
 induction n using Nat.strongRecOn with
 | ind n ih=>
  rw[gC] at h;split at h
  ·simp at h
  ·rename_i hn;rw[List.getLast?_cons] at h;by_cases h10:n/10=0
   ·rw[h10,gT] at h;simp at h;subst h;exact abg (by omega)
   ·have:gC (n/10)≠[]:=by rw[gC,dif_neg h10];simp
    obtain⟨z,hz⟩:∃z,(gC (n/10)).getLast?=some z:=by
     cases hh:(gC (n/10)).getLast? with
     | none=>rw[List.getLast?_eq_none_iff] at hh;exact absurd hh this
     | some z=>exact⟨z,rfl⟩
    rw[hz] at h;simp at h;subst h;exact ih (n/10) (by omega) hz
theorem p9 (k:Nat) (l:List UInt8) (h:l.head?≠some 48):Lib.trimLeftB (List.replicate k 48++l) 48=l:=by
 induction k with
 | zero=>
  cases l with
  | nil=>rfl
  | cons x l=>
   have hx:x≠48:=fun e=>h (by rw[e];rfl);simp[Lib.trimLeftB,hx]
 | succ k ih=>
  rw[List.replicate_succ,List.cons_append];simp only[Lib.trimLeftB] at ih ⊢;simpa using ih
theorem Kg {k n:Nat} (h:n<10^k):Lib.trimLeftB (pad k n).reverse 48=(gC n).reverse:=by
 rw[On k n h,List.reverse_append,List.reverse_replicate];apply p9;rw[List.head?_reverse];intro e;exact L0 e rfl
theorem ET (X k i:Nat) (hi:i<9):FA (X/10^k%1000000000/10^i)=FA (X/10^(k+i)):=by
 have e:X/10^(k+i)=X/10^k/10^i:=by rw[Nat.pow_add,Nat.div_div_eq_div_mul]
 rw[e];obtain⟨Y,hY⟩:∃Y,X/10^k=Y:=⟨_,rfl⟩;rw[hY];unfold FA;congr 2
 have h9:1000000000=10^i*10^(9-i):=by rw[←Nat.pow_add,show i+(9-i)=9 by omega]
 rw[h9,Nat.mod_mul_right_div_self];have h10:10∣10^(9-i):=⟨10^(8-i),by rw[←Nat.pow_succ',show(8-i).succ=9-i by omega]⟩;exact Nat.mod_mod_of_dvd _ h10
theorem Tryz.bytesTy:gB Tryz.prog 61 5 1 1:=gB.mk' (z:=.int .u8 0) Tryz.underlying61 (by kernel_rfl) rfl (by omega)
theorem adf (s:Nat):IntKind.u8.wrap (s:Int)=((UInt8.ofNat s).toNat:Int):=by
 rw[IntKind.wrap_u8,UInt8.toNat_ofNat'];omega
theorem RS.byteCells {S:Nat→Prop} {w:World} {n c:Nat} {xs:List UInt8} {b o:Nat} (h:RS w S (some ⟨b,o,none⟩) n c xs):∀j (hj:j<xs.length),w.cell? ((⟨b,o,none⟩:Addr).add j)=some (.int .u8 (xs[j].toNat:Int)):=by
 intro j hj;obtain⟨b',o',x,e,_,hx,hc⟩:=h.byte_at (k:=j) (by rw[←h.len];exact hj);injection e with e;injection e with e1 e2
 subst e1 e2;have hp:(⟨b,o,none⟩:Addr).add j=⟨b,o+j,none⟩:=by unfold Addr.add;split<;>simp_all
 rw[hp,hc];rw[List.getElem?_eq_getElem hj] at hx;injection hx with hx
 rw[hx]
theorem AX {S:Nat→Prop} {w:World} {A:Option Addr} {n c:Nat} {xs:List UInt8} (h:RS w S A n c xs):(convert 61 9 (.slice A n c)).run Tryz.prog w=.ok (.string ⟨xs.toArray⟩) w:=by
 cases A with
 | none=>
  have hn:n=0:=by
   rcases Nat.eq_zero_or_pos n with h0|h0
   ·exact h0
   ·obtain⟨b,o,e⟩:=h.some_of h0;cases e
  subst hn;rw[h.nil_of];exact run_convert_bytes_nil w 61 5 Tryz.underlying61 Tryz.underlying5 0 c _ Tryz.underlying9
 | some a=>
  rcases Nat.eq_zero_or_pos n with h0|h0
  ·subst h0;have hx:=h.nil_of;subst hx;have q:=run_convert_bytes_back (P:=Tryz.prog) w 61 9 5 a c [] Tryz.underlying61 Tryz.underlying5 Tryz.underlying9 (fun j hj=>absurd hj (Nat.not_lt_zero _));rw[List.length_nil] at q;exact q
  ·obtain⟨b,o,e⟩:=h.some_of h0;cases e
   have:=run_convert_bytes_back w 61 9 5 ⟨b,o,none⟩ c xs Tryz.underlying61 Tryz.underlying5 Tryz.underlying9 h.byteCells;rw[h.len] at this;exact this
theorem Ik {S:Nat→Prop} {A:Option Addr} {n c:Nat} {xs:List (BitVec 32)} {w:World} (h:RS w S A n c xs) (hS:∀b,S b→b<w.heap.size) (hn:n≤536870912) : Calls Tryz.prog 126 #[.slice A n c] w (jZ w (.string ⟨(bJ (val xs)).toArray⟩)):=by
 have hl:=dY xs;have bG:=bU xs;have pC:=h.len;have H:=zH h;obtain⟨l,yW⟩:∃l,dy xs=l:=⟨_,rfl⟩;obtain⟨X,hX⟩:∃X,val xs=X:=⟨_,rfl⟩;rw[yW] at hl bG;rw[hX] at hl;rw[hX];have hXb:X<4294967296^n:=by
  rw[←hX,←pC];exact eI xs
 have HXB:=zH hXb;have HT:=zH yW;have HL:=zH hl;clear h hl yW hX hXb;go_enter Tryz.func126,Tryz.ntmps126;go_wp2_with fail;refine(fi H.out).mono ?_;rintro e w' ⟨A3,n3,c3,rfl,hr,rfl⟩;rw[HT.out] at hr;have hl3:=hr.len;have kR:n3≤536870912:=by omega
 have HR:=zH hr;have AN:=zH hl3;clear hr hl3 bG pC;rcases Nat.eq_zero_or_pos n3 with h0|h0
 ·subst h0;have ji:X=0:=gL.1 (by rw[HL.out];exact RS.nil_of' HR.out);subst ji;go_wp2_with fail;go_ret
  exact⟨by simp[bJ],Below.refl _ _⟩
 ·have hb0:((n3:Int)==0)=false:=by rw[beq_eq_false_iff_ne];omega
  have ji:X≠0:=by
   intro e;have:=AN.out;rw[←HL.out,e,dH] at this;simp at this;omega
  have HX0:=zH ji;clear ji;go_wp2_with fail;go_loopg [0,3] X (fun g va vo wr=>∃(k:Nat) (A:Option Addr) (n c:Nat) (Sa:Nat→Prop),va=.slice A n c∧n≤536870912∧RS wr Sa A n c (du g)∧(∀b,Sa b→b<wr.heap.size∧some b≠vo.ownBlock)∧g=X/10^k∧k≤6442450944∧ Own wr bz w.heap.size 5 vo (pad k X)∧Below w.heap.size w wr)
  case atStart=>exact⟨0,A3,n3,c3,S,rfl,kR,by rw[HL.out];exact HR.out,fun b hb=>⟨hS b hb,by simp[Value.ownBlock]⟩,by simp,by omega,Own.nil _ _ _,Below.refl _ _⟩
  case round=>
   clear HR AN hb0 h0;obtain⟨k,A4,n4,c4,Sa,rfl,j7,hr4,hsa,hg,hk,ho,hb⟩:=hrel;obtain⟨Ao,no,co,rfl,Lw⟩:=ho.slice;rw[qy] at Lw;have asb:no≤6442450944:=by omega
   have pk:=zH hr4;have HSA:=zH hsa;have HG:=zH hg;have HO:=zH ho;have HB:=zH hb;have FE:=zH hr4.len;clear hr4 hsa hg ho hb Lw;rcases Nat.eq_zero_or_pos n4 with h0|h0
   ·subst h0;have hg0:gk=0:=gL.1 (RS.nil_of' pk.out);have hlt:X<10^k:=by
     have h1:=HG.out;rw[hg0] at h1;exact(Nat.div_eq_zero_iff_lt (Nat.pow_pos (by omega))).1 h1.symm
    have eD:=Kg hlt;have hdt:bJ X=(gC X).reverse:=by unfold bJ;rw[if_neg HX0.out]
    have yy:=zH eD;have HDT:=zH hdt;clear hg0 hlt eD hdt;go_wp2_with fail;refine(Dn HO.out HB.out (Nat.le_refl _) (by omega)).mono ?_;rintro e w5 ⟨rfl,UN,CC⟩;have SA:=AX UN.rs8;have J4:=zH CC;obtain⟨st,fb⟩:∃st:ByteArray,⟨(pad k X).reverse.toArray⟩=st:=⟨_,rfl⟩;rw[fb] at SA;have fU:st.data.toList=(pad k X).reverse:=by rw[←fb]
    have HSL:=zH fU;clear UN CC fb fU;go_wp2_with fail;refine(Tryz.strings_TrimLeft_one st 48 (by decide) w5).mono ?_;rintro e w6 ⟨rfl,rfl⟩;rw[HSL.out,yy.out,←HDT.out];go_wp2_with fail;go_ret
    exact⟨rfl,J4.out⟩
   ·have hgk:gk≠0:=by
     intro e;have:=FE.out;rw[e,dH] at this;simp at this;omega
    have hkb:3*k<32*n:=by
     refine sA (X:=X) ?_ HXB.out;have h1:=HG.out;rcases Nat.lt_or_ge X (10^k) with h|h
     ·rw[Nat.div_eq_of_lt h] at h1;exact absurd h1 hgk
     ·exact h
    have HGK:=zH hgk;clear hgk;go_wp2_with fail;refine(zl 1000000000 pk.out (fun b hb=>(HSA.out b hb).1) (by omega) (by omega) (by omega)).mono ?_;rintro e w2 ⟨sq,qs,rfl,yT,ZZ,CB,cm⟩;rw[bF] at ZZ;rw[bF];obtain⟨r,hr⟩:∃r,gk%1000000000=r:=⟨_,rfl⟩;rw[hr];have Fo:=zH hr;clear hr;obtain⟨Aq,nq,cq,rfl,WY⟩:=yT.slice;rw[CB] at WY;subst WY;obtain⟨lo,nU⟩:∃x,wr.heap.size=x:=⟨_,rfl⟩;have CI:=zH nU;rw[nU] at yT;have HRQ:=zH (yT.rs (S':=fun b=>lo≤b∧b<w2.heap.size) (fun _ h=>h.elim) (fun _ h1 h2=>⟨h1,h2⟩));have HQV:=zH ZZ;have J3:=zH CB;have oT:=zH (HO.out.below cm);have HOL:=zH (HO.out.lt);have fg:=zH (ao HB.out cm);clear yT ZZ CB cm nU;go_wp2_with fail;refine(fi HRQ.out).mono ?_;rintro e w' ⟨A5,n5,c5,rfl,Jj,rfl⟩;rw[←dY,HQV.out] at Jj;have hn5:n5≤536870912:=by
     have h1:=bU qs;rw[←dY,HQV.out,Jj.len,J3.out] at h1;omega
    have Wb:=zH Jj;clear Jj;go_wp2_with fail;go_loopw [3,5,21] (fun vo rv iv wx=>∃(i rr:Nat),i≤9∧iv=.int .i64 i∧rv=.int .u64 rr∧rr=r/10^i∧rr<1000000000∧RS wx (fun b=>lo≤b∧b<w2.heap.size) A5 n5 c5 (du (gk/1000000000))∧(∀g,vo.ownBlock=some g→¬(lo≤g∧g<w2.heap.size))∧ w2.heap.size≤wx.heap.size∧Own wx bz w.heap.size 5 vo (pad (k+i) X)∧Below w.heap.size w wx)
     (fun _ _ iv _=>9-(intOf iv).toNat)
    case atStart=>
     refine⟨0,r,by omega,rfl,rfl,by simp,by rw[←Fo.out];exact Nat.mod_lt _ (by omega),Wb.out,fun g hg=>?_,Nat.le_refl _,oT.out,fg.out⟩;have:=HOL.out g hg;have:=CI.out;omega
    case round=>
     clear HRQ oT fg Wb HOL HO;obtain⟨i,rr,hi,rfl,rfl,UL,Af,Jj,WV,jM,ho,hb⟩:=hrel;obtain⟨Ax,nx,cx,rfl,hnx⟩:=ho.slice;rw[qy] at hnx;have Wb:=zH Jj;have HVA:=zH WV;have HO:=zH ho;have HB:=zH hb;have HRX:=zH UL;have HNX:=zH hnx;clear Jj WV ho hb UL hnx;by_cases hlt:i<9
     ·obtain⟨d,hd⟩:∃d,rr%10=d:=⟨_,rfl⟩;obtain⟨r2,PK⟩:∃d,rr/10=d:=⟨_,rfl⟩;have Xa:(rr:Int).tmod 10=(d:Int):=by rw[←hd];rfl
      have Sz:(rr:Int)%10=(d:Int):=by rw[←hd];rfl
      have Sq:(rr:Int).tdiv 10=(r2:Int):=by rw[←PK];rfl
      have Jk:(rr:Int)/10=(r2:Int):=by rw[←PK];rfl
      have hdl:d<10:=by omega
      have aka:r2<1000000000:=by omega
      obtain⟨s,hs⟩:∃s,48+d=s:=⟨_,rfl⟩;have nM:48+(d:Int)=(s:Int):=by omega
      have Sn:s<58:=by omega
      have Ac:=adf s;obtain⟨y,hy⟩:∃y,UInt8.ofNat s=y:=⟨_,rfl⟩;rw[hy] at Ac;have WT:FA (X/10^(k+i))=y:=by
       rw[←ET X k i hlt,←HG.out,Fo.out,←HRX.out,←hy,←hs,←hd];rfl
      have ae1:r2=r/10^(i+1):=by rw[←PK,HRX.out,Nat.div_div_eq_div_mul,Nat.pow_succ]
      have HYD:=zH WT;have J2:=zH ae1;clear hd PK hs hy WT ae1;go_wp2_with (at_builtin; refine dB (α:=UInt8) (w0:=w) (B:=w.heap.size) (base:=w.heap.size) rfl _ _ 61 rfl 1 Tryz.bytesTy rfl HO.out HB.out (Nat.le_refl _) HB.out.size [.int .u8 (y.toNat:Int)] y 1 rfl rfl 5 (by simp[Value.oneCell']) (by rw[qy];omega) ?_; intro v4 w4 hown4 j7 hg4 hl4; have Fq:=zH hown4; have yz:=zH j7; have HG4:=zH hg4; have ank:Hid (v4.ownBlock=(Value.slice Ax nx cx).ownBlock∨v4.ownBlock=some (wr.heap.size+1)):=zH hl4; clear hown4 j7 hg4 hl4);go_roundw
      case rel=>
       have ajX:=HG4.out.size;have oF:aA (fun b=>lo≤b∧b<w2.heap.size) wr (wr.alloc (.cells [Value.int .u8 (y.toNat:Int)].toArray 5)):=(aA.refl _ _).alloc (fun b hb=>Nat.lt_of_lt_of_le hb.2 jM) _;have hZ:aA (fun b=>lo≤b∧b<w2.heap.size) (wr.alloc (.cells [Value.int .u8 (y.toNat:Int)].toArray 5)) w4:=(aA.grown HG4.out).sub fun b hb=>⟨by simp;omega,fun e=>HVA.out b e.symm hb⟩;refine⟨i+1,r2,by omega,by go_num,rfl,J2.out,aka,Wb.out.keep (fun _ h=>h) (oF.trans hZ),fun g hg=>?_,by simp at ajX;omega,?_,yz.out⟩
       ·rcases ank.out with h|h
        ·exact HVA.out g (by rw[←h];exact hg)
        ·rw[h] at hg;injection hg with hg;omega
       ·rw[←Nat.add_assoc,Om,HYD.out];exact Fq.out
      case measure=>simp[intOf];omega
     ·have hi9:i=9:=by omega
      subst hi9;clear hlt;go_wp2_with fail
      go_roundg (gk/1000000000)
      case measure=>exact Nat.div_lt_self (by have:=HGK.out;omega) (by omega)
      case rel=>exact⟨k+9,A5,n5,c5,fun b=>lo≤b∧b<w2.heap.size,rfl,hn5,Wb.out,fun b hb=>⟨Nat.lt_of_lt_of_le hb.2 jM,fun e=>HVA.out b e.symm hb⟩,by rw[HG.out,Nat.div_div_eq_div_mul,Nat.pow_add],by omega,HO.out,HB.out⟩
end Go.Proofs.YtdbpbfglhbiadaaGreatDoor
