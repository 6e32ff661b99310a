/- NatT Nat12 -/
import Derived.Test.YtjlhbfbdcfajfaaGreatDoorV01
import Derived.Test.YtjlhbfbdcfajfaaGreatDoorV05
import Derived.Lib.TrimByte
import Derived.Test.YtjlhbfbdcfajfaaGreatDoorV08
import Derived.Test.YtjlhbfbdcfajfaaGreatDoorV10
import Derived.Laws.BytesArg
import Derived.Laws.IdiomStrings
set_option maxHeartbeats 8000000
set_option maxRecDepth 100000
namespace Go.Proofs.YtjlhbfbdcfajfaaGreatDoor
open Go.RowKit
def pad:Nat→Nat→List UInt8
 | 0,_=>[]
 | k+1,n=>D8 n::pad k (n/10)
theorem pz (k n:Nat):(pad k n).length=k:=by
 induction k generalizing n with
 | zero=>rfl
 | succ k ih=>simp[pad,ih]
theorem Mw (k n:Nat):pad (k+1) n=pad k n++[D8 (n/10^k)]:=by
 induction k generalizing n with
 | zero=>simp[pad]
 | succ k ih=>
  rw[pad,ih,pad,List.cons_append,Nat.div_div_eq_div_mul,Nat.pow_succ']
theorem Mx (k n:Nat) (h:n<10^k):pad k n=gj n++List.replicate (k-(gj n).length) 48:=by
 induction k generalizing n with
 | zero=>
  have:n=0:=by simpa using h
  subst this;simp[pad,gJ]
 | succ k ih=>
  by_cases hn:n=0
  ·subst hn;rw[gJ,pad,ih 0 (Nat.pow_pos (by omega)),gJ];simp[D8,List.replicate_succ]
  ·rw[pad,gj,dif_neg hn,ih (n/10) (by rw[Nat.pow_succ'] at h;omega)];simp
theorem X8 {n:Nat} (h:n%10≠0):D8 n≠48:=by
 intro e;have:=congrArg UInt8.toNat e;simp[D8] at this;omega
theorem Ko {n:Nat} {c:UInt8} (h:(gj n).getLast?=some c):c≠48:=by
 induction n using Nat.strongRecOn with
 | ind n ih=>
  rw[gj] at h;split at h
  ·simp at h
  ·rename_i hn;rw[List.getLast?_cons] at h;by_cases h10:n/10=0
   ·rw[h10,gJ] at h;simp at h;subst h;exact X8 (by omega)
   ·have:gj (n/10)≠[]:=by rw[gj,dif_neg h10];simp
    obtain⟨z,hz⟩:∃z,(gj (n/10)).getLast?=some z:=by
     cases hh:(gj (n/10)).getLast? with
     | none=>rw[List.getLast?_eq_none_iff] at hh;exact absurd hh this
     | some z=>exact⟨z,rfl⟩
    rw[hz] at h;simp at h;subst h;exact ih (n/10) (by omega) hz
theorem pn (k:Nat) (l:List UInt8) (h:l.head?≠some 48):Lib.trimLeftB (List.replicate k 48++l) 48=l:=by
 induction k with
 | zero=>
  cases l with
  | nil=>rfl
  | cons x l=>
   have hx:x≠48:=fun e=>h (by rw[e];rfl);simp[Lib.trimLeftB,hx]
 | succ k ih=>
  rw[List.replicate_succ,List.cons_append];simp only[Lib.trimLeftB] at ih ⊢;simpa using ih
theorem IU {k n:Nat} (h:n<10^k):Lib.trimLeftB (pad k n).reverse 48=(gj n).reverse:=by
 rw[Mx k n h,List.reverse_append,List.reverse_replicate];apply pn;rw[List.head?_reverse];intro e;exact Ko e rfl
theorem Dm (X k i:Nat) (hi:i<9):D8 (X/10^k%1000000000/10^i)=D8 (X/10^(k+i)):=by
 have e:X/10^(k+i)=X/10^k/10^i:=by rw[Nat.pow_add,Nat.div_div_eq_div_mul]
 rw[e];obtain⟨Y,hY⟩:∃Y,X/10^k=Y:=⟨_,rfl⟩;rw[hY];unfold D8;congr 2
 have h9:1000000000=10^i*10^(9-i):=by rw[←Nat.pow_add,show i+(9-i)=9 by omega]
 rw[h9,Nat.mod_mul_right_div_self];have h10:10∣10^(9-i):=⟨10^(8-i),by rw[←Nat.pow_succ',show(8-i).succ=9-i by omega]⟩;exact Nat.mod_mod_of_dvd _ h10
theorem Tryz.bytesTy:gi Tryz.prog 49 5 1 1:=gi.mk' (z:=.int .u8 0) Tryz.underlying49 (by kernel_rfl) rfl (by omega)
theorem ZX (s:Nat):IntKind.u8.wrap (s:Int)=((UInt8.ofNat s).toNat:Int):=by
 rw[IntKind.wrap_u8,UInt8.toNat_ofNat'];omega
theorem RS.byteCells {S:Nat→Prop} {w:World} {n c:Nat} {xs:List UInt8} {b o:Nat} (h:RS w S (some ⟨b,o,none⟩) n c xs):∀j (hj:j<xs.length),w.cell? ((⟨b,o,none⟩:Addr).add j)=some (.int .u8 (xs[j].toNat:Int)):=by
 intro j hj;obtain⟨b',o',x,e,_,hx,hc⟩:=h.byte_at (k:=j) (by rw[←h.len];exact hj);injection e with e;injection e with e1 e2
 subst e1 e2;have hp:(⟨b,o,none⟩:Addr).add j=⟨b,o+j,none⟩:=by unfold Addr.add;split<;>simp_all
 rw[hp,hc];rw[List.getElem?_eq_getElem hj] at hx;injection hx with hx
 rw[hx]
theorem zo {S:Nat→Prop} {w:World} {A:Option Addr} {n c:Nat} {xs:List UInt8} (h:RS w S A n c xs):(convert 49 9 (.slice A n c)).run Tryz.prog w=.ok (.string ⟨xs.toArray⟩) w:=by
 cases A with
 | none=>
  have hn:n=0:=by
   rcases Nat.eq_zero_or_pos n with h0|h0
   ·exact h0
   ·obtain⟨b,o,e⟩:=h.some_of h0;cases e
  subst hn;rw[h.nil_of];exact run_convert_bytes_nil w 49 5 Tryz.underlying49 Tryz.underlying5 0 c _ Tryz.underlying9
 | some a=>
  rcases Nat.eq_zero_or_pos n with h0|h0
  ·subst h0;have hx:=h.nil_of;subst hx;have q:=run_convert_bytes_back (P:=Tryz.prog) w 49 9 5 a c [] Tryz.underlying49 Tryz.underlying5 Tryz.underlying9 (fun j hj=>absurd hj (Nat.not_lt_zero _));rw[List.length_nil] at q;exact q
  ·obtain⟨b,o,e⟩:=h.some_of h0;cases e
   have:=run_convert_bytes_back w 49 9 5 ⟨b,o,none⟩ c xs Tryz.underlying49 Tryz.underlying5 Tryz.underlying9 h.byteCells;rw[h.len] at this;exact this
theorem Ge {S:Nat→Prop} {A:Option Addr} {n c:Nat} {xs:List (BitVec 32)} {w:World} (h:RS w S A n c xs) (hS:∀b,S b→b<w.heap.size) (hn:n≤536870912) : Calls Tryz.prog 104 #[.slice A n c] w (j5 w (.string ⟨(bG (val xs)).toArray⟩)):=by
 have hl:=dN xs;have bM:=bQ xs;have nl:=h.len;have H:=zH h;obtain⟨l,xH⟩:∃l,dh xs=l:=⟨_,rfl⟩;obtain⟨X,hX⟩:∃X,val xs=X:=⟨_,rfl⟩;rw[xH] at hl bM;rw[hX] at hl;rw[hX];have hXb:X<4294967296^n:=by
  rw[←hX,←nl];exact ey xs
 have HXB:=zH hXb;have HT:=zH xH;have HL:=zH hl;clear h hl xH hX hXb;go_enter Tryz.func104,Tryz.ntmps104;go_wp2_with fail;refine(eR H.out).mono ?_;rintro e w' ⟨A3,n3,c3,rfl,hr,rfl⟩;rw[HT.out] at hr;have hl3:=hr.len;have kD:n3≤536870912:=by omega
 have HR:=zH hr;have zi:=zH hl3;clear hr hl3 bM nl;rcases Nat.eq_zero_or_pos n3 with h0|h0
 ·subst h0;have i7:X=0:=gz.1 (by rw[HL.out];exact RS.nil_of' HR.out);subst i7;go_wp2_with fail;go_ret
  exact⟨by simp[bG],Below.refl _ _⟩
 ·have hb0:((n3:Int)==0)=false:=by rw[beq_eq_false_iff_ne];omega
  have i7:X≠0:=by
   intro e;have:=zi.out;rw[←HL.out,e,dt] at this;simp at this;omega
  have YF:=zH i7;clear i7;go_wp2_with fail;go_loopg [0,3] X (fun g va vo wr=>∃(k:Nat) (A:Option Addr) (n c:Nat) (Sa:Nat→Prop),va=.slice A n c∧n≤536870912∧RS wr Sa A n c (dc g)∧(∀b,Sa b→b<wr.heap.size∧some b≠vo.ownBlock)∧g=X/10^k∧k≤6442450944∧ Own wr bq w.heap.size 5 vo (pad k X)∧Below w.heap.size w wr)
  case atStart=>exact⟨0,A3,n3,c3,S,rfl,kD,by rw[HL.out];exact HR.out,fun b hb=>⟨hS b hb,by simp[Value.ownBlock]⟩,by simp,by omega,Own.nil _ _ _,Below.refl _ _⟩
  case round=>
   clear HR zi hb0 h0;obtain⟨k,A4,n4,c4,Sa,rfl,jT,hr4,hsa,hg,hk,ho,hb⟩:=hrel;obtain⟨Ao,no,co,rfl,JY⟩:=ho.slice;rw[pz] at JY;have an5:no≤6442450944:=by omega
   have oM:=zH hr4;have HSA:=zH hsa;have HG:=zH hg;have HO:=zH ho;have HB:=zH hb;have Eb:=zH hr4.len;clear hr4 hsa hg ho hb JY;rcases Nat.eq_zero_or_pos n4 with h0|h0
   ·subst h0;have hg0:gk=0:=gz.1 (RS.nil_of' oM.out);have hlt:X<10^k:=by
     have h1:=HG.out;rw[hg0] at h1;exact(Nat.div_eq_zero_iff_lt (Nat.pow_pos (by omega))).1 h1.symm
    have et:=IU hlt;have hdt:bG X=(gj X).reverse:=by unfold bG;rw[if_neg YF.out]
    have xg:=zH et;have HDT:=zH hdt;clear hg0 hlt et hdt;go_wp2_with fail;refine(BH HO.out HB.out (Nat.le_refl _) (by omega)).mono ?_;rintro e w5 ⟨rfl,Sn,Be⟩;have Qe:=zo Sn.rs8;have IH:=zH Be;obtain⟨st,eM⟩:∃st:ByteArray,⟨(pad k X).reverse.toArray⟩=st:=⟨_,rfl⟩;rw[eM] at Qe;have fJ:st.data.toList=(pad k X).reverse:=by rw[←eM]
    have Zz:=zH fJ;clear Sn Be eM fJ;go_wp2_with fail;refine(Tryz.strings_TrimLeft_one st 48 (by decide) w5).mono ?_;rintro e w6 ⟨rfl,rfl⟩;rw[Zz.out,xg.out,←HDT.out];go_wp2_with fail;go_ret
    exact⟨rfl,IH.out⟩
   ·have hgk:gk≠0:=by
     intro e;have:=Eb.out;rw[e,dt] at this;simp at this;omega
    have hkb:3*k<32*n:=by
     refine qY (X:=X) ?_ HXB.out;have h1:=HG.out;rcases Nat.lt_or_ge X (10^k) with h|h
     ·rw[Nat.div_eq_of_lt h] at h1;exact absurd h1 hgk
     ·exact h
    have HGK:=zH hgk;clear hgk;go_wp2_with fail;refine(xU 1000000000 oM.out (fun b hb=>(HSA.out b hb).1) (by omega) (by omega) (by omega)).mono ?_;rintro e w2 ⟨sq,qs,rfl,xE,W6,Bd,bZ⟩;rw[bC] at W6;rw[bC];obtain⟨r,hr⟩:∃r,gk%1000000000=r:=⟨_,rfl⟩;rw[hr];have DU:=zH hr;clear hr;obtain⟨Aq,nq,cq,rfl,UL⟩:=xE.slice;rw[Bd] at UL;subst UL;obtain⟨lo,nr⟩:∃x,wr.heap.size=x:=⟨_,rfl⟩;have Bj:=zH nr;rw[nr] at xE;have HRQ:=zH (xE.rs (S':=fun b=>lo≤b∧b<w2.heap.size) (fun _ h=>h.elim) (fun _ h1 h2=>⟨h1,h2⟩));have HQV:=zH W6;have IG:=zH Bd;have ot:=zH (HO.out.below bZ);have YN:=zH (HO.out.lt);have eP:=zH (ak HB.out bZ);clear xE W6 Bd bZ nr;go_wp2_with fail;refine(eR HRQ.out).mono ?_;rintro e w' ⟨A5,n5,c5,rfl,Hn,rfl⟩;rw[←dN,HQV.out] at Hn;have hn5:n5≤536870912:=by
     have h1:=bQ qs;rw[←dN,HQV.out,Hn.len,IG.out] at h1;omega
    have Ua:=zH Hn;clear Hn;go_wp2_with fail;go_loopw [3,5,21] (fun vo rv iv wx=>∃(i rr:Nat),i≤9∧iv=.int .i64 i∧rv=.int .u64 rr∧rr=r/10^i∧rr<1000000000∧RS wx (fun b=>lo≤b∧b<w2.heap.size) A5 n5 c5 (dc (gk/1000000000))∧(∀g,vo.ownBlock=some g→¬(lo≤g∧g<w2.heap.size))∧ w2.heap.size≤wx.heap.size∧Own wx bq w.heap.size 5 vo (pad (k+i) X)∧Below w.heap.size w wx)
     (fun _ _ iv _=>9-(intOf iv).toNat)
    case atStart=>
     refine⟨0,r,by omega,rfl,rfl,by simp,by rw[←DU.out];exact Nat.mod_lt _ (by omega),Ua.out,fun g hg=>?_,Nat.le_refl _,ot.out,eP.out⟩;have:=YN.out g hg;have:=Bj.out;omega
    case round=>
     clear HRQ ot eP Ua YN HO;obtain⟨i,rr,hi,rfl,rfl,Sk,yE,Hn,UI,jB,ho,hb⟩:=hrel;obtain⟨Ax,nx,cx,rfl,hnx⟩:=ho.slice;rw[pz] at hnx;have Ua:=zH Hn;have HVA:=zH UI;have HO:=zH ho;have HB:=zH hb;have YK:=zH Sk;have HNX:=zH hnx;clear Hn UI ho hb Sk hnx;by_cases hlt:i<9
     ·obtain⟨d,hd⟩:∃d,rr%10=d:=⟨_,rfl⟩;obtain⟨r2,NK⟩:∃d,rr/10=d:=⟨_,rfl⟩;have UV:(rr:Int).tmod 10=(d:Int):=by rw[←hd];rfl
      have Qd:(rr:Int)%10=(d:Int):=by rw[←hd];rfl
      have P8:(rr:Int).tdiv 10=(r2:Int):=by rw[←NK];rfl
      have Ho:(rr:Int)/10=(r2:Int):=by rw[←NK];rfl
      have Xs:d<10:=by omega
      have agI:r2<1000000000:=by omega
      obtain⟨s,hs⟩:∃s,48+d=s:=⟨_,rfl⟩;have nc:48+(d:Int)=(s:Int):=by omega
      have P6:s<58:=by omega
      have yC:=ZX s;obtain⟨y,hy⟩:∃y,UInt8.ofNat s=y:=⟨_,rfl⟩;rw[hy] at yC;have UG:D8 (X/10^(k+i))=y:=by
       rw[←Dm X k i hlt,←HG.out,DU.out,←YK.out,←hy,←hs,←hd];rfl
      have abh:r2=r/10^(i+1):=by rw[←NK,YK.out,Nat.div_div_eq_div_mul,Nat.pow_succ]
      have HYD:=zH UG;have IF:=zH abh;clear hd NK hs hy UG abh;go_wp2_with (at_builtin; refine dl (α:=UInt8) (w0:=w) (B:=w.heap.size) (base:=w.heap.size) rfl _ _ 49 rfl 1 Tryz.bytesTy rfl HO.out HB.out (Nat.le_refl _) HB.out.size [.int .u8 (y.toNat:Int)] y 1 rfl rfl 5 (by simp[Value.oneCell']) (by rw[pz];omega) ?_; intro v4 w4 hown4 jT hg4 hl4; have DW:=zH hown4; have xh:=zH jT; have HG4:=zH hg4; have ajB:Hid (v4.ownBlock=(Value.slice Ax nx cx).ownBlock∨v4.ownBlock=some (wr.heap.size+1)):=zH hl4; clear hown4 jT hg4 hl4);go_roundw
      case rel=>
       have agt:=HG4.out.size;have tw:aA (fun b=>lo≤b∧b<w2.heap.size) wr (wr.alloc (.cells [Value.int .u8 (y.toNat:Int)].toArray 5)):=(aA.refl _ _).alloc (fun b hb=>Nat.lt_of_lt_of_le hb.2 jB) _;have gR:aA (fun b=>lo≤b∧b<w2.heap.size) (wr.alloc (.cells [Value.int .u8 (y.toNat:Int)].toArray 5)) w4:=(aA.grown HG4.out).sub fun b hb=>⟨by simp;omega,fun e=>HVA.out b e.symm hb⟩;refine⟨i+1,r2,by omega,by go_num,rfl,IF.out,agI,Ua.out.keep (fun _ h=>h) (tw.trans gR),fun g hg=>?_,by simp at agt;omega,?_,xh.out⟩
       ·rcases ajB.out with h|h
        ·exact HVA.out g (by rw[←h];exact hg)
        ·rw[h] at hg;injection hg with hg;omega
       ·rw[←Nat.add_assoc,Mw,HYD.out];exact DW.out
      case measure=>simp[intOf];omega
     ·have hi9:i=9:=by omega
      subst hi9;clear hlt;go_wp2_with fail
      go_roundg (gk/1000000000)
      case measure=>exact Nat.div_lt_self (by have:=HGK.out;omega) (by omega)
      case rel=>exact⟨k+9,A5,n5,c5,fun b=>lo≤b∧b<w2.heap.size,rfl,hn5,Ua.out,fun b hb=>⟨Nat.lt_of_lt_of_le hb.2 jB,fun e=>HVA.out b e.symm hb⟩,by rw[HG.out,Nat.div_div_eq_div_mul,Nat.pow_add],by omega,HO.out,HB.out⟩
end Go.Proofs.YtjlhbfbdcfajfaaGreatDoor
