/- NatT Conv Nat12 -/
import Derived.Test.YtichkplomldgiaaGreatDoorJ01
import Derived.Test.YtichkplomldgiaaGreatDoorJ05
import Derived.Lib.TrimByte
import Derived.Laws.BytesArg
import Derived.Laws.IdiomStrings
import Derived.Test.YtichkplomldgiaaGreatDoorJ08
import Derived.Test.YtichkplomldgiaaGreatDoorJ10
set_option maxHeartbeats 4000000
set_option maxRecDepth 100000
namespace Go.Proofs.YtichkplomldgiaaGreatDoor
open Go Go.RowKit
def pad:Nat->Nat->List UInt8
 | 0,_=>[]
 | k+1,n=>F1 n::pad k (n/10)
theorem jT (k n:Nat):(pad k n).length=k:=by
 induction k generalizing n with
 | zero=>rfl
 | succ k ih=>simp[pad,ih]
theorem C6 (k n:Nat):pad (k+1) n=pad k n++[F1 (n/10^k)]:=by
 induction k generalizing n with
 | zero=>simp[pad]
 | succ k ih=>
  rw[pad,ih,pad,List.cons_append,Nat.div_div_eq_div_mul,Nat.pow_succ']
theorem C7 (k n:Nat) (h:n<10^k):pad k n=gH n++List.replicate (k-(gH n).length) 48:=by
 induction k generalizing n with
 | zero=>
  have:n=0:=by simpa using h
  subst this;simp[pad,gG]
 | succ k ih=>
  by_cases hn:n=0
  ·subst hn;rw[gG,pad,ih 0 (Nat.pow_pos (by omega)),gG];simp[F1,List.replicate_succ]
  ·rw[pad,gH,dif_neg hn,ih (n/10) (by rw[Nat.pow_succ'] at h;omega)];simp
theorem M7 {n:Nat} (h:n%10≠0):F1 n≠48:=by
 intro e;have:=congrArg UInt8.toNat e;simp[F1] at this;omega
theorem AW {n:Nat} {c:UInt8} (h:(gH n).getLast?=some c):c≠48:=by
 induction n using Nat.strongRecOn with
 | ind n ih=>
  rw[gH] at h;split at h
  ·simp at h
  ·rename_i hn;rw[List.getLast?_cons] at h;by_cases h10:n/10=0
   ·rw[h10,gG] at h;simp at h;subst h;exact M7 (by omega)
   ·have:gH (n/10)≠[]:=by rw[gH,dif_neg h10];simp
    obtain⟨z,hz⟩:∃z,(gH (n/10)).getLast?=some z:=by
     cases hh:(gH (n/10)).getLast? with
     | none=>rw[List.getLast?_eq_none_iff] at hh;exact absurd hh this
     | some z=>exact⟨z,rfl⟩
    rw[hz] at h;simp at h;subst h;exact ih (n/10) (by omega) hz
theorem jQ (k:Nat) (l:List UInt8) (h:l.head?≠some 48):Lib.trimLeftB (List.replicate k 48++l) 48=l:=by
 induction k with
 | zero=>
  cases l with
  | nil=>rfl
  | cons x l=>
   have hx:x≠48:=λe=>h (by rw[e];rfl);simp[Lib.trimLeftB,hx]
 | succ k ih=>
  rw[List.replicate_succ,List.cons_append];simp only[Lib.trimLeftB] at ih ⊢;simpa using ih
theorem zt {k n:Nat} (h:n<10^k):Lib.trimLeftB (pad k n).reverse 48=(gH n).reverse:=by
 rw[C7 k n h,List.reverse_append,List.reverse_replicate];apply jQ;rw[List.head?_reverse];intro e;exact AW e rfl
theorem uz (X k i:Nat) (hi:i<9):F1 (X/10^k%1000000000/10^i)=F1 (X/10^(k+i)):=by
 have e:X/10^(k+i)=X/10^k/10^i:=by rw[Nat.pow_add,Nat.div_div_eq_div_mul]
 rw[e];obtain⟨Y,hY⟩:∃Y,X/10^k=Y:=⟨_,rfl⟩;rw[hY];unfold F1;congr 2
 have h9:1000000000=10^i*10^(9-i):=by rw[<-Nat.pow_add,show i+(9-i)=9 by omega]
 rw[h9,Nat.mod_mul_right_div_self];have h10:10∣10^(9-i):=⟨10^(8-i),by rw[<-Nat.pow_succ',show(8-i).succ=9-i by omega]⟩;exact Nat.mod_mod_of_dvd _ h10
theorem RS.byteCells {S:Nat->Prop} {w:World} {n c:Nat} {xs:List UInt8} {b o:Nat} (h:RS w S (some ⟨b,o,none⟩) n c xs):∀j (hj:j<xs.length),w.cell? ((⟨b,o,none⟩:Addr).add j)=some (.int .u8 (xs[j].toNat:Int)):=by
 intro j hj;obtain⟨b',o',x,e,_,hx,hc⟩:=h.byte_at (k:=j) (by rw[<-h.len];exact hj);injection e with e;injection e with e1 e2
 subst e1 e2;have hp:(⟨b,o,none⟩:Addr).add j=⟨b,o+j,none⟩:=by unfold Addr.add;split<;>simp_all
 rw[hp,hc];rw[List.getElem?_eq_getElem hj] at hx;injection hx with hx
 rw[hx]
theorem uw {P:Program} {s t e:TypeId} (hs:P.underlying s=some (.slice e)) (he:P.underlying e=some (.int .u8)) (ht:P.underlying t=some .string) {S:Nat->Prop} {w:World} {A:Option Addr} {n c:Nat} {xs:List UInt8} (h:RS w S A n c xs):(convert s t (.slice A n c)).run P w=.ok (.string ⟨xs.toArray⟩) w:=by
 cases A with
 | none=>
  have hn:n=0:=by
   rcases Nat.eq_zero_or_pos n with h0|h0
   ·exact h0
   ·obtain⟨b,o,e,_⟩:=h.2.2.2 h0;cases e
  subst hn;rw[List.eq_nil_of_length_eq_zero h.1.symm];exact run_convert_bytes_nil w s e hs he 0 c _ ht
 | some a=>
  rcases Nat.eq_zero_or_pos n with h0|h0
  ·subst h0;have hx:xs=[]:=List.eq_nil_of_length_eq_zero h.1.symm;subst hx;have q:=run_convert_bytes_back (P:=P) w s t e a c [] hs he ht (λj hj=>absurd hj (Nat.not_lt_zero _));rw[List.length_nil] at q;exact q
  ·obtain⟨b,o,e,_⟩:=h.2.2.2 h0;cases e
   have:=run_convert_bytes_back w s t _ ⟨b,o,none⟩ c xs hs he ht h.byteCells;rw[h.len] at this;exact this
theorem Tryz.bytesTy:dO Tryz.prog 43 5 1 1:=dO.mk' (z:=.int .u8 0) Tryz.underlying43 (by kernel_rfl) rfl (by omega)
theorem OM (s:Nat):IntKind.u8.wrap (s:Int)=((UInt8.ofNat s).toNat:Int):=by
 rw[IntKind.wrap_u8,UInt8.toNat_ofNat'];omega
theorem Gk {S:Nat->Prop} {w:World} {A:Option Addr} {n c:Nat} {xs:List UInt8} (h:RS w S A n c xs):(convert 43 9 (.slice A n c)).run Tryz.prog w=.ok (.string ⟨xs.toArray⟩) w:=uw Tryz.underlying43 Tryz.underlying5 Tryz.underlying9 h
theorem xq {S:Nat->Prop} {A:Option Addr} {n c:Nat} {xs:List (BitVec 32)} {w:World} (h:RS w S A n c xs) (hS:∀b,S b->b<w.heap.size) (hn:n<=536870912) : Calls Tryz.prog 173 #[.slice A n c] w (jz w (.string ⟨(cz (val xs)).toArray⟩)):=by
 have hl:=bR xs;have hlen:=aR xs;have jt:=h.len;have H:=zH h;obtain⟨l,oU⟩:∃l,bA xs=l:=⟨_,rfl⟩;obtain⟨X,hX⟩:∃X,val xs=X:=⟨_,rfl⟩;rw[oU] at hl hlen;rw[hX] at hl;rw[hX];have ZK:X<4294967296^n:=by
  rw[<-hX,<-jt];exact cE xs
 have HXB:=zH ZK;have HT:=zH oU;have HL:=zH hl;clear h hl oU hX ZK;go_enter Tryz.func173,Tryz.ntmps173;go_wp2_with fail;refine(cy H.out).mono ?_;rintro e w' ⟨A3,n3,c3,rfl,hr,rfl⟩;rw[HT.out] at hr;have hl3:=hr.len;have kE:n3<=536870912:=by omega
 have HR:=zH hr;have qw:=zH hl3;clear hr hl3 hlen jt;rcases Nat.eq_zero_or_pos n3 with h0|h0
 ·subst h0;have ju:X=0:=du.1 (by rw[HL.out];exact RS.nil_of' HR.out);subst ju;go_wp2_with fail;go_ret
  exact⟨by simp[cz],Below.refl _ _⟩
 ·have hb0:((n3:Int)==0)=false:=by rw[beq_eq_false_iff_ne];omega
  have ju:X≠0:=by
   intro e;have:=qw.out;rw[<-HL.out,e,bU] at this;simp at this;omega
  have RB:=zH ju;clear ju;go_wp2_with fail;go_loopg [0,3] X (λg va vo wr=>∃(k:Nat) (A:Option Addr) (n c:Nat) (Sa:Nat->Prop),va=.slice A n c/\n<=536870912/\RS wr Sa A n c (bC g)/\(∀b,Sa b->b<wr.heap.size/\some b≠vo.ownBlock)/\g=X/10^k/\k<=6442450944/\ Own wr ba w.heap.size 5 vo (pad k X)/\Below w.heap.size w wr)
  case atStart=>exact⟨0,A3,n3,c3,S,rfl,kE,by rw[HL.out];exact HR.out,λb hb=>⟨hS b hb,by simp[Value.ownBlock]⟩,by simp,by omega,Own.nil _ _ _,Below.refl _ _⟩
  case round=>
   clear HR qw hb0 h0;obtain⟨k,A4,n4,c4,Sa,rfl,ud,U9,Zb,hg,hk,ho,hb⟩:=hrel;obtain⟨Ao,no,co,rfl,It⟩:=ho.slice;rw[jT] at It;have abR:no<=6442450944:=by omega
   have jn:=zH U9;have HSA:=zH Zb;have HG:=zH hg;have HO:=zH ho;have HB:=zH hb;have u3:=zH U9.len;clear U9 Zb hg ho hb It;rcases Nat.eq_zero_or_pos n4 with h0|h0
   ·subst h0;have hg0:gk=0:=du.1 (RS.nil_of' jn.out);have hlt:X<10^k:=by
     have h1:=HG.out;rw[hg0] at h1;exact(Nat.div_eq_zero_iff_lt (Nat.pow_pos (by omega))).1 h1.symm
    have cM:=zt hlt;have Zw:cz X=(gH X).reverse:=by unfold cz;rw[if_neg RB.out]
    have oy:=zH cM;have HDT:=zH Zw;clear hg0 hlt cM Zw;go_wp2_with fail;refine(tq HO.out HB.out (Nat.le_refl _) (by omega)).mono ?_;rintro e w5 ⟨rfl,NX,Bu⟩;have Zz:=Gk NX.rs8;have Ts:=zH Bu;obtain⟨st,gX⟩:∃st:ByteArray,⟨(pad k X).reverse.toArray⟩=st:=⟨_,rfl⟩;rw[gX] at Zz;have dh:st.data.toList=(pad k X).reverse:=by rw[<-gX]
    have XC:=zH dh;clear NX Bu gX dh;go_wp2_with fail;refine(Tryz.strings_TrimLeft_one st 48 (by decide) w5).mono ?_;rintro e w6 ⟨rfl,rfl⟩;rw[XC.out,oy.out,<-HDT.out];go_wp2_with fail;go_ret
    exact⟨rfl,Ts.out⟩
   ·have VE:gk≠0:=by
     intro e;have:=u3.out;rw[e,bU] at this;simp at this;omega
    have SI:3*k<32*n:=by
     refine kJ (X:=X) ?_ HXB.out;have h1:=HG.out;rcases Nat.lt_or_ge X (10^k) with h|h
     ·rw[Nat.div_eq_of_lt h] at h1;exact absurd h1 VE
     ·exact h
    have HGK:=zH VE;clear VE;go_wp2_with fail;refine(o9 1000000000 jn.out (λb hb=>(HSA.out b hb).1) (by omega) (by omega) (by omega)).mono ?_;rintro e w2 ⟨sq,qs,rfl,ua,Mb,sT,bQ⟩;rw[aM] at Mb;rw[aM];obtain⟨r,hr⟩:∃r,gk%1000000000=r:=⟨_,rfl⟩;rw[hr];have Bl:=zH hr;clear hr;obtain⟨Aq,nq,cq,rfl,J4⟩:=ua.slice;rw[sT] at J4;subst J4;obtain⟨lo,mz⟩:∃x,wr.heap.size=x:=⟨_,rfl⟩;have Tr:=zH mz;rw[mz] at ua;have HRQ:=zH (ua.rs (S':=λb=>lo<=b/\b<w2.heap.size) (λ_ h=>h.elim) (λ_ h1 h2=>⟨h1,h2⟩));have To:=zH Mb;have zh:=zH sT;have BB:=zH (HO.out.below bQ);have HOL:=zH (HO.out.lt);have fM:=zH (ah HB.out bQ);clear ua Mb sT bQ mz;go_wp2_with fail;refine(cy HRQ.out).mono ?_;rintro e w' ⟨A5,n5,c5,rfl,Bt,rfl⟩;rw[<-bR,To.out] at Bt;have hn5:n5<=536870912:=by
     have h1:=aR qs;rw[<-bR,To.out,Bt.len,zh.out] at h1;omega
    have Nz:=zH Bt;clear Bt;go_wp2_with fail;go_loopw [3,5,21] (λvo rv iv wx=>∃(i rr:Nat),i<=9/\iv=.int .i64 i/\rv=.int .u64 rr/\rr=r/10^i/\rr<1000000000/\RS wx (λb=>lo<=b/\b<w2.heap.size) A5 n5 c5 (bC (gk/1000000000))/\(∀g,vo.ownBlock=some g->¬(lo<=g/\g<w2.heap.size))/\ w2.heap.size<=wx.heap.size/\Own wx ba w.heap.size 5 vo (pad (k+i) X)/\Below w.heap.size w wx)
     (λ_ _ iv _=>9-(intOf iv).toNat)
    case atStart=>
     refine⟨0,r,by omega,rfl,rfl,by simp,by rw[<-Bl.out];exact Nat.mod_lt _ (by omega),Nz.out,λg hg=>?_,Nat.le_refl _,BB.out,fM.out⟩;have:=HOL.out g hg;have:=Tr.out;omega
    case round=>
     clear HRQ BB fM Nz HOL HO;obtain⟨i,rr,hi,rfl,rfl,Ir,AA,Bt,J2,hsz,ho,hb⟩:=hrel;obtain⟨Ax,nx,cx,rfl,Vp⟩:=ho.slice;rw[jT] at Vp;have Nz:=zH Bt;have Xy:=zH J2;have HO:=zH ho;have HB:=zH hb;have HRX:=zH Ir;have HNX:=zH Vp;clear Bt J2 ho hb Ir Vp;by_cases hlt:i<9
     ·obtain⟨d,hd⟩:∃d,rr%10=d:=⟨_,rfl⟩;obtain⟨r2,DZ⟩:∃d,rr/10=d:=⟨_,rfl⟩;have N7:(rr:Int).tmod 10=(d:Int):=by rw[<-hd];rfl
      have IA:(rr:Int)%10=(d:Int):=by rw[<-hd];rfl
      have D1:(rr:Int).tdiv 10=(r2:Int):=by rw[<-DZ];rfl
      have AB:(rr:Int)/10=(r2:Int):=by rw[<-DZ];rfl
      have SN:d<10:=by omega
      have Va:r2<1000000000:=by omega
      obtain⟨s,hs⟩:∃s,48+d=s:=⟨_,rfl⟩;have jk:48+(d:Int)=(s:Int):=by omega
      have FS:s<58:=by omega
      have pQ:=OM s;obtain⟨y,hy⟩:∃y,UInt8.ofNat s=y:=⟨_,rfl⟩;rw[hy] at pQ;have J1:F1 (X/10^(k+i))=y:=by
       rw[<-uz X k i hlt,<-HG.out,Bl.out,<-HRX.out,<-hy,<-hs,<-hd];rfl
      have Qc:r2=r/10^(i+1):=by rw[<-DZ,HRX.out,Nat.div_div_eq_div_mul,Nat.pow_succ]
      have Tl:=zH J1;have zg:=zH Qc;clear hd DZ hs hy J1 Qc;go_wp2_with (at_builtin; refine ki (α:=UInt8) (w0:=w) (B:=w.heap.size) (base:=w.heap.size) rfl _ _ 43 rfl 1 Tryz.bytesTy rfl HO.out HB.out (Nat.le_refl _) HB.out.size [.int .u8 (y.toNat:Int)] y 1 rfl rfl 5 (by simp[Value.oneCell']) (by rw[jT];omega) ?_; intro v4 w4 hown4 ud hg4 hl4; have RN:=zH hown4; have Jx:=zH ud; have HG4:=zH hg4; have X2:Hid (v4.ownBlock=(Value.slice Ax nx cx).ownBlock\/v4.ownBlock=some (wr.heap.size+1)):=zH hl4; clear hown4 ud hg4 hl4);go_roundw
      case rel=>
       have UX:=HG4.out.size;have nJ:af (λb=>lo<=b/\b<w2.heap.size) wr (wr.alloc (.cells [Value.int .u8 (y.toNat:Int)].toArray 5)):=(af.refl _ _).alloc (λb hb=>Nat.lt_of_lt_of_le hb.2 hsz) _;have fb:af (λb=>lo<=b/\b<w2.heap.size) (wr.alloc (.cells [Value.int .u8 (y.toNat:Int)].toArray 5)) w4:=(af.grown HG4.out).sub λb hb=>⟨by simp;omega,λe=>Xy.out b e.symm hb⟩;refine⟨i+1,r2,by omega,by go_num,rfl,zg.out,Va,Nz.out.keep (λ_ h=>h) (nJ.trans fb),λg hg=>?_,by simp at UX;omega,?_,Jx.out⟩
       ·rcases X2.out with h|h
        ·exact Xy.out g (by rw[<-h];exact hg)
        ·rw[h] at hg;injection hg with hg;omega
       ·rw[<-Nat.add_assoc,C6,Tl.out];exact RN.out
      case measure=>simp[intOf];omega
     ·have hi9:i=9:=by omega
      subst hi9;clear hlt;go_wp2_with fail
      go_roundg (gk/1000000000)
      case measure=>exact Nat.div_lt_self (by have:=HGK.out;omega) (by omega)
      case rel=>exact⟨k+9,A5,n5,c5,λb=>lo<=b/\b<w2.heap.size,rfl,hn5,Nz.out,λb hb=>⟨Nat.lt_of_lt_of_le hb.2 hsz,λe=>Xy.out b e.symm hb⟩,by rw[HG.out,Nat.div_div_eq_div_mul,Nat.pow_add],by omega,HO.out,HB.out⟩
end Go.Proofs.YtichkplomldgiaaGreatDoor
