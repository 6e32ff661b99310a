/- Sl2 Nat12 Str Rat1 -/
import Derived.Test.YtjlhbfbdcfajfaaGreatDoorB08
import Derived.Test.YtjlhbfbdcfajfaaGreatDoorB04
import Derived.Lib.OwnBridge
import Derived.Laws.BytesArg
import Derived.Laws.IdiomStrings
import Derived.Test.YtjlhbfbdcfajfaaGreatDoorB02
import Derived.Laws.Rows
namespace Go.Proofs.YtjlhbfbdcfajfaaGreatDoor
open Go.RowKit
def byt (x:UInt8):Value:=.int .u8 (x.toNat:Int)
theorem Flat.bytes_inv {w:World} {S:Nat→Prop} {cs:List Value} {xs:List UInt8} (h:Flat w S cs xs):cs=xs.map byt:=by
 induction h with
 | nil=>rfl
 | @snoc cs ds xs x hf hr ih=>
  have qN:ds=[.int .u8 (x.toNat:Int)]:=hr;rw[ih,qN,List.map_append];rfl
theorem Own.bytes {w:World} {S:Nat→Prop} {base:Nat} {v:Value} {xs:List UInt8} (h:Own w S base 5 v xs):w.ownsRow base 5 1 v xs.length (xs.map byt):=by
 obtain⟨cs,h1,h2,_⟩:=h;rw[←h2.bytes_inv];exact h1
theorem Ua {w:World} {base:Nat} {v:Value} {xs:List UInt8} (h:w.ownsRow base 5 1 v xs.length (xs.map byt)):Own w aA base 5 v xs:=
 ⟨_,h,Flat.bytes xs,fun _ h=>h.elim⟩
theorem Own.rs8 {α:Type} [bG α] {w:World} {base:Nat} {e:TypeId} {A:Option Addr} {n c:Nat} {xs:List α} (h:Own w aA base e (.slice A n c) xs):RS w (fun b=>base≤b∧b<w.heap.size) A n c xs:=h.rs (fun _ h=>h.elim) (fun _ h1 h2=>⟨h1,h2⟩)
theorem Kk {w:World} {base B:Nat} {w0:World} {A:Option Addr} {n c:Nat} {xs:List UInt8} (h:Own w aA base 5 (.slice A n c) xs) (hb:Below B w0 w) (hB:B≤base) (hn:n≤9223372036854775807) : Calls Tryz.prog 131 #[.slice A n c] w fun e w'=>e=.returned (.tuple #[])∧Own w' aA base 5 (.slice A n c) xs.reverse∧Below B w0 w':=by
 obtain⟨A',n',c',hv,GY⟩:=h.slice;injection hv with _ UR _
 subst UR;rcases Nat.eq_zero_or_pos n with h0|h0
 ·subst h0;have hx:xs=[]:=List.length_eq_zero_iff.1 GY.symm;subst hx;refine(AnyE.slices_Reverse_empty Tryz.layRev A c w).mono fun e w' q=>⟨q.1,?_,?_⟩
  ·rw[q.2];exact h
  ·rw[q.2];exact hb
 ·have dA:Value.slice A n c≠.slice none 0 0:=fun e=>by injection e with _ e _;omega
  have xU:=h.bytes;obtain⟨g,cap,hv,hg,_,_,_,_,hH⟩:=Lib.holds_of_ownsRow xU dA;injection hv with e1 e2 e3
  subst e1 e3;have:=AnyE.slices_Reverse Tryz.layRev byt (fun _=>rfl) g 0 c xs w hH (by omega);rw[←GY] at this;refine this.mono ?_;rintro e w' ⟨rfl,q,rfl⟩;refine⟨rfl,?_,Lib.below_putRow hb (by omega)⟩;rw[←GY] at xU;have h2:=Lib.ownsRow_putRow (q:=q) (k:=n) (ys:=xs.reverse) xU (by simpa using GY.symm) (Nat.le_refl _);rw[List.take_of_length_le (by simp;omega)] at h2;refine Ua ?_;rw[List.length_reverse,←GY];exact h2
theorem RS.boolCells {S:Nat→Prop} {w:World} {n c:Nat} {xs:List Bool} {b o:Nat} (h:RS w S (some ⟨b,o,none⟩) n c xs):∀j,j<xs.length→w.cell? ⟨b,o+j,none⟩=some (.bool xs[j]!):=by
 intro j hj;obtain⟨b',o',x,cs,e,_,hx,hr,hc⟩:=h.at_ (k:=j) (by rw[←h.len];exact hj);injection e with e;injection e with e1 e2
 subst e1 e2;have qN:cs=[.bool x]:=hr;subst qN;have D6:xs[j]! = x:=by
  rw[List.getElem!_eq_getElem?_getD,hx];rfl
 rw[D6];simpa[bG.sz] using hc 0 _ rfl
theorem RS.limbCells {S:Nat→Prop} {w:World} {n c:Nat} {xs:List (BitVec 32)} {b o:Nat} (h:RS w S (some ⟨b,o,none⟩) n c xs):∀j,j<(xs.map fun x=>(x.toNat:Int)).length→w.cell? ⟨b,o+j,none⟩=some (.int .u32 (xs.map fun x=>(x.toNat:Int))[j]!):=by
 intro j hj;rw[List.length_map] at hj;obtain⟨b',o',x,e,_,hx,hc⟩:=h.limb_at (k:=j) (by rw[←h.len];exact hj);injection e with e;injection e with e1 e2
 subst e1 e2;have D6:(xs.map fun x=>(x.toNat:Int))[j]! = (x.toNat:Int):=by
  rw[List.getElem!_eq_getElem?_getD,List.getElem?_map,hx];rfl
 rw[D6];exact hc
theorem YV {S:Nat→Prop} {w:World} {A:Option Addr} {n c:Nat} {xs:List Bool} (h:RS w S A n c xs) (x:Bool):Calls Tryz.prog 101 #[.slice A n c,.bool x] w (gq w (.bool (xs.contains x))):=by
 rcases Nat.eq_zero_or_pos n with rfl|hn
 ·rw[h.nil_of];exact(AnyE.slices_Contains_empty Tryz.layHasB A c (.bool x) w).mono fun e w' h=>⟨by rw[h.1];rfl,h.2.symm⟩
 ·obtain⟨b,o,rfl⟩:=h.some_of hn;have:=AnyE.slices_Contains Tryz.layHasB Value.bool _ (EqlAt.bool _ Tryz.underlying4) b o n c xs x w (by rw[h.len];exact Nat.le_refl _) h.max h.boolCells;rw[List.take_of_length_le (by rw[h.len];exact Nat.le_refl _)] at this;refine this.mono fun e w' q=>⟨?_,q.2.symm⟩;rw[q.1,List.contains_eq_any_beq]
theorem Hu {α:Type} [DecidableEq α]:∀(xs ys:List α),Lib.allEq (fun x y=>x==y) xs ys=decide (xs=ys)
 | [],[]=>by simp[Lib.allEq]
 | [],y::ys=>by simp[Lib.allEq]
 | x::xs,[]=>by simp[Lib.allEq]
 | x::xs,y::ys=>by
  have:=Hu xs ys;simp only[Lib.allEq] at this ⊢;rw[this];by_cases h:x=y<;>by_cases h2:xs=ys<;>simp[h,h2]
theorem GI:∀(xs ys:List (BitVec 32)),(xs.map fun x=>(x.toNat:Int))=(ys.map fun x=>(x.toNat:Int))↔xs=ys
 | [],[]=>by simp
 | [],y::ys=>by simp
 | x::xs,[]=>by simp
 | x::xs,y::ys=>by
  have h1:=GI xs ys;have h2:(x.toNat:Int)=y.toNat↔x=y:=⟨fun h=>BitVec.eq_of_toNat_eq (by omega),fun h=>by rw[h]⟩;simp only[List.map_cons,List.cons.injEq,h1,h2]
theorem Hg {S S2:Nat→Prop} {w:World} {A A2:Option Addr} {n c n2 c2:Nat} {xs ys:List (BitVec 32)} (h:RS w S A n c xs) (h2:RS w S2 A2 n2 c2 ys):Calls Tryz.prog 75 #[.slice A n c,.slice A2 n2 c2] w (zt w (.bool (decide (xs=ys)))):=by
 by_cases UR:n=n2
 ·rcases Nat.eq_zero_or_pos n with h0|h0
  ·subst h0;subst UR;have hx:=h.nil_of;have hy:=h2.nil_of;subst hx hy;go_enter Tryz.func75,Tryz.ntmps75;go_wp2_with fail;refine wp_loop_rounds 1 ?_;repeat any_goals (rw[rounds_succ];go_wp2)
   go_ret
   exact⟨rfl,0,rfl⟩
  ·obtain⟨b,o,rfl⟩:=h.some_of h0;obtain⟨b2,o2,rfl⟩:=h2.some_of (by omega);have:=AnyE.slices_Equal Tryz.layEqN (Value.int .u32) _ (NeqAt.int _ _ .u32) b o n c b2 o2 n2 c2 (xs.map fun x=>(x.toNat:Int)) (ys.map fun x=>(x.toNat:Int)) w (by rw[List.length_map,h.len];exact Nat.le_refl _) (by rw[List.length_map,h2.len];exact Nat.le_refl _) h.max h2.max h.limbCells h2.limbCells;rw[List.take_of_length_le (by rw[List.length_map,h.len];exact Nat.le_refl _),List.take_of_length_le (by rw[List.length_map,h2.len];exact Nat.le_refl _),Hu] at this;refine this.mono fun e w' q=>⟨?_,q.2⟩;rw[q.1];congr 2
   rw[decide_eq_decide];exact GI xs ys
 ·have dA:xs≠ys:=fun e=>by have:=h.len;have:=h2.len;rw[e] at*;omega
  rw[decide_eq_false dA];have hd:((n:Int) !=(n2:Int))=true:=by simp;omega
  have Cn:=h.max;have xR:=h2.max;clear h h2 dA UR;go_enter Tryz.func75,Tryz.ntmps75;go_wp2_with fail;go_ret
  exact⟨rfl,0,rfl⟩
theorem Tryz.bytesTy:cW Tryz.prog 49 5 1 1:=cW.mk' (z:=.int .u8 0) Tryz.underlying49 (by kernel_rfl) rfl (by omega)
theorem Tn (s:Nat):IntKind.u8.wrap (s:Int)=((UInt8.ofNat s).toNat:Int):=by
 rw[IntKind.wrap_u8,UInt8.toNat_ofNat'];omega
theorem RS.byteCells {S:Nat→Prop} {w:World} {n c:Nat} {xs:List UInt8} {b o:Nat} (h:RS w S (some ⟨b,o,none⟩) n c xs):∀j (hj:j<xs.length),w.cell? ((⟨b,o,none⟩:Addr).add j)=some (.int .u8 (xs[j].toNat:Int)):=by
 intro j hj;obtain⟨b',o',x,e,_,hx,hc⟩:=h.byte_at (k:=j) (by rw[←h.len];exact hj);injection e with e;injection e with e1 e2
 subst e1 e2;have hp:(⟨b,o,none⟩:Addr).add j=⟨b,o+j,none⟩:=by unfold Addr.add;split<;>simp_all
 rw[hp,hc];rw[List.getElem?_eq_getElem hj] at hx;injection hx with hx
 rw[hx]
theorem Im {S:Nat→Prop} {w:World} {A:Option Addr} {n c:Nat} {xs:List UInt8} (h:RS w S A n c xs):(convert 49 9 (.slice A n c)).run Tryz.prog w=.ok (.string ⟨xs.toArray⟩) w:=by
 cases A with
 | none=>
  have hn:n=0:=by
   rcases Nat.eq_zero_or_pos n with h0|h0
   ·exact h0
   ·obtain⟨b,o,e⟩:=h.some_of h0;cases e
  subst hn;rw[h.nil_of];exact run_convert_bytes_nil w 49 5 Tryz.underlying49 Tryz.underlying5 0 c _ Tryz.underlying9
 | some a=>
  rcases Nat.eq_zero_or_pos n with h0|h0
  ·subst h0;have hx:=h.nil_of;subst hx;have q:=run_convert_bytes_back (P:=Tryz.prog) w 49 9 5 a c [] Tryz.underlying49 Tryz.underlying5 Tryz.underlying9 (fun j hj=>absurd hj (Nat.not_lt_zero _));rw[List.length_nil] at q;exact q
  ·obtain⟨b,o,e⟩:=h.some_of h0;cases e
   have:=run_convert_bytes_back w 49 9 5 ⟨b,o,none⟩ c xs Tryz.underlying49 Tryz.underlying5 Tryz.underlying9 h.byteCells;rw[h.len] at this;exact this
set_option maxRecDepth 20000 in
set_option maxHeartbeats 2000000 in
theorem OZ {S:Nat→Prop} {A:Option Addr} {n c:Nat} {xs:List (BitVec 32)} {w:World} (h:RS w S A n c xs) (hS:∀b,S b→b<w.heap.size) (hn:n≤536870912) : Calls Tryz.prog 104 #[.slice A n c] w (gy w (.string ⟨(ek (val xs)).toArray⟩)):=by
 have hl:=fH xs;have fL:=ej xs;have sR:=h.len;have H:=zH h;obtain⟨l,hl'⟩:∃l,eO xs=l:=⟨_,rfl⟩;obtain⟨X,hX⟩:∃X,val xs=X:=⟨_,rfl⟩;rw[hl'] at hl fL;rw[hX] at hl;rw[hX];have hXb:X<4294967296^n:=by
  rw[←hX,←sR];exact iU xs
 have HXB:=zH hXb;have HT:=zH hl';have HL:=zH hl;clear h hl hl' hX hXb;go_enter Tryz.func104,Tryz.ntmps104;go_wp2_with fail;refine(js H.out).mono ?_;rintro e w' ⟨A3,n3,c3,rfl,hr,rfl⟩;rw[HT.out] at hr;have hl3:=hr.len;have ey:n3≤536870912:=by omega
 have HR:=zH hr;have vt:=zH hl3;clear hr hl3 fL sR;rcases Nat.eq_zero_or_pos n3 with h0|h0
 ·subst h0;have lJ:X=0:=li.1 (by rw[HL.out];exact RS.nil_of' HR.out);subst lJ;go_wp2_with fail;go_ret
  exact⟨by simp[ek],Below.refl _ _⟩
 ·have hb0:((n3:Int)==0)=false:=by rw[beq_eq_false_iff_ne];omega
  have lJ:X≠0:=by
   intro e;have:=vt.out;rw[←HL.out,e,fD] at this;simp at this;omega
  have Rw:=zH lJ;clear lJ;go_wp2_with fail;go_loopg [0,3] X (fun g va vo wr=>∃(k:Nat) (A:Option Addr) (n c:Nat) (Sa:Nat→Prop),va=.slice A n c∧n≤536870912∧RS wr Sa A n c (fC g)∧(∀b,Sa b→b<wr.heap.size∧some b≠vo.ownBlock)∧g=X/10^k∧k≤6442450944∧ Own wr aA w.heap.size 5 vo (pad k X)∧Below w.heap.size w wr)
  case atStart=>exact⟨0,A3,n3,c3,S,rfl,ey,by rw[HL.out];exact HR.out,fun b hb=>⟨hS b hb,by simp[Value.ownBlock]⟩,by simp,by omega,Own.nil _ _ _,Below.refl _ _⟩
  case round=>
   clear HR vt hb0 h0;obtain⟨k,A4,n4,c4,Sa,rfl,fa,hr4,hsa,hg,hk,ho,hb⟩:=hrel;obtain⟨Ao,no,co,rfl,iR⟩:=ho.slice;rw[xc] at iR;have aBH:no≤6442450944:=by omega
   have px:=zH hr4;have HSA:=zH hsa;have HG:=zH hg;have HO:=zH ho;have HB:=zH hb;have Ic:=zH hr4.len;clear hr4 hsa hg ho hb iR;rcases Nat.eq_zero_or_pos n4 with h0|h0
   ·subst h0;have hg0:gk=0:=li.1 (RS.nil_of' px.out);have bn:X<10^k:=by
     have h1:=HG.out;rw[hg0] at h1;exact(Nat.div_eq_zero_iff_lt (Nat.pow_pos (by omega))).1 h1.symm
    have cJ:=PU bn;have hdt:ek X=(kO X).reverse:=by unfold ek;rw[if_neg Rw.out]
    have ja:=zH cJ;have HDT:=zH hdt;clear hg0 bn cJ hdt;go_wp2_with fail;refine(Kk HO.out HB.out (Nat.le_refl _) (by omega)).mono ?_;rintro e w5 ⟨rfl,NI,mE⟩;have Xl:=Im NI.rs8;have qM:=zH mE;obtain⟨st,db⟩:∃st:ByteArray,⟨(pad k X).reverse.toArray⟩=st:=⟨_,rfl⟩;rw[db] at Xl;have xk:st.data.toList=(pad k X).reverse:=by rw[←db]
    have kE:=zH xk;clear NI mE db xk;go_wp2_with fail;refine(Tryz.strings_TrimLeft_one st 48 (by decide) w5).mono ?_;rintro e w6 ⟨rfl,rfl⟩;rw[kE.out,ja.out,←HDT.out];go_wp2_with fail;go_ret
    exact⟨rfl,qM.out⟩
   ·have hgk:gk≠0:=by
     intro e;have:=Ic.out;rw[e,fD] at this;simp at this;omega
    have jm:3*k<32*n:=by
     refine yZ (X:=X) ?_ HXB.out;have h1:=HG.out;rcases Nat.lt_or_ge X (10^k) with h|h
     ·rw[Nat.div_eq_of_lt h] at h1;exact absurd h1 hgk
     ·exact h
    have HGK:=zH hgk;clear hgk;go_wp2_with fail;refine(Gy 1000000000 px.out (fun b hb=>(HSA.out b hb).1) (by omega) (by omega) (by omega)).mono ?_;rintro e w2 ⟨sq,qs,rfl,FR,hqv,Ea,bY⟩;rw[dj] at hqv;rw[dj];obtain⟨r,hr⟩:∃r,gk%1000000000=r:=⟨_,rfl⟩;rw[hr];have kU:=zH hr;clear hr;obtain⟨Aq,nq,cq,rfl,zG⟩:=FR.slice;rw[Ea] at zG;subst zG;obtain⟨lo,nR⟩:∃x,wr.heap.size=x:=⟨_,rfl⟩;have Bc:=zH nR;rw[nR] at FR;have HRQ:=zH (FR.rs (S':=fun b=>lo≤b∧b<w2.heap.size) (fun _ h=>h.elim) (fun _ h1 h2=>⟨h1,h2⟩));have HQV:=zH hqv;have Fw:=zH Ea;have eX:=zH (HO.out.below bY);have HOL:=zH (HO.out.lt);have bX:=zH (ae HB.out bY);clear FR hqv Ea bY nR;go_wp2_with fail;refine(js HRQ.out).mono ?_;rintro e w' ⟨A5,n5,c5,rfl,KW,rfl⟩;rw[←fH,HQV.out] at KW;have hn5:n5≤536870912:=by
     have h1:=ej qs;rw[←fH,HQV.out,KW.len,Fw.out] at h1;omega
    have Fv:=zH KW;clear KW;go_wp2_with fail;go_loopw [3,5,21] (fun vo rv iv wx=>∃(i rr:Nat),i≤9∧iv=.int .i64 i∧rv=.int .u64 rr∧rr=r/10^i∧rr<1000000000∧RS wx (fun b=>lo≤b∧b<w2.heap.size) A5 n5 c5 (fC (gk/1000000000))∧(∀g,vo.ownBlock=some g→¬(lo≤g∧g<w2.heap.size))∧ w2.heap.size≤wx.heap.size∧Own wx aA w.heap.size 5 vo (pad (k+i) X)∧Below w.heap.size w wx)
     (fun _ _ iv _=>9-(intOf iv).toNat)
    case atStart=>
     refine⟨0,r,by omega,rfl,rfl,by simp,by rw[←kU.out];exact Nat.mod_lt _ (by omega),Fv.out,fun g hg=>?_,Nat.le_refl _,eX.out,bX.out⟩;have:=HOL.out g hg;have:=Bc.out;omega
    case round=>
     clear HRQ eX bX Fv HOL HO;obtain⟨i,rr,hi,rfl,rfl,Fh,CN,KW,JD,lk,ho,hb⟩:=hrel;obtain⟨Ax,nx,cx,rfl,Ed⟩:=ho.slice;rw[xc] at Ed;have Fv:=zH KW;have Zx:=zH JD;have HO:=zH ho;have HB:=zH hb;have Gi:=zH Fh;have Jf:=zH Ed;clear KW JD ho hb Fh Ed;by_cases bn:i<9
     ·obtain⟨d,hd⟩:∃d,rr%10=d:=⟨_,rfl⟩;obtain⟨r2,ri⟩:∃d,rr/10=d:=⟨_,rfl⟩;have Vb:(rr:Int).tmod 10=(d:Int):=by rw[←hd];rfl
      have hd2:(rr:Int)%10=(d:Int):=by rw[←hd];rfl
      have Eb:(rr:Int).tdiv 10=(r2:Int):=by rw[←ri];rfl
      have GX:(rr:Int)/10=(r2:Int):=by rw[←ri];rfl
      have hdl:d<10:=by omega
      have aqW:r2<1000000000:=by omega
      obtain⟨s,hs⟩:∃s,48+d=s:=⟨_,rfl⟩;have jF:48+(d:Int)=(s:Int):=by omega
      have Fg:s<58:=by omega
      have GV:=Tn s;obtain⟨y,hy⟩:∃y,UInt8.ofNat s=y:=⟨_,rfl⟩;rw[hy] at GV;have Nv:Mj (X/10^(k+i))=y:=by
       rw[←LA X k i bn,←HG.out,kU.out,←Gi.out,←hy,←hs,←hd];rfl
      have aiC:r2=r/10^(i+1):=by rw[←ri,Gi.out,Nat.div_div_eq_div_mul,Nat.pow_succ]
      have HYD:=zH Nv;have sW:=zH aiC;clear hd ri hs hy Nv aiC;go_wp2_with (at_builtin; refine aF (α:=UInt8) (w0:=w) (B:=w.heap.size) (base:=w.heap.size) rfl _ _ 49 rfl 1 Tryz.bytesTy rfl HO.out HB.out (Nat.le_refl _) HB.out.size [.int .u8 (y.toNat:Int)] y 1 rfl rfl 5 (by simp[Value.oneCell']) (by rw[xc];omega) ?_; intro v4 w4 hown4 fa hg4 hl4; have qL:=zH hown4; have lH:=zH fa; have HG4:=zH hg4; have avX:Hid (v4.ownBlock=(Value.slice Ax nx cx).ownBlock∨v4.ownBlock=some (wr.heap.size+1)):=zH hl4; clear hown4 fa hg4 hl4);go_roundw
      case rel=>
       have aqA:=HG4.out.size;have dy:aD (fun b=>lo≤b∧b<w2.heap.size) wr (wr.alloc (.cells [Value.int .u8 (y.toNat:Int)].toArray 5)):=(aD.refl _ _).alloc (fun b hb=>Nat.lt_of_lt_of_le hb.2 lk) _;have fM:aD (fun b=>lo≤b∧b<w2.heap.size) (wr.alloc (.cells [Value.int .u8 (y.toNat:Int)].toArray 5)) w4:=(aD.grown HG4.out).sub fun b hb=>⟨by simp;omega,fun e=>Zx.out b e.symm hb⟩;refine⟨i+1,r2,by omega,by go_num,rfl,sW.out,aqW,Fv.out.keep (fun _ h=>h) (dy.trans fM),fun g hg=>?_,by simp at aqA;omega,?_,lH.out⟩
       ·rcases avX.out with h|h
        ·exact Zx.out g (by rw[←h];exact hg)
        ·rw[h] at hg;injection hg with hg;omega
       ·rw[←Nat.add_assoc,TW,HYD.out];exact qL.out
      case measure=>simp[intOf];omega
     ·have hi9:i=9:=by omega
      subst hi9;clear bn;go_wp2_with fail
      go_roundg (gk/1000000000)
      case measure=>exact Nat.div_lt_self (by have:=HGK.out;omega) (by omega)
      case rel=>exact⟨k+9,A5,n5,c5,fun b=>lo≤b∧b<w2.heap.size,rfl,hn5,Fv.out,fun b hb=>⟨Nat.lt_of_lt_of_le hb.2 lk,fun e=>Zx.out b e.symm hb⟩,by rw[HG.out,Nat.div_div_eq_div_mul,Nat.pow_add],by omega,HO.out,HB.out⟩
def SV {α:Type} [bG α] (w:World) (S:Nat→Prop) (v:Value) (x:α):Prop:=∃cs:List Value,v=.agg cs.toArray∧bG.rep w S cs x
section
variable {α:Type} [bG α] {w w':World} {S S':Nat→Prop} {v:Value} {x:α}
theorem SV.keep (h:SV w S v x) (hS:∀b,S b→S' b) (hk:aD S w w'):SV w' S' v x:=by
 obtain⟨cs,e,hr⟩:=h;exact⟨cs,e,bG.keep hr hS hk⟩
theorem SV.below {B:Nat} (h:SV w S v x) (hb:Below B w w') (hS:∀b,S b→b<B):SV w' S v x:=h.keep (fun _ h=>h) ((aD.of_below hb).sub hS)
theorem SV.drew (h:SV w S v x):SV w.drew S v x:=h.keep (fun _ h=>h) (fun _ _=>rfl)
theorem SV.sub (h:SV w S v x) (hS:∀b,S b→S' b):SV w S' v x:=h.keep hS (aD.refl _ _)
end
def gh {α:Type} [bG α] (w:World) (x:α) (e:Ending) (w':World):Prop:=∃v,e=.returned v∧SV w' (bz w w') v x∧Below w.heap.size w w'
theorem fY {B:Nat} {a w:World} {g:Nat} (h:Below B a w) (hg:B≤g):∀(l:List Value) (i:Nat),Below B a (setAll w g i l):=by
 intro l;induction l generalizing w with
 | nil=>intro i;exact h
 | cons v l ih=>intro i;exact ih (h.setCell (by simpa using hg) v) (i+1)
theorem aD.setAll {S:Nat→Prop} {w w1:World} {g:Nat} (h:aD S w w1) (hg:¬S g):∀(l:List Value) (i:Nat),aD S w (setAll w1 g i l):=by
 intro l;induction l generalizing w1 with
 | nil=>intro i;exact h
 | cons v l ih=>intro i;exact ih (h.setCell (p:=⟨g,i,none⟩) hg v) (i+1)
theorem jt {g:Nat}:∀(l:List Value) (i:Nat) (w:World),(setAll w g i l).heap.size=w.heap.size:=by
 intro l;induction l with
 | nil=>intro i w;rfl
 | cons v l ih=>intro i w;rw[Go.Proofs.YtjlhbfbdcfajfaaGreatDoor.setAll,ih];simp
theorem Own.fresh {α:Type} [bG α] {w w':World} {base:Nat} {e:TypeId} {A:Option Addr} {n c:Nat} {xs:List α} (h:Own w' (fun _=>False) base e (.slice A n c) xs) (hb:w.heap.size≤base):RS w' (bz w w') A n c xs:=
 h.rs (fun _ h=>h.elim) (fun _ h1 h2=>⟨Nat.le_trans hb h1,h2⟩)
theorem aK.facts3 {w:World} {g:Nat} {t:TypeId} {a b c:Value} (h:aK w g t #[a,b,c]):w.cell? ⟨g,0,none⟩=some a∧w.cell? ⟨g,1,none⟩=some b∧w.cell? ⟨g,2,none⟩=some c∧w.frozen? ⟨g,0,none⟩=false∧w.frozen? ⟨g,1,none⟩=false∧w.frozen? ⟨g,2,none⟩=false:=
 ⟨h.cell 0,h.cell 1,h.cell 2,h.frozen 0,h.frozen 1,h.frozen 2⟩
theorem bC {α:Type} [bG α] {P:Program} {fn:Func} {p:Tmp} {ty t:TypeId} {d:TypeDesc} {w w2:World} {tmps:Array Value} {defers:List Deferred} {g:Nat} {Hn:Array Value} {cs:List Value} {S:Nat→Prop} {x:α} {R:Ending→World→Prop} (h:fn.results=#[.cell p ty]) (hp:tmps.getD p undef=.pointer (some ⟨g,0,none⟩)) (hg:w.heap.size≤g) (hk:aK w2 g t Hn) (hl:Hn.size=cs.length) (hu:P.underlying ty=some d) (hd:(match d with|.struct _|.array _ _=>true|_=>false)=true) (hi:(P.info? ty).map (·.size)=some cs.length) (hr:bG.rep w2 S cs x) (hS:∀b,S b→bz w w2 b∧b≠g) (hb:Below w.heap.size w w2) (hdf:defers=[]) (hR:gh w x (.returned (.agg cs.toArray)) (setAll w2 g 0 cs)→R (.returned (.agg cs.toArray)) (setAll w2 g 0 cs)) : bodyPost P fn R Exit.ret { tmps:=tmps,defers:=defers } (setAll w2 g 0 cs):=by
 refine bodyPost_ret (results_cell_row h _ _ g t cs.toArray (0,0) d hp (hk.setAll cs hl) hu hd (by simpa using hi)) hdf ?_;refine hR ⟨_,rfl,⟨cs,rfl,bG.keep hr (fun b hb=>?_) ((aD.refl _ _).setAll (fun h=>(hS g h).2 rfl) cs 0)⟩,fY hb hg cs 0⟩;have:=(hS b hb).1;exact⟨this.1,by rw[jt];exact this.2⟩
theorem BE {a b c:World} (h:a.heap.size≤b.heap.size):∀g,bz b c g→bz a c g:=fun _ hg=>⟨Nat.le_trans h hg.1,hg.2⟩
theorem Es {a b c:World} (h:b.heap.size≤c.heap.size):∀g,bz a b g→bz a c g:=fun _ hg=>⟨hg.1,Nat.lt_of_lt_of_le hg.2 h⟩
theorem gh.undrew {α:Type} [bG α] {w:World} {x:α} {e:Ending} {w':World} (h:gh w.drew x e w'):gh w x e w':=by
 obtain⟨v,he,hs,hb⟩:=h;exact⟨v,he,hs,EG hb⟩
theorem EC {α:Type} [bG α] {P:Program} {f:FuncId} {args:Array Value} {w:World} {x:α} (h:Calls P f args w.drew (gh w.drew x)):Calls P f args w.drew (gh w x):=h.mono fun _ _ h=>h.undrew
theorem BI {α:Type} [bG α] {P:Program} {f:FuncId} {args:Array Value} {w:World} {x:α} (h:Calls P f args w.drew.drew (gh w.drew.drew x)):Calls P f args w.drew.drew (gh w x):=h.mono fun _ _ h=>h.undrew.undrew
theorem aK.farAll {w:World} {g g':Nat} {t:TypeId} {cs:Array Value} (h:aK w g t cs) (hg:g≠g'):∀(l:List Value) (i:Nat),aK (Go.Proofs.YtjlhbfbdcfajfaaGreatDoor.setAll w g' i l) g t cs:=by
 intro l;induction l generalizing w with
 | nil=>intro i;exact h
 | cons v l ih=>intro i;exact ih (h.far (p:=⟨g',i,none⟩) hg v) (i+1)
def Up (W w':World):Prop:=Below W.heap.size W w'
theorem Up.out {W w':World} (h:Up W w'):Below W.heap.size W w':=h
theorem Up.start (W:World):Up W W.drew:=(Below.refl _ _).drew
theorem Up.drew {W w1:World} (h:Up W w1):Up W w1.drew:=Below.drew h
theorem Up.more {W w1 w2:World} (h:Up W w1) (k:Below w1.heap.size w1 w2):Up W w2:=ae h k
structure Q where
 neg:Bool
 n:Nat
 d:Nat
def ij (neg:Bool) (X Y:Nat):Q:=if X=0∨Y=0 then⟨false,0,1⟩ else⟨neg,X/Nat.gcd X Y,Y/Nat.gcd X Y⟩
instance:bG Q where
 sz:=3
 rep w S cs q:=∃A n c A2 n2 c2,cs=[.bool q.neg,.slice A n c,.slice A2 n2 c2]∧RS w S A n c (fC q.n)∧RS w S A2 n2 c2 (fC q.d)
 len h:=by obtain⟨A,n,c,A2,n2,c2,rfl,_⟩:=h;rfl
 keep h hS hk:=by
  obtain⟨A,n,c,A2,n2,c2,rfl,h1,h2⟩:=h;exact⟨A,n,c,A2,n2,c2,rfl,h1.keep hS hk,h2.keep hS hk⟩
theorem O5:fC 1=[1#32]:=by
 rw[fC,dif_neg (by omega)];have:(1:Nat)/4294967296=0:=by decide
 rw[this,fD]
theorem OU (w:World):Calls Tryz.prog 134 #[] w (gh w (⟨false,0,1⟩:Q)):=by
 go_enter Tryz.func134,Tryz.ntmps134;go_wp2_with fail;have bd:Below w.heap.size w (w.alloc (.cells #[.bool false,.slice none 0 0,.slice none 0 0] 28)):=(Below.refl _ _).alloc (Nat.le_refl _) _;refine(Iw 1 _ (by omega)).mono ?_;rintro e w2 ⟨v,rfl,ho,hb⟩;obtain⟨A,n,c,rfl,hn⟩:=ho.slice;have hk:aK w2 w.heap.size 28 #[.bool false,.slice none 0 0,.slice none 0 0]:=(aK.new _ _ _).keep hb;have c0:w2.cell? ⟨w.heap.size,0,none⟩=some (.bool false):=hk.cell 0;have c1:w2.cell? ⟨w.heap.size,1,none⟩=some (.slice none 0 0):=hk.cell 1;have c2:w2.cell? ⟨w.heap.size,2,none⟩=some (.slice none 0 0):=hk.cell 2;have f0:=hk.frozen 0;have f1:=hk.frozen 1;have f2:=hk.frozen 2;have HK:=zH hk;have HO:=zH ho.rs8;have HB:=zH (ae bd hb);clear ho hb bd hn hk;go_wp2_with fail;refine bC (x:=(⟨false,0,1⟩:Q)) (cs:=[.bool false,.slice none 0 0,.slice A n c]) rfl rfl (Nat.le_refl _) HK.out rfl Tryz.underlying28 rfl (by kernel_rfl) ⟨none,0,0,A,n,c,rfl,by rw[fD];exact RS.nil _ _,HO.out⟩ (fun b hb=>?_) HB.out rfl id;have h1:=hb.1;simp at h1;exact⟨⟨by omega,hb.2⟩,by omega⟩
theorem atj (X Y:Nat):Nat.gcd X Y≤X∨X=0:=by
 rcases Nat.eq_zero_or_pos X with h|h
 ·exact .inr h
 ·exact .inl (Nat.gcd_le_left Y h)
theorem Qr {xs:List (BitVec 32)} {m k:Nat} (hm:m≤val xs) (hl:xs.length≤k):(fC m).length≤k:=by
 have h1:=kt hm;rw[fH] at h1;have:=ej xs;omega
set_option maxRecDepth 20000 in
set_option maxHeartbeats 2000000 in
theorem IA {S S2:Nat→Prop} {A A2:Option Addr} {n c n2 c2:Nat} {xs ys:List (BitVec 32)} {w:World} (neg:Bool) (h:RS w S A n c xs) (h2:RS w S2 A2 n2 c2 ys) (hS:∀b,S b→b<w.heap.size) (eF:∀b,S2 b→b<w.heap.size) (hn:n≤536870912) (hn2:n2≤536870912) : Calls Tryz.prog 105 #[.bool neg,.slice A n c,.slice A2 n2 c2] w (gh w (ij neg (val xs) (val ys))):=by
 have hl1:=h.len;have hl2:=h2.len;have hA0:∀w':World,Below w.heap.size w w'→RS w' S A n c xs:=fun _ hb=>h.below hb hS;have hB0:∀w':World,Below w.heap.size w w'→RS w' S2 A2 n2 c2 ys:=fun _ hb=>h2.below hb eF;have HA:=zH hA0;have HB:=zH hB0;have hlx:∀m,m≤val xs→(fC m).length≤536870912:=fun m hm=>Qr hm (by omega);have H9:=zH hlx;obtain⟨X,hX⟩:∃X,val xs=X:=⟨_,rfl⟩;obtain⟨Y,hY⟩:∃Y,val ys=Y:=⟨_,rfl⟩;have HX:=zH hX;have HY:=zH hY;rw[hX] at H9;rw[hX,hY];clear h h2 hA0 hB0 hl1 hl2 hlx hX hY;have w0b:Below w.heap.size w (w.alloc (.cells #[.bool false,.slice none 0 0,.slice none 0 0] 28)):=(Below.refl _ _).alloc (Nat.le_refl _) _;have w0k:aK (w.alloc (.cells #[.bool false,.slice none 0 0,.slice none 0 0] 28)) w.heap.size 28 #[.bool false,.slice none 0 0,.slice none 0 0]:=aK.new _ _ _;obtain⟨w1,bj⟩:∃x,w.alloc (.cells #[.bool false,.slice none 0 0,.slice none 0 0] 28)=x:=⟨_,rfl⟩;have jF:w1.heap.size=w.heap.size+1:=by rw[←bj];simp
 rw[bj] at w0b w0k;have dO:=zH bj;have WB:=zH w0b;have WK:=zH w0k;have oh:=zH jF;clear w0b w0k jF bj;go_enter Tryz.func105,Tryz.ntmps105;go_wp2_with fail;rw[dO.out];refine(Px (HA.out _ WB.out) (by omega)).mono ?_;rintro e w' ⟨rfl,rfl⟩;rw[HX.out];by_cases lJ:X=0
 ·subst lJ;have hb0:sJ 0=0:=tR.2 rfl;rw[hb0];have hq:ij neg 0 Y=⟨false,0,1⟩:=by unfold ij;rw[if_pos (.inl rfl)]
  have HQ:=zH hq;clear hb0 hq;go_wp2_with fail;refine(OU w1).mono ?_;rintro e w2 ⟨v,rfl,⟨cs,rfl,hr⟩,hb⟩;obtain⟨A5,n5,c5,A6,n6,c6,rfl,h5,h6⟩:=hr;obtain⟨c0,c1,c2,f0,f1,f2⟩:=(WK.out.keep hb).facts3;have HK:=zH (WK.out.keep hb);have bX:=zH (ae WB.out hb);have H5:=zH h5;have H6:=zH h6;clear h5 h6 hb;go_wp2_with fail;refine bC (x:=(⟨false,0,1⟩:Q)) (S:=bz w1 w2) (cs:=[.bool false,.slice A5 n5 c5,.slice A6 n6 c6]) rfl rfl (Nat.le_refl _) HK.out rfl Tryz.underlying28 rfl (by kernel_rfl) ⟨A5,n5,c5,A6,n6,c6,rfl,H5.out,H6.out⟩ (fun b hb=>?_) bX.out rfl (by rw[HQ.out];exact id);have h1:=hb.1;rw[oh.out] at h1;exact⟨⟨by omega,hb.2⟩,by omega⟩
 ·have hb0:((sJ X:Int)==0)=false:=by rw[beq_eq_false_iff_ne];have:sJ X≠0:=fun e=>lJ (tR.1 e);omega
  obtain⟨bx,jK⟩:∃bx,sJ X=bx:=⟨_,rfl⟩;rw[jK] at hb0;rw[jK];have Rw:=zH lJ;clear jK lJ;go_wp2_with fail;refine(Px (HB.out _ WB.out) (by omega)).mono ?_;rintro e w' ⟨rfl,rfl⟩;rw[HY.out];by_cases pG:Y=0
  ·subst pG;have bd:sJ 0=0:=tR.2 rfl;rw[bd];have hq:ij neg X 0=⟨false,0,1⟩:=by unfold ij;rw[if_pos (.inr rfl)]
   have HQ:=zH hq;clear bd hq;go_wp2_with fail;refine(OU w1).mono ?_;rintro e w2 ⟨v,rfl,⟨cs,rfl,hr⟩,hb⟩;obtain⟨A5,n5,c5,A6,n6,c6,rfl,h5,h6⟩:=hr;obtain⟨c0,c1,c2,f0,f1,f2⟩:=(WK.out.keep hb).facts3;have HK:=zH (WK.out.keep hb);have bX:=zH (ae WB.out hb);have H5:=zH h5;have H6:=zH h6;clear h5 h6 hb;go_wp2_with fail;refine bC (x:=(⟨false,0,1⟩:Q)) (S:=bz w1 w2) (cs:=[.bool false,.slice A5 n5 c5,.slice A6 n6 c6]) rfl rfl (Nat.le_refl _) HK.out rfl Tryz.underlying28 rfl (by kernel_rfl) ⟨A5,n5,c5,A6,n6,c6,rfl,H5.out,H6.out⟩ (fun b hb=>?_) bX.out rfl (by rw[HQ.out];exact id);have h1:=hb.1;rw[oh.out] at h1;exact⟨⟨by omega,hb.2⟩,by omega⟩
  ·have bd:((sJ Y:Int)==0)=false:=by rw[beq_eq_false_iff_ne];have:sJ Y≠0:=fun e=>pG (tR.1 e);omega
   obtain⟨by_,hby⟩:∃bx,sJ Y=bx:=⟨_,rfl⟩;rw[hby] at bd;rw[hby];have YG:0<Nat.gcd X Y:=Nat.gcd_pos_of_pos_left _ (by have:=Rw.out;omega);have hq:ij neg X Y=⟨neg,X/Nat.gcd X Y,Y/Nat.gcd X Y⟩:=by unfold ij;rw[if_neg (fun h=>h.elim Rw.out pG)]
   have vI:Nat.gcd X Y≤X:=Nat.gcd_le_left Y (by have:=Rw.out;omega);have ady:=H9.out _ vI;obtain⟨g,hg⟩:∃g,Nat.gcd X Y=g:=⟨_,rfl⟩;rw[hg] at hq YG vI ady;have HGE:=zH hg;have HQ:=zH hq;have HGP:=zH YG;have xX:=zH ady;clear hby pG hg hq YG vI ady;go_wp2_with fail;refine(aeh (HA.out _ WB.out) (HB.out _ WB.out) (fun b hb=>Nat.lt_of_lt_of_le (hS b hb) WB.out.size) (fun b hb=>Nat.lt_of_lt_of_le (eF b hb) WB.out.size) hn hn2).mono ?_;rintro e w2 ⟨v,rfl,ho,hb⟩;rw[HX.out,HY.out,HGE.out] at ho;obtain⟨Ag,ng,cg,rfl,hng⟩:=ho.slice;have aiR:ng≤536870912:=by have:=xX.out;omega
   have HO:=zH ho;have B2:=zH (ae WB.out hb);have HK:=zH (WK.out.keep hb);have S12:=zH hb.size;clear ho hb hng;go_wp2_with fail;refine(Oi (HA.out _ B2.out) HO.out.rsAll (fun b hb=>Nat.lt_of_lt_of_le (hS b hb) B2.out.size) (fun b hb=>hb) hn aiR).mono ?_;rintro e w3 ⟨vq,vr,rfl,hq,_,hb⟩;rw[HX.out,dj,if_neg (by have:=HGP.out;omega)] at hq;rw[dj];obtain⟨Aq,nq,cq,rfl,zG⟩:=hq.slice;have Cz:=zH hq;have fN:=zH (HO.out.below hb);have B3:=zH (ae B2.out hb);have un:=zH (HK.out.keep hb);have Yp:=hb.size;clear hq hb zG;go_wp2_with fail;refine(Oi (HB.out _ B3.out) fN.out.rsAll (fun b hb=>Nat.lt_of_lt_of_le (eF b hb) B3.out.size) (fun b hb=>hb) hn2 aiR).mono ?_;rintro e w4 ⟨vd,vr2,rfl,hd,_,hb⟩;rw[HY.out,dj,if_neg (by have:=HGP.out;omega)] at hd;rw[dj];obtain⟨Ad,nd,cd,rfl,Mf⟩:=hd.slice;have HD:=zH hd.rs8;have HQ4:=zH (Cz.out.below hb).rs8;have B4:=zH (ae B3.out hb);obtain⟨c0,c1,c2,f0,f1,f2⟩:=(un.out.keep hb).facts3;have Gl:=zH (un.out.keep hb);have S34:=zH (show w2.heap.size≤w3.heap.size from Yp);clear hd hb Mf;go_wp2_with fail;refine bC (x:=ij neg X Y) (S:=fun b=>w2.heap.size≤b∧b<w4.heap.size) (cs:=[.bool neg,.slice Aq nq cq,.slice Ad nd cd]) rfl rfl (Nat.le_refl _) Gl.out rfl Tryz.underlying28 rfl (by kernel_rfl) ⟨Aq,nq,cq,Ad,nd,cd,by rw[HQ.out],by rw[HQ.out];exact HQ4.out,by rw[HQ.out];exact HD.out.sub (fun b hb=>⟨Nat.le_trans S34.out hb.1,hb.2⟩)⟩ (fun b hb=>?_) B4.out rfl id;have h1:=hb.1;have h2:=S12.out;rw[oh.out] at h2;exact⟨⟨by omega,hb.2⟩,by omega⟩
end Go.Proofs.YtjlhbfbdcfajfaaGreatDoor
