/- Lex2 Lex3 -/
import Derived.Test.YtjlhbfbdcfajfaaGreatDoorB12
import Derived.Lib.IndexLaws
namespace Go.Proofs.YtjlhbfbdcfajfaaGreatDoor
open Go.RowKit
def iX (l:List UInt8):List UInt8:=l.takeWhile (· !=47)
def iG (l:List UInt8):List UInt8:=(l.dropWhile (· !=47)).drop 1
def qg (l:List UInt8):Bool:=l.contains 47
theorem sb {p:UInt8→Bool}:∀{l:List UInt8},(∀x∈l,p x=true)→l.takeWhile p=l∧l.dropWhile p=[]
 | [],_=>⟨rfl,rfl⟩
 | x::l,h=>by
  have hx:=h x (by simp);obtain⟨h1,h2⟩:=sb (l:=l) (fun y hy=>h y (by simp[hy]));exact⟨by rw[List.takeWhile_cons,if_pos hx,h1],by rw[List.dropWhile_cons,if_pos hx,h2]⟩
theorem Ex {l:List UInt8} (h:Lib.indexByte l 47= -1):iX l=l∧iG l=[]∧qg l=false:=by
 have h1:=Lib.indexByte_none h;have h2:∀x∈l,(x !=47)=true:=by
  intro x hx;obtain⟨k,hk⟩:=List.getElem?_of_mem hx;rw[bne_iff_ne];rintro rfl;exact h1 k hk
 refine⟨?_,?_,?_⟩
 ·unfold iX;exact(sb h2).1
 ·unfold iG;rw[(sb h2).2];rfl
 ·unfold qg;rw[Bool.eq_false_iff];intro hc;have:=List.contains_iff_mem.1 hc;simpa using h2 _ this
theorem zh:∀{l:List UInt8} {k:Nat},l[k]?=some 47→(∀j,j<k→l[j]?≠some 47)→iX l=l.take k∧iG l=l.drop (k+1)∧qg l=true
 | [],k,h,_=>by simp at h
 | x::l,0,h,_=>by
  simp at h;subst h;simp[iX,iG,qg]
 | x::l,k+1,h,dA=>by
  have hx:(x !=47)=true:=by
   rw[bne_iff_ne];rintro rfl;exact dA 0 (by omega) rfl
  obtain⟨h1,h2,h3⟩:=zh (l:=l) (k:=k) (by simpa using h) (fun j hj=>by have:=dA (j+1) (by omega);simpa using this);unfold iX iG qg at*;refine⟨?_,?_,?_⟩
  ·rw[List.takeWhile_cons,if_pos hx,h1,List.take_succ_cons]
  ·rw[List.dropWhile_cons,if_pos hx,h2,List.drop_succ_cons]
  ·rw[List.contains_cons,h3,Bool.or_true]
theorem LD {s:ByteArray} {l:List UInt8} (h:s.data.toList=l):s=⟨l.toArray⟩:=by
 apply ByteArray.ext;rw[←h]
theorem yU (s:ByteArray) (k:Nat):s.extract 0 k=⟨(s.data.toList.take k).toArray⟩:=by
 apply LD;rw[ByteArray.data_extract];simp
theorem extract_drop (s:ByteArray) (k:Nat):s.extract k s.size=⟨(s.data.toList.drop k).toArray⟩:=by
 apply LD;rw[ByteArray.data_extract,Array.toList_extract];have:s.size=s.data.toList.length:=by simp
 rw[this];simp[List.extract_eq_take_drop];rw[List.take_of_length_le (by simp)]
theorem pE (l:List UInt8):Lib.indexByte l 47= -1∨∃k:Nat,Lib.indexByte l 47=(k:Int)∧l[k]?=some 47∧(∀j,j<k→l[j]?≠some 47)∧k<l.length:=by
 have hge:=Lib.indexByte_ge l 47;by_cases h:Lib.indexByte l 47= -1
 ·exact .inl h
 ·obtain⟨k,hk⟩:∃k:Nat,Lib.indexByte l 47=(k:Int):=⟨(Lib.indexByte l 47).toNat,by omega⟩;obtain⟨h1,h2⟩:=Lib.indexByte_some hk;exact .inr ⟨k,hk,h1,h2,(List.getElem?_eq_some_iff.1 h1).1⟩
theorem Za (s:ByteArray) (w:World) (hs:s.size≤9223372036854775807):Calls Tryz.prog 177 #[.string s,.string ⟨#[47]⟩] w (zt w (.tuple #[.string ⟨(iX s.data.toList).toArray⟩,.string ⟨(iG s.data.toList).toArray⟩,.bool (qg s.data.toList)])):=by
 have hi:=Tryz.stringslite_Index_one s 47 w;rcases pE s.data.toList with h|⟨k,hk,h1,h2,h3⟩
 ·rw[h] at hi;obtain⟨c1,c2,c3⟩:=Ex h;rw[c1,c2,c3];have hss:(⟨s.data.toList.toArray⟩:ByteArray)=s:=rfl;rw[hss];have HI:=zH hi;clear hi h c1 c2 c3 hss;go_enter Tryz.func177,Tryz.ntmps177;go_wp2_with fail;refine HI.out.mono ?_;rintro e w' ⟨rfl,rfl⟩;go_wp2_with fail
  go_ret3
  exact⟨rfl,0,rfl⟩
 ·rw[hk] at hi;obtain⟨c1,c2,c3⟩:=zh h1 h2;rw[c1,c2,c3,←yU,←extract_drop];rw[fo] at h3;have HI:=zH hi;have dy:(k:Int)≤(s.size:Int):=by omega
  have fM:(k:Int)+1≤(s.size:Int):=by omega
  clear hi hk c1 c2 c3 h1 h2;go_enter Tryz.func177,Tryz.ntmps177;go_wp2_with fail;refine HI.out.mono ?_;rintro e w' ⟨rfl,rfl⟩;go_wp2_with fail;go_quiet (fail)
  go_wp2_with fail
  go_ret3
  exact⟨rfl,_,rfl⟩
theorem VT (s:ByteArray) (w:World) (hs:s.size≤9223372036854775807):Calls Tryz.prog 148 #[.string s,.string ⟨#[47]⟩] w (zt w (.tuple #[.string ⟨(iX s.data.toList).toArray⟩,.string ⟨(iG s.data.toList).toArray⟩,.bool (qg s.data.toList)])):=by
 have h:=Za s w hs;obtain⟨a,ha⟩:∃a:ByteArray,⟨(iX s.data.toList).toArray⟩=a:=⟨_,rfl⟩;obtain⟨b,hb⟩:∃a:ByteArray,⟨(iG s.data.toList).toArray⟩=a:=⟨_,rfl⟩;obtain⟨c,hc⟩:∃a,qg s.data.toList=a:=⟨_,rfl⟩;rw[ha,hb,hc] at h ⊢;have H:=zH h;clear h ha hb hc;go_enter Tryz.func148,Tryz.ntmps148;go_wp2_with fail;refine H.out.mono ?_;rintro e w' ⟨rfl,n,rfl⟩;go_wp2_with fail
 go_ret3
 exact⟨rfl,n,rfl⟩
def pq (l:List UInt8):Bool:=
 if l=[] then false
 else if pT l=l.length∨kZ l=l.length then true
 else qg l&&(decide (iX l≠[])&&(decide (iG l≠[])&&(decide (kZ (iX l)=(iX l).length)&&decide (kZ (iG l)=(iG l).length))))
theorem AT (s:ByteArray):(⟨(iX s.data.toList).toArray⟩:ByteArray).size≤s.size:=by
 show(iX s.data.toList).toArray.size≤_;rw[List.size_toArray,←fo];exact(List.takeWhile_sublist _).length_le
theorem AR (s:ByteArray):(⟨(iG s.data.toList).toArray⟩:ByteArray).size≤s.size:=by
 show(iG s.data.toList).toArray.size≤_;rw[List.size_toArray,←fo];have h:=(List.dropWhile_sublist (l:=s.data.toList) (· !=47)).length_le;unfold iG;rw[List.length_drop];omega
theorem Rq (l:List UInt8):(⟨l.toArray⟩:ByteArray).data.toList=l:=rfl
set_option maxHeartbeats 1000000 in
theorem Py (s:ByteArray) (w:World) (hs:s.size≤9223372036854775807):Calls Tryz.prog 120 #[.string s] w (gy w (.bool (pq s.data.toList))):=by
 by_cases h:s=⟨#[]⟩
 ·subst h;go_enter Tryz.func120,Tryz.ntmps120;go_wp2_with fail;go_ret
  exact⟨rfl,Below.refl _ _⟩
 ·have dA:(s.toList==[])=false:=aC (l:=[]) h;have hl0:s.data.toList≠[]:=fun e=>h (LD e);have hw:=S5 s w hs;have hn:=xe s w hs;have hcut:=VT s w hs;obtain⟨x,hx⟩:∃x,pT s.data.toList=x:=⟨_,rfl⟩;obtain⟨y,hy⟩:∃x,kZ s.data.toList=x:=⟨_,rfl⟩;obtain⟨z,hz⟩:∃z,pq s.data.toList=z:=⟨_,rfl⟩;have eh:=hz;unfold pq at eh;rw[if_neg hl0,hx,hy,fo] at eh;rw[hx] at hw;rw[hy] at hn;rw[hz];have HW:=zH hw;have HN:=zH hn;have HZ:=zH eh;clear hw hn hx hy hz hl0 eh;go_enter Tryz.func120,Tryz.ntmps120;go_wp2_with fail;refine HW.out.mono ?_;rintro e w' ⟨rfl,rfl⟩;by_cases h1:x=s.size
  ·have bd:((x:Int)==(s.size:Int))=true:=by rw[beq_iff_eq];omega
   have eQ:z=true:=by rw[←HZ.out,if_pos (.inl h1)]
   have fy:=zH eQ;clear h1 eQ;go_wp2_with fail;go_ret
   exact⟨by rw[fy.out];rfl,Below.refl _ _⟩
  ·have bd:((x:Int)==(s.size:Int))=false:=by rw[beq_eq_false_iff_ne];omega
   go_wp2_with fail;refine HN.out.mono ?_;rintro e w' ⟨rfl,rfl⟩;by_cases h2:y=s.size
   ·have bY:((y:Int)==(s.size:Int))=true:=by rw[beq_iff_eq];omega
    have eQ:z=true:=by rw[←HZ.out,if_pos (.inr h2)]
    have fy:=zH eQ;clear h2 h1 eQ;go_wp2_with fail;go_ret
    exact⟨by rw[fy.out];rfl,Below.refl _ _⟩
   ·have bY:((y:Int)==(s.size:Int))=false:=by rw[beq_eq_false_iff_ne];omega
    have eQ:=HZ.out;rw[if_neg (fun h=>h.elim h1 h2)] at eQ;have ha:=AT s;have hb:=AR s;have Pm:=fun w=>xe ⟨(iX s.data.toList).toArray⟩ w (Nat.le_trans ha hs);have rj:=fun w=>xe ⟨(iG s.data.toList).toArray⟩ w (Nat.le_trans hb hs);obtain⟨a,YN⟩:∃a:ByteArray,⟨(iX s.data.toList).toArray⟩=a:=⟨_,rfl⟩;obtain⟨b,YL⟩:∃a:ByteArray,⟨(iG s.data.toList).toArray⟩=a:=⟨_,rfl⟩;obtain⟨c,YK⟩:∃a,qg s.data.toList=a:=⟨_,rfl⟩;have dT:iX s.data.toList=a.data.toList:=by rw[←YN]
    have qB:iG s.data.toList=b.data.toList:=by rw[←YL]
    rw[YN,YL,YK] at hcut;rw[YN] at Pm ha;rw[YL] at rj hb;rw[dT,qB,YK] at eQ;obtain⟨na,adE⟩:∃n,kZ a.data.toList=n:=⟨_,rfl⟩;obtain⟨nb,adD⟩:∃n,kZ b.data.toList=n:=⟨_,rfl⟩;rw[adE,adD,fo,fo] at eQ;rw[adE] at Pm;rw[adD] at rj;have OP:=zH hcut;have HNA:=zH Pm;have LR:=zH rj;have fy:=zH eQ;clear h1 h2 eQ YN YL YK dT qB adE adD hcut Pm rj;go_wp2_with fail;refine OP.out.mono ?_;rintro e w2 ⟨rfl,m,rfl⟩;cases c with
    | false=>
     have av:z=false:=by rw[←fy.out];rfl
     have bm:=zH av;clear av;go_wp2_with fail;go_ret
     exact⟨by rw[bm.out];rfl,below_drewN (Below.refl _ _) m⟩
    | true=>
     by_cases h3:a=⟨#[]⟩
     ·have av:z=false:=by rw[←fy.out,h3];rfl
      have bm:=zH av;clear av;subst h3;go_wp2_with fail;go_ret
      exact⟨by rw[bm.out];rfl,below_drewN (Below.refl _ _) m⟩
     ·have aCl:(a.toList==[])=false:=aC (l:=[]) h3;have ha4:a.data.toList≠[]:=fun e=>h3 (LD e);by_cases h4:b=⟨#[]⟩
      ·have av:z=false:=by rw[←fy.out,h4];simp
       have bm:=zH av;clear av h3 ha4;subst h4;go_wp2_with fail;go_ret
       exact⟨by rw[bm.out];rfl,below_drewN (Below.refl _ _) m⟩
      ·have aCk:(b.toList==[])=false:=aC (l:=[]) h4;have fa:b.data.toList≠[]:=fun e=>h4 (LD e);have jE:=fy.out;rw[decide_eq_true ha4,decide_eq_true fa] at jE;have iL:=zH jE;clear jE h3 h4 ha4 fa;go_wp2_with fail;refine(HNA.out _).mono ?_;rintro e w' ⟨rfl,rfl⟩;by_cases h5:na=a.size
       ·have mE:((na:Int)==(a.size:Int))=true:=by rw[beq_iff_eq];omega
        go_wp2_with fail;refine(LR.out _).mono ?_;rintro e w' ⟨rfl,rfl⟩;have av:z=((nb:Int)==(b.size:Int)):=by
         rw[←iL.out,decide_eq_true h5];rw[Bool.eq_iff_iff];simp;omega
        have bm:=zH av;clear av h5;go_wp2_with fail;go_ret
        exact⟨by rw[bm.out];rfl,below_drewN (Below.refl _ _) m⟩
       ·have mE:((na:Int)==(a.size:Int))=false:=by rw[beq_eq_false_iff_ne];omega
        have av:z=false:=by rw[←iL.out,decide_eq_false h5];simp
        have bm:=zH av;clear av h5;go_wp2_with fail;go_ret
        exact⟨by rw[bm.out];rfl,below_drewN (Below.refl _ _) m⟩
def F9 (c:UInt8):List UInt8:=if c.toNat=34∨c.toNat=92 then[92,c] else[c]
def yV (l:List UInt8):List UInt8:=l.flatMap F9
def lN (l:List UInt8):Bool:=l.all qp
def Ir (l:List UInt8):List UInt8:=34::yV l++[34]
theorem Rb (l:List UInt8) (c:UInt8):yV (l++[c])=yV l++F9 c:=by simp[yV]
theorem VM (l:List UInt8):(yV l).length≤2*l.length:=by
 induction l with
 | nil=>simp[yV]
 | cons x l ih=>
  have:yV (x::l)=F9 x++yV l:=rfl;rw[this,List.length_append,List.length_cons];have:(F9 x).length≤2:=by unfold F9;split<;>simp
  omega
theorem yg {l:List UInt8} {k:Nat} {x:UInt8} (h:l[k]?=some x):l.take (k+1)=l.take k++[x]:=by rw[List.take_add_one,h];rfl
theorem LG {p:UInt8→Bool} {l:List UInt8} {k:Nat} {x:UInt8} (h:l[k]?=some x):(l.take (k+1)).all p=((l.take k).all p&&p x):=by rw[yg h];simp
theorem I8 {p:UInt8→Bool} {l:List UInt8} {k:Nat} {x:UInt8} (h:l[k]?=some x) (hp:p x=false):l.all p=false:=by
 rw[List.all_eq_false];exact⟨x,List.mem_of_getElem? h,by simp[hp]⟩
theorem Own.lit {α:Type} [bG α] (w:World) (e:TypeId) (vs:List Value) (xs:List α) (hl:vs.length=xs.length) (h1:bG.sz α=1) (hx:xs.length≤maxLen) (hf:Flat (w.alloc (.cells vs.toArray e)) aA vs xs) : Own (w.alloc (.cells vs.toArray e)) aA w.heap.size e (.slice (some ⟨w.heap.size,0,none⟩) xs.length xs.length) xs:=
 ⟨vs,⟨by rw[h1,Nat.mul_one];exact hl,.inr ⟨w.heap.size,xs.length,vs.toArray,rfl,Nat.le_refl _,heap_alloc_new _ _,Nat.le_refl _,hx,by rw[h1,Nat.mul_one];simpa using hl,by rw[h1,Nat.mul_one,←hl];simp⟩⟩,hf,fun _ h=>h.elim⟩
set_option maxRecDepth 20000 in
set_option maxHeartbeats 2000000 in
theorem TF (s:ByteArray) (w:World) (hs:s.size≤17592186044416):Calls Tryz.prog 93 #[.string s] w (gy w (.tuple #[.string (if lN s.data.toList then⟨(Ir s.data.toList).toArray⟩ else⟨#[]⟩),.bool (lN s.data.toList)])):=by
 obtain⟨l,hl⟩:∃l,s.data.toList=l:=⟨_,rfl⟩;have Sr:l.length=s.size:=by rw[←hl];exact fo s
 have kD:∀k (h:k<s.size),l[k]?=some s[k]:=fun k h=>by rw[←hl];exact str_at h
 rw[hl];obtain⟨b,hb⟩:∃b,lN l=b:=⟨_,rfl⟩;obtain⟨t,ht⟩:∃t:ByteArray,(if b then⟨(Ir l).toArray⟩ else⟨#[]⟩)=t:=⟨_,rfl⟩;rw[hb,ht];have ZV:=zH kD;have HLL:=zH Sr;have HB:=zH hb;have HT:=zH ht;clear hl Sr kD hb ht;go_enter Tryz.func93,Tryz.ntmps93;go_wp2_with fail;go_loopw [4,9] (fun vo iv wr=>∃k:Nat,iv=.int .i64 k∧k≤s.size∧(l.take k).all qp=true∧Own wr aA w.heap.size 5 vo (34::yV (l.take k))∧Below w.heap.size w wr) (fun _ iv _=>s.size-(intOf iv).toNat)
 case atStart=>
  exact⟨0,rfl,Nat.zero_le _,rfl,Own.lit w 5 [.int .u8 34] [34] rfl rfl (by decide) (Flat.bytes [34]),(Below.refl _ _).alloc (Nat.le_refl _) _⟩
 case round=>
  obtain⟨k,rfl,hk,bA,ho,xt⟩:=hrel;obtain⟨Ao,no,co,rfl,iR⟩:=ho.slice;have fL:(34::yV (l.take k)).length≤2*k+1:=by
   have:=VM (l.take k);rw[List.length_take] at this;rw[List.length_cons];omega
  have Gq:=zH bA;have HO:=zH ho;have wF:=zH xt;have ew:=zH fL;clear bA ho xt iR fL;by_cases bn:k<s.size
  ·have dK:(k:Int)<(s.size:Int):=by omega
   have hx:=ZV.out k bn;have hp:=Iu s[k] wr;obtain⟨x,rh⟩:∃x,s[k]=x:=⟨_,rfl⟩;rw[rh] at hx hp;obtain⟨c,hc⟩:∃c,qp x=c:=⟨_,rfl⟩;rw[hc] at hp;have HX:=zH hx;have HP:=zH hp;have HC:=zH hc;clear hx hp hc;go_wp2_with fail;refine HP.out.mono ?_;rintro e w' ⟨rfl,rfl⟩;cases c with
   | false=>
    have Vm:b=false:=by rw[←HB.out];exact I8 HX.out HC.out
    have Jh:=zH Vm;have htf:t=⟨#[]⟩:=by rw[←HT.out,Vm];rfl
    have HTF:=zH htf;clear Vm htf;go_wp2_with fail;go_ret2
    exact⟨by rw[Jh.out,HTF.out];rfl,wF.out⟩
   | true=>
    obtain⟨n,hn⟩:∃n,x.toNat=n:=⟨_,rfl⟩;have FP:n<256:=by rw[←hn];exact x.toNat_lt
    have KS:(l.take (k+1)).all qp=true:=by rw[LG HX.out,Gq.out,HC.out];rfl
    have EQ:=zH KS;have Cp:34::yV (l.take (k+1))=(34::yV (l.take k))++F9 x:=by rw[yg HX.out,Rb];rfl
    clear KS;by_cases hq:n=34∨n=92
    ·have he:F9 x=[92,x]:=by unfold F9;rw[hn,if_pos hq]
     rw[he] at Cp;have HES:=zH Cp;have HN:=zH hn;clear he Cp;have Gi:Hid ([Value.int .u8 (n:Int)]=[Value.int .u8 (x.toNat:Int)]):=zH (by rw[HN.out]);rcases hq with rfl|rfl
     ·go_wp2_with (first | (at_builtin; refine aF (α:=UInt8) (w0:=w) (B:=w.heap.size) (base:=w.heap.size) rfl _ _ 49 rfl 1 Tryz.bytesTy rfl HO.out wF.out (Nat.le_refl _) wF.out.size [.int .u8 92] 92 1 rfl rfl 5 (by simp[Value.oneCell']) (by have:=ew.out;omega) ?_; intro v4 w4 hown4 fa hg4 hl4; obtain⟨A4,n4,c4,rfl,hn4⟩:=hown4.slice; have qL:=zH hown4; have lH:=zH fa; clear hown4 fa hg4 hl4 hn4) | (at_builtin; refine aF (α:=UInt8) (w0:=w) (B:=w.heap.size) (base:=w.heap.size) rfl _ _ 49 rfl 1 Tryz.bytesTy rfl qL.out lH.out (Nat.le_refl _) lH.out.size [.int .u8 34] x 1 rfl Gi.out 5 (by simp[Value.oneCell']) (by have:=ew.out;rw[List.length_append];simp only[List.length_singleton];omega) ?_; intro v5 w5 hown4 fa hg4 hl4; obtain⟨A5,n5,c5,rfl,hn4⟩:=hown4.slice; have zw:=zH hown4; have qM:=zH fa; clear hown4 fa hg4 hl4 hn4));go_roundw
      case rel=>exact⟨k+1,by go_num,by omega,EQ.out,by rw[HES.out];simpa using zw.out,qM.out⟩
      case measure=>simp[intOf];omega
     ·go_wp2_with (first | (at_builtin; refine aF (α:=UInt8) (w0:=w) (B:=w.heap.size) (base:=w.heap.size) rfl _ _ 49 rfl 1 Tryz.bytesTy rfl HO.out wF.out (Nat.le_refl _) wF.out.size [.int .u8 92] 92 1 rfl rfl 5 (by simp[Value.oneCell']) (by have:=ew.out;omega) ?_; intro v4 w4 hown4 fa hg4 hl4; obtain⟨A4,n4,c4,rfl,hn4⟩:=hown4.slice; have qL:=zH hown4; have lH:=zH fa; clear hown4 fa hg4 hl4 hn4) | (at_builtin; refine aF (α:=UInt8) (w0:=w) (B:=w.heap.size) (base:=w.heap.size) rfl _ _ 49 rfl 1 Tryz.bytesTy rfl qL.out lH.out (Nat.le_refl _) lH.out.size [.int .u8 92] x 1 rfl Gi.out 5 (by simp[Value.oneCell']) (by have:=ew.out;rw[List.length_append];simp only[List.length_singleton];omega) ?_; intro v5 w5 hown4 fa hg4 hl4; obtain⟨A5,n5,c5,rfl,hn4⟩:=hown4.slice; have zw:=zH hown4; have qM:=zH fa; clear hown4 fa hg4 hl4 hn4));go_roundw
      case rel=>exact⟨k+1,by go_num,by omega,EQ.out,by rw[HES.out];simpa using zw.out,qM.out⟩
      case measure=>simp[intOf];omega
    ·have he:F9 x=[x]:=by unfold F9;rw[hn,if_neg hq]
     rw[he] at Cp;have HES:=zH Cp;have HN:=zH hn;have Gi:Hid ([Value.int .u8 (n:Int)]=[Value.int .u8 (x.toNat:Int)]):=zH (by rw[HN.out]);have Eb:((n:Int)==34)=false:=by rw[beq_eq_false_iff_ne];omega
     have GX:((n:Int)==92)=false:=by rw[beq_eq_false_iff_ne];omega
     clear he Cp hq;go_wp2_with (first | (at_builtin; refine aF (α:=UInt8) (w0:=w) (B:=w.heap.size) (base:=w.heap.size) rfl _ _ 49 rfl 1 Tryz.bytesTy rfl HO.out wF.out (Nat.le_refl _) wF.out.size [.int .u8 (n:Int)] x 1 rfl Gi.out 5 (by simp[Value.oneCell']) (by have:=ew.out;omega) ?_; intro v5 w5 hown4 fa hg4 hl4; obtain⟨A5,n5,c5,rfl,hn4⟩:=hown4.slice; have zw:=zH hown4; have qM:=zH fa; clear hown4 fa hg4 hl4 hn4));go_roundw
     case rel=>exact⟨k+1,by go_num,by omega,EQ.out,by rw[HES.out];exact zw.out,qM.out⟩
     case measure=>simp[intOf];omega
  ·have AJ:k=s.size:=by omega
   have hbt:b=true:=by
    have h1:=Gq.out;rw[AJ,List.take_of_length_le (by rw[HLL.out];exact Nat.le_refl _)] at h1;rw[←HB.out];exact h1
   have W8:t=⟨(Ir l).toArray⟩:=by rw[←HT.out,hbt];rfl
   have hol:34::yV (l.take k)=34::yV l:=by rw[AJ,List.take_of_length_le (by rw[HLL.out];exact Nat.le_refl _)]
   have HBT:=zH hbt;have C1:=zH W8;have HOL:=zH hol;clear AJ hbt W8 hol;go_wp2_with (first | (at_builtin; refine aF (α:=UInt8) (w0:=w) (B:=w.heap.size) (base:=w.heap.size) rfl _ _ 49 rfl 1 Tryz.bytesTy rfl HO.out wF.out (Nat.le_refl _) wF.out.size [.int .u8 34] 34 1 rfl rfl 5 (by simp[Value.oneCell']) (by have:=ew.out;omega) ?_; intro v5 w5 hown4 fa hg4 hl4; obtain⟨A5,n5,c5,rfl,hn4⟩:=hown4.slice; have zw:=zH hown4; have qM:=zH fa; have Xl:=Im hown4.rs8; rw[HOL.out] at Xl; have aCn:(convert 49 9 (.slice A5 n5 c5)).run Tryz.prog w5=.ok (.string t) w5:=(by rw[Xl,C1.out];rfl); clear hown4 fa hg4 hl4 hn4 Xl));go_ret2
   exact⟨by rw[HBT.out];rfl,qM.out⟩
end Go.Proofs.YtjlhbfbdcfajfaaGreatDoor
