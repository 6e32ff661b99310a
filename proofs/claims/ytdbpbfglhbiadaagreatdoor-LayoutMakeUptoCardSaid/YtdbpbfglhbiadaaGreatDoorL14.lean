/- Sch2 Sch3 -/
import Derived.Test.YtdbpbfglhbiadaaGreatDoorL01
import Derived.Test.YtdbpbfglhbiadaaGreatDoorL13
import Derived.Test.YtdbpbfglhbiadaaGreatDoorL05
set_option maxHeartbeats 8000000
set_option maxRecDepth 100000
namespace Go.Proofs.YtdbpbfglhbiadaaGreatDoor
open Go.RowKit
theorem Dv (s:ByteArray) (lo hi:Int) (w:World) (hs:s.size≤17592186044416):Calls Tryz.prog 57 #[.string s,.int .i64 lo,.int .i64 hi] w (jZ w (.bool (dN s lo hi))):=by
 have hq:=Oh s w hs;obtain⟨b,hb⟩:∃b,fQ s.data.toList=b:=⟨_,rfl⟩;rw[hb] at hq;obtain⟨t,ht⟩:∃t:ByteArray,(if b then⟨(Bn s.data.toList).toArray⟩ else⟨#[]⟩)=t:=⟨_,rfl⟩;rw[ht] at hq;have HQ:=zH hq;obtain⟨z,hz⟩:∃z,dN s lo hi=z:=⟨_,rfl⟩;have fL:(b&&(decide (lo≤(s.size:Int))&&decide ((s.size:Int)≤hi)))=z:=by rw[←hb];exact hz
 rw[hz];have HZ:=zH fL;clear hq hb ht hz fL;go_enter Tryz.func57,Tryz.ntmps57;go_wp2_with fail;refine HQ.out.mono ?_;rintro e w2 ⟨rfl,hb⟩;have HB:=zH hb;clear hb;cases b with
 | false=>
  have bm:z=false:=by rw[←HZ.out];rfl
  have dU:=zH bm;clear bm;go_wp2_with fail;go_ret
  exact⟨by rw[dU.out];rfl,HB.out⟩
 | true=>
  by_cases h1:lo≤(s.size:Int)
  ·have d1:(lo≤(s.size:Int))=True:=eq_true h1;by_cases h2:(s.size:Int)≤hi
   ·have bm:z=true:=by rw[←HZ.out,decide_eq_true h1,decide_eq_true h2];rfl
    have dU:=zH bm;have d2:((s.size:Int)≤hi)=True:=eq_true h2;clear bm h1 h2;go_wp2_with fail;go_ret
    exact⟨by rw[dU.out];rfl,HB.out⟩
   ·have bm:z=false:=by rw[←HZ.out,decide_eq_true h1,decide_eq_false h2];rfl
    have dU:=zH bm;have d2:((s.size:Int)≤hi)=False:=eq_false h2;clear bm h1 h2;go_wp2_with fail;go_ret
    exact⟨by rw[dU.out];rfl,HB.out⟩
  ·have bm:z=false:=by rw[←HZ.out,decide_eq_false h1];simp
   have dU:=zH bm;have d1:(lo≤(s.size:Int))=False:=eq_false h1;clear bm h1;go_wp2_with fail;go_ret
   exact⟨by rw[dU.out];rfl,HB.out⟩
theorem Ry {l:List UInt8} (h:iH l=true):Lib.atoi l=some (((Lib.decNat l).getD 0:Nat):Int):=by
 obtain⟨h0,_,h2⟩:=iz h;cases l with
 | nil=>exact absurd rfl h0
 | cons x l=>
  obtain⟨n,hn⟩:=lB (x::l) 0 h2;have hx:=h2 x (by simp);unfold digitB at hx;rw[Bool.and_eq_true,decide_eq_true_iff,decide_eq_true_iff] at hx;have e1:(x==45)=false:=by rw[beq_eq_false_iff_ne];rintro rfl;simp at hx
  have e2:(x==43)=false:=by rw[beq_eq_false_iff_ne];rintro rfl;simp at hx
  have e3:Lib.decNat (x::l)=some n:=by simpa[Lib.decNat] using hn
  unfold Lib.atoi;simp[e1,e2,e3]
theorem Ku (l:List UInt8):decide (0≤Lib.indexByte l 47)=jo l:=by
 rcases jW l with h|⟨k,hk,h1,h2,_⟩
 ·rw[h,(xZ h).2.2];rfl
 ·rw[hk,(sC h1 h2).2.2];simp
theorem Kb {x:UInt8} {l:List UInt8} (h:ke (x::l)=(x::l).length):57<x.toNat:=by
 unfold ke at h;simp only at h;split at h
 ·rename_i hl;unfold gz at hl;rw[Bool.and_eq_true,decide_eq_true_iff,decide_eq_true_iff] at hl;omega
 ·simp at h
theorem Ln {x:UInt8} {l:List UInt8}:iH (x::l)=(iI (x::l)&&(decide (x.toNat≤57)&&!jo (x::l))):=by
 rw[Bool.eq_iff_iff];constructor
 ·intro h;obtain⟨_,_,h2⟩:=iz h;have hn:gI (x::l)=(x::l).length:=by
   unfold iH at h;rw[Bool.and_eq_true,decide_eq_true_iff,decide_eq_true_iff] at h;exact h.2
  have hb:iI (x::l)=true:=by unfold iI;rw[if_neg (by simp),if_pos (.inr hn)]
  have hx:=h2 x (by simp);unfold digitB at hx;rw[Bool.and_eq_true,decide_eq_true_iff,decide_eq_true_iff] at hx;have hc:jo (x::l)=false:=by
   unfold jo;rw[Bool.eq_false_iff];intro hc;have:=h2 _ (List.contains_iff_mem.1 hc);simp[digitB] at this
  rw[hb,hc,decide_eq_true hx.2];rfl
 ·intro h;simp only[Bool.and_eq_true,decide_eq_true_iff,Bool.not_eq_true'] at h;obtain⟨h1,h2,h3⟩:=h;unfold iI at h1;rw[if_neg (by simp)] at h1;split at h1
  ·rename_i hw;rcases hw with hw|hw
   ·have:=Kb hw;omega
   ·unfold iH;rw[decide_eq_true hw];simp
  ·rw[h3] at h1;simp at h1
theorem YY (s:ByteArray) (w:World) (hs:s.size≤9223372036854775807):Calls Tryz.prog 196 #[.string s] w (jZ w (.tuple #[.int .i64 (ck s.data.toList).1,.bool (ck s.data.toList).2])):=by
 have hb:=JQ s w hs;by_cases h0:s=⟨#[]⟩
 ·subst h0;have Qo:iI (⟨#[]⟩:ByteArray).data.toList=false:=rfl;rw[Qo] at hb;have HB:=zH hb;clear hb Qo;go_enter Tryz.func196,Tryz.ntmps196;go_wp2_with fail;refine HB.out.mono ?_;rintro e w2 ⟨rfl,hb⟩;have fg:=zH hb;clear hb;go_wp2_with fail;go_ret2
  exact⟨rfl,fg.out⟩
 ·have PM:0<s.size:=by
   rcases Nat.eq_zero_or_pos s.size with h|h
   ·exact absurd (ByteArray.ext (Array.eq_empty_of_size_eq_zero h)) h0
   ·exact h
  have hx:=str_at PM;obtain⟨x,nS⟩:∃x,s[0]=x:=⟨_,rfl⟩;rw[nS] at hx;obtain⟨l,hl⟩:∃l,s.data.toList=x::l:=by
   cases hd:s.data.toList with
   | nil=>rw[hd] at hx;cases hx
   | cons y l=>rw[hd] at hx;simp at hx;subst hx;exact⟨l,rfl⟩
  have hni:=@Ln x l;rw[←hl] at hni;obtain⟨b,gD⟩:∃b,iI s.data.toList=b:=⟨_,rfl⟩;obtain⟨r,hr⟩:∃r,ck s.data.toList=r:=⟨_,rfl⟩;have hnp:r=if iH s.data.toList then((((Lib.decNat s.data.toList).getD 0:Nat):Int),true) else(0,false):=by rw[←hr];rfl
  rw[gD] at hb hni;rw[hr];have hc:∀w,Calls Tryz.prog 231 #[.string s,.string ⟨#[47]⟩] w (gW w (.bool (jo s.data.toList))):=fun w=>
   (Tryz.strings_Contains_one s 47 w).mono fun e w' h=>⟨by rw[h.1,Ku],h.2.symm⟩
  obtain⟨n,hn⟩:∃n,x.toNat=n:=⟨_,rfl⟩;have hn2:n<256:=by rw[←hn];exact x.toNat_lt
  rw[hn] at hni;obtain⟨c,hcc⟩:∃c,jo s.data.toList=c:=⟨_,rfl⟩;rw[hcc] at hc hni;have lU:iH s.data.toList=true→∀w,Calls Tryz.prog 232 #[.string s] w (jZ w (.tuple #[.int .i64 (((Lib.decNat s.data.toList).getD 0:Nat):Int),.nilIface])):=fun h w=>by
   refine(Tryz.strconv_Atoi s _ (by have:=(iz h).2.1;rw[dC] at this;omega) (Ry h) w).mono ?_;rintro e w' ⟨h1,t,rfl⟩;exact⟨h1,⟨rfl,rfl,rfl,by rw[Lib.bytesWorld_size];exact Nat.le_succ _,fun k hk=>Lib.bytesWorld_at_old w _ t k hk⟩⟩
  have HB:=zH hb;have HNI:=zH hni;have HNP:=zH hnp;have HC:=zH hc;have HAT:=zH lU;clear hb hni hnp hc lU gD hr hcc hx hl h0;go_enter Tryz.func196,Tryz.ntmps196;go_wp2_with fail;refine HB.out.mono ?_;rintro e w2 ⟨rfl,cm⟩;have fg:=zH cm;clear cm;cases b with
  | false=>
   have GD:r=(0,false):=by rw[HNP.out,if_neg (by rw[HNI.out];simp)]
   have Wa:=zH GD;clear GD;go_wp2_with fail;go_ret2
   exact⟨by rw[Wa.out];rfl,fg.out⟩
  | true=>
   by_cases h57:n≤57
   ·have d57:(57<(n:Int))=False:=eq_false (by omega);cases c with
    | true=>
     have GD:r=(0,false):=by rw[HNP.out,if_neg (by rw[HNI.out];simp)]
     have Wa:=zH GD;clear GD h57;go_wp2_with fail;refine(HC.out _).mono ?_;rintro e w' ⟨rfl,rfl⟩;go_wp2_with fail;go_ret2
     exact⟨by rw[Wa.out];rfl,fg.out⟩
    | false=>
     have dj:iH s.data.toList=true:=by rw[HNI.out,decide_eq_true h57];rfl
     have GD:r=((((Lib.decNat s.data.toList).getD 0:Nat):Int),true):=by rw[HNP.out,if_pos dj]
     have lU:=HAT.out dj;obtain⟨m,hm⟩:∃m,(Lib.decNat s.data.toList).getD 0=m:=⟨_,rfl⟩;rw[hm] at GD lU;have Wa:=zH GD;have HA:=zH lU;clear GD h57 dj lU hm;go_wp2_with fail;refine(HC.out _).mono ?_;rintro e w' ⟨rfl,rfl⟩;go_wp2_with fail;refine(HA.out _).mono ?_;rintro e w3 ⟨rfl,kR⟩;have mM:=zH (ao fg.out kR);clear kR;go_wp2_with fail;go_quiet (fail)
     go_wp2_with fail;go_ret2
     exact⟨by rw[Wa.out];rfl,below_drewN mM.out _⟩
   ·have GD:r=(0,false):=by rw[HNP.out,if_neg (by rw[HNI.out,decide_eq_false h57];simp)]
    have d57:(57<(n:Int))=True:=eq_true (by omega);have Wa:=zH GD;clear GD h57;go_wp2_with fail;go_ret2
    exact⟨by rw[Wa.out];rfl,fg.out⟩
theorem Ug {S:Nat→Prop} {A:Option Addr} {n c:Nat} {xs:List ByteArray} {w:World} (ig:Int) (h:RS w S A n c xs) (hS:∀b,S b→b<w.heap.size) (hs:∀s∈xs,dR s) : Calls Tryz.prog 147 #[.slice A n c,.int .i64 ig] w (jZ w (.int .i64 (db xs ig))):=by
 have hm:=h.max;have H:=zH h;have HL:=zH h.len;have HSA:=zH hs;obtain⟨z,hz⟩:∃z,db xs ig=z:=⟨_,rfl⟩;have fL:z=if xs=[] then 7 else fp ig [] xs:=hz.symm
 rw[hz];have HZ:=zH fL;clear h hs hz fL;go_enter Tryz.func147,Tryz.ntmps147;rcases Nat.eq_zero_or_pos n with h0|h0
 ·subst h0;have bm:z=7:=by rw[HZ.out,if_pos (List.length_eq_zero_iff.1 HL.out)]
  have dU:=zH bm;clear bm;go_wp2_with fail;go_ret
  exact⟨by rw[dU.out];rfl,Below.refl _ _⟩
 ·have hb0:((n:Int)==0)=false:=by rw[beq_eq_false_iff_ne];omega
  have fF:z=fp ig [] xs:=by
   rw[HZ.out,if_neg];intro e;have:=HL.out;rw[e] at this;simp at this;omega
  have ku:=zH fF;clear fF;go_wp2_with fail;go_loopw [12] (fun iv wr=>∃k:Nat,iv=.int .i64 k∧k≤n∧z=fp ig (xs.take k) (xs.drop k)∧Below w.heap.size w wr) (fun iv _=>n-(intOf iv).toNat)
  case atStart=>exact⟨0,rfl,Nat.zero_le _,by simpa using ku.out,Below.refl _ _⟩
  case round=>
   clear ku HZ;obtain⟨k,rfl,hk,Gz,hb⟩:=hrel;have RO:=zH Gz;have HB:=zH hb;have HR:=zH (H.out.below hb hS);clear Gz hb;by_cases hlt:k<n
   ·have jX:(k:Int)<(n:Int):=by omega
    have PY:(k:Int)≤(c:Int):=by have:=H.out.cap;omega
    have PX:k≤c:=by omega
    obtain⟨b,o,x,rfl,_,hx,e1⟩:=HR.out.str_at hlt;have hxm:x∈xs:=List.mem_of_getElem? hx;have hp:=Dv x 1 24 wr (HSA.out x hxm);have W9:=LW hx;have Fv:(xs.take k).length=k:=by rw[List.length_take,HL.out];omega
    have Gz:z=if(k:Int)=ig then 7 else if dN x 1 24=false then 8 else if Lib.containsS (xs.take k) x then 3 else fp ig (xs.take (k+1)) (xs.drop (k+1)):=by
     rw[RO.out,W9,fp,Fv,js hx]
    obtain⟨pb,nT⟩:∃pb,dN x 1 24=pb:=⟨_,rfl⟩;obtain⟨cb,LC⟩:∃cb,Lib.containsS (xs.take k) x=cb:=⟨_,rfl⟩;rw[nT] at hp;rw[nT,LC] at Gz;have HP:=zH hp;have RX:=zH Gz;have HCB:=zH LC;clear hp Gz hx W9 Fv nT LC hxm;by_cases h1:(k:Int)=ig
    ·have hq:((k:Int)==ig)=true:=by rw[beq_iff_eq];exact h1
     have bm:z=7:=by rw[RX.out,if_pos h1]
     have dU:=zH bm;clear bm h1;go_wp2_with fail;go_ret
     exact⟨by rw[dU.out];rfl,HB.out⟩
    ·have hq:((k:Int)==ig)=false:=by rw[beq_eq_false_iff_ne];exact h1
     have iO:=RX.out;rw[if_neg h1] at iO;have Wh:=zH iO;clear iO h1;go_wp2_with fail;refine HP.out.mono ?_;rintro e w2 ⟨rfl,cm⟩;have fg:=zH (ao HB.out cm);clear cm;cases pb with
     | false=>
      have bm:z=8:=by rw[Wh.out,if_pos rfl]
      have dU:=zH bm;clear bm;go_wp2_with fail;go_ret
      exact⟨by rw[dU.out];rfl,fg.out⟩
     | true=>
      have hc:=sG ((H.out.below fg.out hS).take (k:=k) hk) x;rw[HCB.out] at hc;have HC:=zH hc;clear hc;go_wp2_with fail;refine HC.out.mono ?_;rintro e w' ⟨rfl,rfl⟩;cases cb with
      | true=>
       have bm:z=3:=by rw[Wh.out,if_neg (by simp),if_pos rfl]
       have dU:=zH bm;clear bm;go_wp2_with fail;go_ret
       exact⟨by rw[dU.out];rfl,fg.out⟩
      | false=>
       go_wp2_with fail;go_roundw
       case rel=>exact⟨k+1,by go_num,by omega,by rw[Wh.out,if_neg (by simp),if_neg (by simp)],fg.out⟩
       case measure=>simp[intOf];omega
   ·have gX:k=n:=by omega
    have bm:z=0:=by
     rw[RO.out,List.drop_eq_nil_of_le (by rw[HL.out];omega)];rfl
    have dU:=zH bm;clear bm gX;go_wp2_with fail;go_ret
    exact⟨by rw[dU.out];rfl,HB.out⟩
end Go.Proofs.YtdbpbfglhbiadaaGreatDoor
