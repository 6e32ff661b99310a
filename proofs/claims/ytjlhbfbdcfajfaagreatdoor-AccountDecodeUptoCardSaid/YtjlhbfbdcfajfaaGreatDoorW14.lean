/- Sch2 Sch3 -/
import Derived.Test.YtjlhbfbdcfajfaaGreatDoorW01
import Derived.Test.YtjlhbfbdcfajfaaGreatDoorW13
import Derived.Test.YtjlhbfbdcfajfaaGreatDoorW05
set_option maxHeartbeats 8000000
set_option maxRecDepth 100000
namespace Go.Proofs.YtjlhbfbdcfajfaaGreatDoor
open Go.RowKit
theorem Dn (s:ByteArray) (lo hi:Int) (w:World) (hs:s.size≤17592186044416):Calls Tryz.prog 64 #[.string s,.int .i64 lo,.int .i64 hi] w (jQ w (.bool (dK s lo hi))):=by
 have hq:=NX s w hs;obtain⟨b,hb⟩:∃b,fP s.data.toList=b:=⟨_,rfl⟩;rw[hb] at hq;obtain⟨t,ht⟩:∃t:ByteArray,(if b then⟨(Ba s.data.toList).toArray⟩ else⟨#[]⟩)=t:=⟨_,rfl⟩;rw[ht] at hq;have HQ:=zH hq;obtain⟨z,hz⟩:∃z,dK s lo hi=z:=⟨_,rfl⟩;have fM:(b&&(decide (lo≤(s.size:Int))&&decide ((s.size:Int)≤hi)))=z:=by rw[←hb];exact hz
 rw[hz];have HZ:=zH fM;clear hq hb ht hz fM;go_enter Tryz.func64,Tryz.ntmps64;go_wp2_with fail;refine HQ.out.mono ?_;rintro e w2 ⟨rfl,hb⟩;have HB:=zH hb;clear hb;cases b with
 | false=>
  have bm:z=false:=by rw[←HZ.out];rfl
  have dS:=zH bm;clear bm;go_wp2_with fail;go_ret
  exact⟨by rw[dS.out];rfl,HB.out⟩
 | true=>
  by_cases h1:lo≤(s.size:Int)
  ·have d1:(lo≤(s.size:Int))=True:=eq_true h1;by_cases h2:(s.size:Int)≤hi
   ·have bm:z=true:=by rw[←HZ.out,decide_eq_true h1,decide_eq_true h2];rfl
    have dS:=zH bm;have d2:((s.size:Int)≤hi)=True:=eq_true h2;clear bm h1 h2;go_wp2_with fail;go_ret
    exact⟨by rw[dS.out];rfl,HB.out⟩
   ·have bm:z=false:=by rw[←HZ.out,decide_eq_true h1,decide_eq_false h2];rfl
    have dS:=zH bm;have d2:((s.size:Int)≤hi)=False:=eq_false h2;clear bm h1 h2;go_wp2_with fail;go_ret
    exact⟨by rw[dS.out];rfl,HB.out⟩
  ·have bm:z=false:=by rw[←HZ.out,decide_eq_false h1];simp
   have dS:=zH bm;have d1:(lo≤(s.size:Int))=False:=eq_false h1;clear bm h1;go_wp2_with fail;go_ret
   exact⟨by rw[dS.out];rfl,HB.out⟩
theorem Rt {l:List UInt8} (h:iJ l=true):Lib.atoi l=some (((Lib.decNat l).getD 0:Nat):Int):=by
 obtain⟨h0,_,h2⟩:=iA h;cases l with
 | nil=>exact absurd rfl h0
 | cons x l=>
  obtain⟨n,hn⟩:=ly (x::l) 0 h2;have hx:=h2 x (by simp);unfold digitB at hx;rw[Bool.and_eq_true,decide_eq_true_iff,decide_eq_true_iff] at hx;have e1:(x==45)=false:=by rw[beq_eq_false_iff_ne];rintro rfl;simp at hx
  have e2:(x==43)=false:=by rw[beq_eq_false_iff_ne];rintro rfl;simp at hx
  have e3:Lib.decNat (x::l)=some n:=by simpa[Lib.decNat] using hn
  unfold Lib.atoi;simp[e1,e2,e3]
theorem Kh (l:List UInt8):decide (0≤Lib.indexByte l 47)=jp l:=by
 rcases jW l with h|⟨k,hk,h1,h2,_⟩
 ·rw[h,(xM h).2.2];rfl
 ·rw[hk,(sg h1 h2).2.2];simp
theorem J3 {x:UInt8} {l:List UInt8} (h:kb (x::l)=(x::l).length):57<x.toNat:=by
 unfold kb at h;simp only at h;split at h
 ·rename_i hl;unfold gw at hl;rw[Bool.and_eq_true,decide_eq_true_iff,decide_eq_true_iff] at hl;omega
 ·simp at h
theorem K9 {x:UInt8} {l:List UInt8}:iJ (x::l)=(iK (x::l)&&(decide (x.toNat≤57)&&!jp (x::l))):=by
 rw[Bool.eq_iff_iff];constructor
 ·intro h;obtain⟨_,_,h2⟩:=iA h;have hn:gE (x::l)=(x::l).length:=by
   unfold iJ at h;rw[Bool.and_eq_true,decide_eq_true_iff,decide_eq_true_iff] at h;exact h.2
  have hb:iK (x::l)=true:=by unfold iK;rw[if_neg (by simp),if_pos (.inr hn)]
  have hx:=h2 x (by simp);unfold digitB at hx;rw[Bool.and_eq_true,decide_eq_true_iff,decide_eq_true_iff] at hx;have hc:jp (x::l)=false:=by
   unfold jp;rw[Bool.eq_false_iff];intro hc;have:=h2 _ (List.contains_iff_mem.1 hc);simp[digitB] at this
  rw[hb,hc,decide_eq_true hx.2];rfl
 ·intro h;simp only[Bool.and_eq_true,decide_eq_true_iff,Bool.not_eq_true'] at h;obtain⟨h1,h2,h3⟩:=h;unfold iK at h1;rw[if_neg (by simp)] at h1;split at h1
  ·rename_i hw;rcases hw with hw|hw
   ·have:=J3 hw;omega
   ·unfold iJ;rw[decide_eq_true hw];simp
  ·rw[h3] at h1;simp at h1
theorem YE (s:ByteArray) (w:World) (hs:s.size≤9223372036854775807):Calls Tryz.prog 150 #[.string s] w (jQ w (.tuple #[.int .i64 (cz s.data.toList).1,.bool (cz s.data.toList).2])):=by
 have hb:=JI s w hs;by_cases h0:s=⟨#[]⟩
 ·subst h0;have P4:iK (⟨#[]⟩:ByteArray).data.toList=false:=rfl;rw[P4] at hb;have HB:=zH hb;clear hb P4;go_enter Tryz.func150,Tryz.ntmps150;go_wp2_with fail;refine HB.out.mono ?_;rintro e w2 ⟨rfl,hb⟩;have fe:=zH hb;clear hb;go_wp2_with fail;go_ret2
  exact⟨rfl,fe.out⟩
 ·have Pr:0<s.size:=by
   rcases Nat.eq_zero_or_pos s.size with h|h
   ·exact absurd (ByteArray.ext (Array.eq_empty_of_size_eq_zero h)) h0
   ·exact h
  have hx:=str_at Pr;obtain⟨x,nQ⟩:∃x,s[0]=x:=⟨_,rfl⟩;rw[nQ] at hx;obtain⟨l,hl⟩:∃l,s.data.toList=x::l:=by
   cases hd:s.data.toList with
   | nil=>rw[hd] at hx;cases hx
   | cons y l=>rw[hd] at hx;simp at hx;subst hx;exact⟨l,rfl⟩
  have hni:=@K9 x l;rw[←hl] at hni;obtain⟨b,gz⟩:∃b,iK s.data.toList=b:=⟨_,rfl⟩;obtain⟨r,hr⟩:∃r,cz s.data.toList=r:=⟨_,rfl⟩;have hnp:r=if iJ s.data.toList then((((Lib.decNat s.data.toList).getD 0:Nat):Int),true) else(0,false):=by rw[←hr];rfl
  rw[gz] at hb hni;rw[hr];have hc:∀w,Calls Tryz.prog 179 #[.string s,.string ⟨#[47]⟩] w (gU w (.bool (jp s.data.toList))):=fun w=>
   (Tryz.strings_Contains_one s 47 w).mono fun e w' h=>⟨by rw[h.1,Kh],h.2.symm⟩
  obtain⟨n,hn⟩:∃n,x.toNat=n:=⟨_,rfl⟩;have hn2:n<256:=by rw[←hn];exact x.toNat_lt
  rw[hn] at hni;obtain⟨c,hcc⟩:∃c,jp s.data.toList=c:=⟨_,rfl⟩;rw[hcc] at hc hni;have lQ:iJ s.data.toList=true→∀w,Calls Tryz.prog 180 #[.string s] w (jQ w (.tuple #[.int .i64 (((Lib.decNat s.data.toList).getD 0:Nat):Int),.nilIface])):=fun h w=>by
   refine(Tryz.strconv_Atoi s _ (by have:=(iA h).2.1;rw[dz] at this;omega) (Rt h) w).mono ?_;rintro e w' ⟨h1,t,rfl⟩;exact⟨h1,⟨rfl,rfl,rfl,by rw[Lib.bytesWorld_size];exact Nat.le_succ _,fun k hk=>Lib.bytesWorld_at_old w _ t k hk⟩⟩
  have HB:=zH hb;have HNI:=zH hni;have HNP:=zH hnp;have HC:=zH hc;have HAT:=zH lQ;clear hb hni hnp hc lQ gz hr hcc hx hl h0;go_enter Tryz.func150,Tryz.ntmps150;go_wp2_with fail;refine HB.out.mono ?_;rintro e w2 ⟨rfl,cj⟩;have fe:=zH cj;clear cj;cases b with
  | false=>
   have Gr:r=(0,false):=by rw[HNP.out,if_neg (by rw[HNI.out];simp)]
   have V3:=zH Gr;clear Gr;go_wp2_with fail;go_ret2
   exact⟨by rw[V3.out];rfl,fe.out⟩
  | true=>
   by_cases h57:n≤57
   ·have d57:(57<(n:Int))=False:=eq_false (by omega);cases c with
    | true=>
     have Gr:r=(0,false):=by rw[HNP.out,if_neg (by rw[HNI.out];simp)]
     have V3:=zH Gr;clear Gr h57;go_wp2_with fail;refine(HC.out _).mono ?_;rintro e w' ⟨rfl,rfl⟩;go_wp2_with fail;go_ret2
     exact⟨by rw[V3.out];rfl,fe.out⟩
    | false=>
     have di:iJ s.data.toList=true:=by rw[HNI.out,decide_eq_true h57];rfl
     have Gr:r=((((Lib.decNat s.data.toList).getD 0:Nat):Int),true):=by rw[HNP.out,if_pos di]
     have lQ:=HAT.out di;obtain⟨m,hm⟩:∃m,(Lib.decNat s.data.toList).getD 0=m:=⟨_,rfl⟩;rw[hm] at Gr lQ;have V3:=zH Gr;have HA:=zH lQ;clear Gr h57 di lQ hm;go_wp2_with fail;refine(HC.out _).mono ?_;rintro e w' ⟨rfl,rfl⟩;go_wp2_with fail;refine(HA.out _).mono ?_;rintro e w3 ⟨rfl,kP⟩;have mI:=zH (ak fe.out kP);clear kP;go_wp2_with fail;go_quiet (fail)
     go_wp2_with fail;go_ret2
     exact⟨by rw[V3.out];rfl,below_drewN mI.out _⟩
   ·have Gr:r=(0,false):=by rw[HNP.out,if_neg (by rw[HNI.out,decide_eq_false h57];simp)]
    have d57:(57<(n:Int))=True:=eq_true (by omega);have V3:=zH Gr;clear Gr h57;go_wp2_with fail;go_ret2
    exact⟨by rw[V3.out];rfl,fe.out⟩
theorem Ua {S:Nat→Prop} {A:Option Addr} {n c:Nat} {xs:List ByteArray} {w:World} (kg:Int) (h:RS w S A n c xs) (hS:∀b,S b→b<w.heap.size) (hs:∀s∈xs,dP s) : Calls Tryz.prog 124 #[.slice A n c,.int .i64 kg] w (jQ w (.int .i64 (eO xs kg))):=by
 have hm:=h.max;have H:=zH h;have HL:=zH h.len;have HSA:=zH hs;obtain⟨z,hz⟩:∃z,eO xs kg=z:=⟨_,rfl⟩;have fM:z=if xs=[] then 7 else fT kg [] xs:=hz.symm
 rw[hz];have HZ:=zH fM;clear h hs hz fM;go_enter Tryz.func124,Tryz.ntmps124;rcases Nat.eq_zero_or_pos n with h0|h0
 ·subst h0;have bm:z=7:=by rw[HZ.out,if_pos (List.length_eq_zero_iff.1 HL.out)]
  have dS:=zH bm;clear bm;go_wp2_with fail;go_ret
  exact⟨by rw[dS.out];rfl,Below.refl _ _⟩
 ·have hb0:((n:Int)==0)=false:=by rw[beq_eq_false_iff_ne];omega
  have fH:z=fT kg [] xs:=by
   rw[HZ.out,if_neg];intro e;have:=HL.out;rw[e] at this;simp at this;omega
  have kr:=zH fH;clear fH;go_wp2_with fail;go_loopw [12] (fun iv wr=>∃k:Nat,iv=.int .i64 k∧k≤n∧z=fT kg (xs.take k) (xs.drop k)∧Below w.heap.size w wr) (fun iv _=>n-(intOf iv).toNat)
  case atStart=>exact⟨0,rfl,Nat.zero_le _,by simpa using kr.out,Below.refl _ _⟩
  case round=>
   clear kr HZ;obtain⟨k,rfl,hk,Gn,hb⟩:=hrel;have RI:=zH Gn;have HB:=zH hb;have HR:=zH (H.out.below hb hS);clear Gn hb;by_cases hlt:k<n
   ·have jX:(k:Int)<(n:Int):=by omega
    have PD:(k:Int)≤(c:Int):=by have:=H.out.cap;omega
    have PC:k≤c:=by omega
    obtain⟨b,o,x,rfl,_,hx,e1⟩:=HR.out.str_at hlt;have hxm:x∈xs:=List.mem_of_getElem? hx;have hp:=Dn x 1 24 wr (HSA.out x hxm);have W5:=LD hx;have Fe:(xs.take k).length=k:=by rw[List.length_take,HL.out];omega
    have Gn:z=if(k:Int)=kg then 7 else if dK x 1 24=false then 8 else if Lib.containsS (xs.take k) x then 3 else fT kg (xs.take (k+1)) (xs.drop (k+1)):=by
     rw[RI.out,W5,fT,Fe,ju hx]
    obtain⟨pb,nR⟩:∃pb,dK x 1 24=pb:=⟨_,rfl⟩;obtain⟨cb,hcb⟩:∃cb,Lib.containsS (xs.take k) x=cb:=⟨_,rfl⟩;rw[nR] at hp;rw[nR,hcb] at Gn;have HP:=zH hp;have RO:=zH Gn;have HCB:=zH hcb;clear hp Gn hx W5 Fe nR hcb hxm;by_cases h1:(k:Int)=kg
    ·have hq:((k:Int)==kg)=true:=by rw[beq_iff_eq];exact h1
     have bm:z=7:=by rw[RO.out,if_pos h1]
     have dS:=zH bm;clear bm h1;go_wp2_with fail;go_ret
     exact⟨by rw[dS.out];rfl,HB.out⟩
    ·have hq:((k:Int)==kg)=false:=by rw[beq_eq_false_iff_ne];exact h1
     have iP:=RO.out;rw[if_neg h1] at iP;have V8:=zH iP;clear iP h1;go_wp2_with fail;refine HP.out.mono ?_;rintro e w2 ⟨rfl,cj⟩;have fe:=zH (ak HB.out cj);clear cj;cases pb with
     | false=>
      have bm:z=8:=by rw[V8.out,if_pos rfl]
      have dS:=zH bm;clear bm;go_wp2_with fail;go_ret
      exact⟨by rw[dS.out];rfl,fe.out⟩
     | true=>
      have hc:=si ((H.out.below fe.out hS).take (k:=k) hk) x;rw[HCB.out] at hc;have HC:=zH hc;clear hc;go_wp2_with fail;refine HC.out.mono ?_;rintro e w' ⟨rfl,rfl⟩;cases cb with
      | true=>
       have bm:z=3:=by rw[V8.out,if_neg (by simp),if_pos rfl]
       have dS:=zH bm;clear bm;go_wp2_with fail;go_ret
       exact⟨by rw[dS.out];rfl,fe.out⟩
      | false=>
       go_wp2_with fail;go_roundw
       case rel=>exact⟨k+1,by go_num,by omega,by rw[V8.out,if_neg (by simp),if_neg (by simp)],fe.out⟩
       case measure=>simp[intOf];omega
   ·have gV:k=n:=by omega
    have bm:z=0:=by
     rw[RI.out,List.drop_eq_nil_of_le (by rw[HL.out];omega)];rfl
    have dS:=zH bm;clear bm gV;go_wp2_with fail;go_ret
    exact⟨by rw[dS.out];rfl,HB.out⟩
end Go.Proofs.YtjlhbfbdcfajfaaGreatDoor
