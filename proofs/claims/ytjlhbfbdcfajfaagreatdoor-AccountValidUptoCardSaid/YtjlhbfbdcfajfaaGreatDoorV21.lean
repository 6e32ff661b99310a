/- Sch2 Sch3 -/
import Derived.Test.YtjlhbfbdcfajfaaGreatDoorV01
import Derived.Test.YtjlhbfbdcfajfaaGreatDoorV14
import Derived.Test.YtjlhbfbdcfajfaaGreatDoorV09
set_option maxHeartbeats 8000000
set_option maxRecDepth 100000
namespace Go.Proofs.YtjlhbfbdcfajfaaGreatDoor
open Go.RowKit
theorem BR (s:ByteArray) (lo hi:Int) (w:World) (hs:s.size≤17592186044416):Calls Tryz.prog 64 #[.string s,.int .i64 lo,.int .i64 hi] w (j5 w (.bool (dE s lo hi))):=by
 have hq:=Mq s w hs;obtain⟨b,hb⟩:∃b,fE s.data.toList=b:=⟨_,rfl⟩;rw[hb] at hq;obtain⟨t,ht⟩:∃t:ByteArray,(if b then⟨(zI s.data.toList).toArray⟩ else⟨#[]⟩)=t:=⟨_,rfl⟩;rw[ht] at hq;have HQ:=zH hq;obtain⟨z,hz⟩:∃z,dE s lo hi=z:=⟨_,rfl⟩;have fA:(b&&(decide (lo≤(s.size:Int))&&decide ((s.size:Int)≤hi)))=z:=by rw[←hb];exact hz
 rw[hz];have HZ:=zH fA;clear hq hb ht hz fA;go_enter Tryz.func64,Tryz.ntmps64;go_wp2_with fail;refine HQ.out.mono ?_;rintro e w2 ⟨rfl,hb⟩;have HB:=zH hb;clear hb;cases b with
 | false=>
  have bj:z=false:=by rw[←HZ.out];rfl
  have dL:=zH bj;clear bj;go_wp2_with fail;go_ret
  exact⟨by rw[dL.out];rfl,HB.out⟩
 | true=>
  by_cases h1:lo≤(s.size:Int)
  ·have d1:(lo≤(s.size:Int))=True:=eq_true h1;by_cases h2:(s.size:Int)≤hi
   ·have bj:z=true:=by rw[←HZ.out,decide_eq_true h1,decide_eq_true h2];rfl
    have dL:=zH bj;have d2:((s.size:Int)≤hi)=True:=eq_true h2;clear bj h1 h2;go_wp2_with fail;go_ret
    exact⟨by rw[dL.out];rfl,HB.out⟩
   ·have bj:z=false:=by rw[←HZ.out,decide_eq_true h1,decide_eq_false h2];rfl
    have dL:=zH bj;have d2:((s.size:Int)≤hi)=False:=eq_false h2;clear bj h1 h2;go_wp2_with fail;go_ret
    exact⟨by rw[dL.out];rfl,HB.out⟩
  ·have bj:z=false:=by rw[←HZ.out,decide_eq_false h1];simp
   have dL:=zH bj;have d1:(lo≤(s.size:Int))=False:=eq_false h1;clear bj h1;go_wp2_with fail;go_ret
   exact⟨by rw[dL.out];rfl,HB.out⟩
theorem Px {l:List UInt8} (h:iy l=true):Lib.atoi l=some (((Lib.decNat l).getD 0:Nat):Int):=by
 obtain⟨h0,_,h2⟩:=ic h;cases l with
 | nil=>exact absurd rfl h0
 | cons x l=>
  obtain⟨n,hn⟩:=k7 (x::l) 0 h2;have hx:=h2 x (by simp);unfold digitB at hx;rw[Bool.and_eq_true,decide_eq_true_iff,decide_eq_true_iff] at hx;have e1:(x==45)=false:=by rw[beq_eq_false_iff_ne];rintro rfl;simp at hx
  have e2:(x==43)=false:=by rw[beq_eq_false_iff_ne];rintro rfl;simp at hx
  have e3:Lib.decNat (x::l)=some n:=by simpa[Lib.decNat] using hn
  unfold Lib.atoi;simp[e1,e2,e3]
theorem I6 (l:List UInt8):decide (0≤Lib.indexByte l 47)=jc l:=by
 rcases jI l with h|⟨k,hk,h1,h2,_⟩
 ·rw[h,(wL h).2.2];rfl
 ·rw[hk,(qZ h1 h2).2.2];simp
theorem IN {x:UInt8} {l:List UInt8} (h:jX (x::l)=(x::l).length):57<x.toNat:=by
 unfold jX at h;simp only at h;split at h
 ·rename_i hl;unfold gh at hl;rw[Bool.and_eq_true,decide_eq_true_iff,decide_eq_true_iff] at hl;omega
 ·simp at h
theorem JP {x:UInt8} {l:List UInt8}:iy (x::l)=(iz (x::l)&&(decide (x.toNat≤57)&&!jc (x::l))):=by
 rw[Bool.eq_iff_iff];constructor
 ·intro h;obtain⟨_,_,h2⟩:=ic h;have hn:gv (x::l)=(x::l).length:=by
   unfold iy at h;rw[Bool.and_eq_true,decide_eq_true_iff,decide_eq_true_iff] at h;exact h.2
  have hb:iz (x::l)=true:=by unfold iz;rw[if_neg (by simp),if_pos (.inr hn)]
  have hx:=h2 x (by simp);unfold digitB at hx;rw[Bool.and_eq_true,decide_eq_true_iff,decide_eq_true_iff] at hx;have hc:jc (x::l)=false:=by
   unfold jc;rw[Bool.eq_false_iff];intro hc;have:=h2 _ (List.contains_iff_mem.1 hc);simp[digitB] at this
  rw[hb,hc,decide_eq_true hx.2];rfl
 ·intro h;simp only[Bool.and_eq_true,decide_eq_true_iff,Bool.not_eq_true'] at h;obtain⟨h1,h2,h3⟩:=h;unfold iz at h1;rw[if_neg (by simp)] at h1;split at h1
  ·rename_i hw;rcases hw with hw|hw
   ·have:=IN hw;omega
   ·unfold iy;rw[decide_eq_true hw];simp
  ·rw[h3] at h1;simp at h1
theorem Wg (s:ByteArray) (w:World) (hs:s.size≤9223372036854775807):Calls Tryz.prog 150 #[.string s] w (j5 w (.tuple #[.int .i64 (cm s.data.toList).1,.bool (cm s.data.toList).2])):=by
 have hb:=Is s w hs;by_cases h0:s=⟨#[]⟩
 ·subst h0;have Oq:iz (⟨#[]⟩:ByteArray).data.toList=false:=rfl;rw[Oq] at hb;have HB:=zH hb;clear hb Oq;go_enter Tryz.func150,Tryz.ntmps150;go_wp2_with fail;refine HB.out.mono ?_;rintro e w2 ⟨rfl,hb⟩;have eP:=zH hb;clear hb;go_wp2_with fail;go_ret2
  exact⟨rfl,eP.out⟩
 ·have NM:0<s.size:=by
   rcases Nat.eq_zero_or_pos s.size with h|h
   ·exact absurd (ByteArray.ext (Array.eq_empty_of_size_eq_zero h)) h0
   ·exact h
  have hx:=str_at NM;obtain⟨x,nk⟩:∃x,s[0]=x:=⟨_,rfl⟩;rw[nk] at hx;obtain⟨l,hl⟩:∃l,s.data.toList=x::l:=by
   cases hd:s.data.toList with
   | nil=>rw[hd] at hx;cases hx
   | cons y l=>rw[hd] at hx;simp at hx;subst hx;exact⟨l,rfl⟩
  have Zd:=@JP x l;rw[←hl] at Zd;obtain⟨b,gl⟩:∃b,iz s.data.toList=b:=⟨_,rfl⟩;obtain⟨r,hr⟩:∃r,cm s.data.toList=r:=⟨_,rfl⟩;have hnp:r=if iy s.data.toList then((((Lib.decNat s.data.toList).getD 0:Nat):Int),true) else(0,false):=by rw[←hr];rfl
  rw[gl] at hb Zd;rw[hr];have hc:∀w,Calls Tryz.prog 179 #[.string s,.string ⟨#[47]⟩] w (gL w (.bool (jc s.data.toList))):=fun w=>
   (Tryz.strings_Contains_one s 47 w).mono fun e w' h=>⟨by rw[h.1,I6],h.2.symm⟩
  obtain⟨n,hn⟩:∃n,x.toNat=n:=⟨_,rfl⟩;have hn2:n<256:=by rw[←hn];exact x.toNat_lt
  rw[hn] at Zd;obtain⟨c,hcc⟩:∃c,jc s.data.toList=c:=⟨_,rfl⟩;rw[hcc] at hc Zd;have lz:iy s.data.toList=true→∀w,Calls Tryz.prog 180 #[.string s] w (j5 w (.tuple #[.int .i64 (((Lib.decNat s.data.toList).getD 0:Nat):Int),.nilIface])):=fun h w=>by
   refine(Tryz.strconv_Atoi s _ (by have:=(ic h).2.1;rw[dm] at this;omega) (Px h) w).mono ?_;rintro e w' ⟨h1,t,rfl⟩;exact⟨h1,⟨rfl,rfl,rfl,by rw[Lib.bytesWorld_size];exact Nat.le_succ _,fun k hk=>Lib.bytesWorld_at_old w _ t k hk⟩⟩
  have HB:=zH hb;have HNI:=zH Zd;have HNP:=zH hnp;have HC:=zH hc;have HAT:=zH lz;clear hb Zd hnp hc lz gl hr hcc hx hl h0;go_enter Tryz.func150,Tryz.ntmps150;go_wp2_with fail;refine HB.out.mono ?_;rintro e w2 ⟨rfl,bZ⟩;have eP:=zH bZ;clear bZ;cases b with
  | false=>
   have Fc:r=(0,false):=by rw[HNP.out,if_neg (by rw[HNI.out];simp)]
   have T9:=zH Fc;clear Fc;go_wp2_with fail;go_ret2
   exact⟨by rw[T9.out];rfl,eP.out⟩
  | true=>
   by_cases h57:n≤57
   ·have d57:(57<(n:Int))=False:=eq_false (by omega);cases c with
    | true=>
     have Fc:r=(0,false):=by rw[HNP.out,if_neg (by rw[HNI.out];simp)]
     have T9:=zH Fc;clear Fc h57;go_wp2_with fail;refine(HC.out _).mono ?_;rintro e w' ⟨rfl,rfl⟩;go_wp2_with fail;go_ret2
     exact⟨by rw[T9.out];rfl,eP.out⟩
    | false=>
     have da:iy s.data.toList=true:=by rw[HNI.out,decide_eq_true h57];rfl
     have Fc:r=((((Lib.decNat s.data.toList).getD 0:Nat):Int),true):=by rw[HNP.out,if_pos da]
     have lz:=HAT.out da;obtain⟨m,hm⟩:∃m,(Lib.decNat s.data.toList).getD 0=m:=⟨_,rfl⟩;rw[hm] at Fc lz;have T9:=zH Fc;have HA:=zH lz;clear Fc h57 da lz hm;go_wp2_with fail;refine(HC.out _).mono ?_;rintro e w' ⟨rfl,rfl⟩;go_wp2_with fail;refine(HA.out _).mono ?_;rintro e w3 ⟨rfl,kD⟩;have mg:=zH (ak eP.out kD);clear kD;go_wp2_with fail;go_quiet (fail)
     go_wp2_with fail;go_ret2
     exact⟨by rw[T9.out];rfl,below_drewN mg.out _⟩
   ·have Fc:r=(0,false):=by rw[HNP.out,if_neg (by rw[HNI.out,decide_eq_false h57];simp)]
    have d57:(57<(n:Int))=True:=eq_true (by omega);have T9:=zH Fc;clear Fc h57;go_wp2_with fail;go_ret2
    exact⟨by rw[T9.out];rfl,eP.out⟩
theorem RF {S:Nat→Prop} {A:Option Addr} {n c:Nat} {xs:List ByteArray} {w:World} (j1:Int) (h:RS w S A n c xs) (hS:∀b,S b→b<w.heap.size) (hs:∀s∈xs,dI s) : Calls Tryz.prog 124 #[.slice A n c,.int .i64 j1] w (j5 w (.int .i64 (eD xs j1))):=by
 have hm:=h.max;have H:=zH h;have HL:=zH h.len;have HSA:=zH hs;obtain⟨z,hz⟩:∃z,eD xs j1=z:=⟨_,rfl⟩;have fA:z=if xs=[] then 7 else fI j1 [] xs:=hz.symm
 rw[hz];have HZ:=zH fA;clear h hs hz fA;go_enter Tryz.func124,Tryz.ntmps124;rcases Nat.eq_zero_or_pos n with h0|h0
 ·subst h0;have bj:z=7:=by rw[HZ.out,if_pos (List.length_eq_zero_iff.1 HL.out)]
  have dL:=zH bj;clear bj;go_wp2_with fail;go_ret
  exact⟨by rw[dL.out];rfl,Below.refl _ _⟩
 ·have hb0:((n:Int)==0)=false:=by rw[beq_eq_false_iff_ne];omega
  have fu:z=fI j1 [] xs:=by
   rw[HZ.out,if_neg];intro e;have:=HL.out;rw[e] at this;simp at this;omega
  have ka:=zH fu;clear fu;go_wp2_with fail;go_loopw [12] (fun iv wr=>∃k:Nat,iv=.int .i64 k∧k≤n∧z=fI j1 (xs.take k) (xs.drop k)∧Below w.heap.size w wr) (fun iv _=>n-(intOf iv).toNat)
  case atStart=>exact⟨0,rfl,Nat.zero_le _,by simpa using ka.out,Below.refl _ _⟩
  case round=>
   clear ka HZ;obtain⟨k,rfl,hk,E9,hb⟩:=hrel;have PK:=zH E9;have HB:=zH hb;have HR:=zH (H.out.below hb hS);clear E9 hb;by_cases hlt:k<n
   ·have jJ:(k:Int)<(n:Int):=by omega
    have NV:(k:Int)≤(c:Int):=by have:=H.out.cap;omega
    have NU:k≤c:=by omega
    obtain⟨b,o,x,rfl,_,hx,e1⟩:=HR.out.str_at hlt;have hxm:x∈xs:=List.mem_of_getElem? hx;have hp:=BR x 1 24 wr (HSA.out x hxm);have UU:=Kj hx;have D1:(xs.take k).length=k:=by rw[List.length_take,HL.out];omega
    have E9:z=if(k:Int)=j1 then 7 else if dE x 1 24=false then 8 else if Lib.containsS (xs.take k) x then 3 else fI j1 (xs.take (k+1)) (xs.drop (k+1)):=by
     rw[PK.out,UU,fI,D1,jh hx]
    obtain⟨pb,np⟩:∃pb,dE x 1 24=pb:=⟨_,rfl⟩;obtain⟨cb,Zm⟩:∃cb,Lib.containsS (xs.take k) x=cb:=⟨_,rfl⟩;rw[np] at hp;rw[np,Zm] at E9;have HP:=zH hp;have PO:=zH E9;have HCB:=zH Zm;clear hp E9 hx UU D1 np Zm hxm;by_cases h1:(k:Int)=j1
    ·have hq:((k:Int)==j1)=true:=by rw[beq_iff_eq];exact h1
     have bj:z=7:=by rw[PO.out,if_pos h1]
     have dL:=zH bj;clear bj h1;go_wp2_with fail;go_ret
     exact⟨by rw[dL.out];rfl,HB.out⟩
    ·have hq:((k:Int)==j1)=false:=by rw[beq_eq_false_iff_ne];exact h1
     have iE:=PO.out;rw[if_neg h1] at iE;have Ue:=zH iE;clear iE h1;go_wp2_with fail;refine HP.out.mono ?_;rintro e w2 ⟨rfl,bZ⟩;have eP:=zH (ak HB.out bZ);clear bZ;cases pb with
     | false=>
      have bj:z=8:=by rw[Ue.out,if_pos rfl]
      have dL:=zH bj;clear bj;go_wp2_with fail;go_ret
      exact⟨by rw[dL.out];rfl,eP.out⟩
     | true=>
      have hc:=rh ((H.out.below eP.out hS).take (k:=k) hk) x;rw[HCB.out] at hc;have HC:=zH hc;clear hc;go_wp2_with fail;refine HC.out.mono ?_;rintro e w' ⟨rfl,rfl⟩;cases cb with
      | true=>
       have bj:z=3:=by rw[Ue.out,if_neg (by simp),if_pos rfl]
       have dL:=zH bj;clear bj;go_wp2_with fail;go_ret
       exact⟨by rw[dL.out];rfl,eP.out⟩
      | false=>
       go_wp2_with fail;go_roundw
       case rel=>exact⟨k+1,by go_num,by omega,by rw[Ue.out,if_neg (by simp),if_neg (by simp)],eP.out⟩
       case measure=>simp[intOf];omega
   ·have gM:k=n:=by omega
    have bj:z=0:=by
     rw[PK.out,List.drop_eq_nil_of_le (by rw[HL.out];omega)];rfl
    have dL:=zH bj;clear bj gM;go_wp2_with fail;go_ret
    exact⟨by rw[dL.out];rfl,HB.out⟩
end Go.Proofs.YtjlhbfbdcfajfaaGreatDoor
