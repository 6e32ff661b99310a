/- Sch2 Sch3 -/
import Derived.Test.YtdbpbfglhbiadaaGreatDoorF01
import Derived.Test.YtdbpbfglhbiadaaGreatDoorF13
import Derived.Test.YtdbpbfglhbiadaaGreatDoorF05
set_option maxHeartbeats 8000000
set_option maxRecDepth 100000
namespace Go.Proofs.YtdbpbfglhbiadaaGreatDoor
open Go.RowKit
theorem AK (s:ByteArray) (lo hi:Int) (w:World) (hs:s.size<=17592186044416):Calls Tryz.prog 57 #[.string s,.int .i64 lo,.int .i64 hi] w (iT w (.bool (cU s lo hi))):=by
 have hq:=LR s w hs;obtain⟨b,hb⟩:∃b,eW s.data.toList=b:=⟨_,rfl⟩;rw[hb] at hq;obtain⟨t,ht⟩:∃t:ByteArray,(if b then⟨(yt s.data.toList).toArray⟩ else⟨#[]⟩)=t:=⟨_,rfl⟩;rw[ht] at hq;have HQ:=zH hq;obtain⟨z,hz⟩:∃z,cU s lo hi=z:=⟨_,rfl⟩;have eQ:(b&&(decide (lo<=(s.size:Int))&&decide ((s.size:Int)<=hi)))=z:=by rw[<-hb];exact hz
 rw[hz];have HZ:=zH eQ;clear hq hb ht hz eQ;go_enter Tryz.func57,Tryz.ntmps57;go_wp2_with fail;refine HQ.out.mono ?_;rintro e w2 ⟨rfl,hb⟩;have HB:=zH hb;clear hb;cases b with
 | false=>
  have aW:z=false:=by rw[<-HZ.out];rfl
  have db:=zH aW;clear aW;go_wp2_with fail;go_ret
  exact⟨by rw[db.out];rfl,HB.out⟩
 | true=>
  by_cases h1:lo<=(s.size:Int)
  ·have d1:(lo<=(s.size:Int))=True:=eq_true h1;by_cases h2:(s.size:Int)<=hi
   ·have aW:z=true:=by rw[<-HZ.out,decide_eq_true h1,decide_eq_true h2];rfl
    have db:=zH aW;have d2:((s.size:Int)<=hi)=True:=eq_true h2;clear aW h1 h2;go_wp2_with fail;go_ret
    exact⟨by rw[db.out];rfl,HB.out⟩
   ·have aW:z=false:=by rw[<-HZ.out,decide_eq_true h1,decide_eq_false h2];rfl
    have db:=zH aW;have d2:((s.size:Int)<=hi)=False:=eq_false h2;clear aW h1 h2;go_wp2_with fail;go_ret
    exact⟨by rw[db.out];rfl,HB.out⟩
  ·have aW:z=false:=by rw[<-HZ.out,decide_eq_false h1];simp
   have db:=zH aW;have d1:(lo<=(s.size:Int))=False:=eq_false h1;clear aW h1;go_wp2_with fail;go_ret
   exact⟨by rw[db.out];rfl,HB.out⟩
theorem Pe {l:List UInt8} (h:gG l=true):Lib.atoi l=some (((Lib.decNat l).getD 0:Nat):Int):=by
 obtain⟨h0,_,h2⟩:=gz h;cases l with
 | nil=>exact absurd rfl h0
 | cons x l=>
  obtain⟨n,hn⟩:=jZ (x::l) 0 h2;have hx:=h2 x (by simp);unfold digitB at hx;rw[Bool.and_eq_true,decide_eq_true_iff,decide_eq_true_iff] at hx;have e1:(x==45)=false:=by rw[beq_eq_false_iff_ne];rintro rfl;simp at hx
  have e2:(x==43)=false:=by rw[beq_eq_false_iff_ne];rintro rfl;simp at hx
  have e3:Lib.decNat (x::l)=some n:=by simpa[Lib.decNat] using hn
  unfold Lib.atoi;simp[e1,e2,e3]
theorem Io (l:List UInt8):decide (0<=Lib.indexByte l 47)=ij l:=by
 rcases iQ l with h|⟨k,hk,h1,h2,_⟩
 ·rw[h,(uS h).2.2];rfl
 ·rw[hk,(pD h1 h2).2.2];simp
theorem H7 {x:UInt8} {l:List UInt8} (h:jc (x::l)=(x::l).length):57<x.toNat:=by
 unfold jc at h;simp only at h;split at h
 ·rename_i hl;unfold fB at hl;rw[Bool.and_eq_true,decide_eq_true_iff,decide_eq_true_iff] at hl;omega
 ·simp at h
theorem Jc {x:UInt8} {l:List UInt8}:gG (x::l)=(gH (x::l)&&(decide (x.toNat<=57)&&!ij (x::l))):=by
 rw[Bool.eq_iff_iff];constructor
 ·intro h;obtain⟨_,_,h2⟩:=gz h;have hn:fL (x::l)=(x::l).length:=by
   unfold gG at h;rw[Bool.and_eq_true,decide_eq_true_iff,decide_eq_true_iff] at h;exact h.2
  have hb:gH (x::l)=true:=by unfold gH;rw[if_neg (by simp),if_pos (.inr hn)]
  have hx:=h2 x (by simp);unfold digitB at hx;rw[Bool.and_eq_true,decide_eq_true_iff,decide_eq_true_iff] at hx;have hc:ij (x::l)=false:=by
   unfold ij;rw[Bool.eq_false_iff];intro hc;have:=h2 _ (List.contains_iff_mem.1 hc);simp[digitB] at this
  rw[hb,hc,decide_eq_true hx.2];rfl
 ·intro h;simp only[Bool.and_eq_true,decide_eq_true_iff,Bool.not_eq_true'] at h;obtain⟨h1,h2,h3⟩:=h;unfold gH at h1;rw[if_neg (by simp)] at h1;split at h1
  ·rename_i hw;rcases hw with hw|hw
   ·have:=H7 hw;omega
   ·unfold gG;rw[decide_eq_true hw];simp
  ·rw[h3] at h1;simp at h1
theorem Wq (s:ByteArray) (w:World) (hs:s.size<=9223372036854775807):Calls Tryz.prog 196 #[.string s] w (iT w (.tuple #[.int .i64 (bI s.data.toList).1,.bool (bI s.data.toList).2])):=by
 have hb:=He s w hs;by_cases h0:s=⟨#[]⟩
 ·subst h0;have N4:gH (⟨#[]⟩:ByteArray).data.toList=false:=rfl;rw[N4] at hb;have HB:=zH hb;clear hb N4;go_enter Tryz.func196,Tryz.ntmps196;go_wp2_with fail;refine HB.out.mono ?_;rintro e w2 ⟨rfl,hb⟩;have ek:=zH hb;clear hb;go_wp2_with fail;go_ret2
  exact⟨rfl,ek.out⟩
 ·have No:0<s.size:=by
   rcases Nat.eq_zero_or_pos s.size with h|h
   ·exact absurd (ByteArray.ext (Array.eq_empty_of_size_eq_zero h)) h0
   ·exact h
  have hx:=str_at No;obtain⟨x,lP⟩:∃x,s[0]=x:=⟨_,rfl⟩;rw[lP] at hx;obtain⟨l,hl⟩:∃l,s.data.toList=x::l:=by
   cases hd:s.data.toList with
   | nil=>rw[hd] at hx;cases hx
   | cons y l=>rw[hd] at hx;simp at hx;subst hx;exact⟨l,rfl⟩
  have Z5:=@Jc x l;rw[<-hl] at Z5;obtain⟨b,fF⟩:∃b,gH s.data.toList=b:=⟨_,rfl⟩;obtain⟨r,hr⟩:∃r,bI s.data.toList=r:=⟨_,rfl⟩;have hnp:r=if gG s.data.toList then((((Lib.decNat s.data.toList).getD 0:Nat):Int),true) else(0,false):=by rw[<-hr];rfl
  rw[fF] at hb Z5;rw[hr];have hc:∀w,Calls Tryz.prog 231 #[.string s,.string ⟨#[47]⟩] w (ga w (.bool (ij s.data.toList))):=λw=>
   (Tryz.strings_Contains_one s 47 w).mono λe w' h=>⟨by rw[h.1,Io],h.2.symm⟩
  obtain⟨n,hn⟩:∃n,x.toNat=n:=⟨_,rfl⟩;have hn2:n<256:=by rw[<-hn];exact x.toNat_lt
  rw[hn] at Z5;obtain⟨c,hcc⟩:∃c,ij s.data.toList=c:=⟨_,rfl⟩;rw[hcc] at hc Z5;have km:gG s.data.toList=true->∀w,Calls Tryz.prog 232 #[.string s] w (iT w (.tuple #[.int .i64 (((Lib.decNat s.data.toList).getD 0:Nat):Int),.nilIface])):=λh w=>by
   refine(Tryz.strconv_Atoi s _ (by have:=(gz h).2.1;rw[cJ] at this;omega) (Pe h) w).mono ?_;rintro e w' ⟨h1,t,rfl⟩;exact⟨h1,⟨rfl,rfl,rfl,by rw[Lib.bytesWorld_size];exact Nat.le_succ _,λk hk=>Lib.bytesWorld_at_old w _ t k hk⟩⟩
  have HB:=zH hb;have HNI:=zH Z5;have HNP:=zH hnp;have HC:=zH hc;have HAT:=zH km;clear hb Z5 hnp hc km fF hr hcc hx hl h0;go_enter Tryz.func196,Tryz.ntmps196;go_wp2_with fail;refine HB.out.mono ?_;rintro e w2 ⟨rfl,bH⟩;have ek:=zH bH;clear bH;cases b with
  | false=>
   have Ep:r=(0,false):=by rw[HNP.out,if_neg (by rw[HNI.out];simp)]
   have TQ:=zH Ep;clear Ep;go_wp2_with fail;go_ret2
   exact⟨by rw[TQ.out];rfl,ek.out⟩
  | true=>
   by_cases h57:n<=57
   ·have d57:(57<(n:Int))=False:=eq_false (by omega);cases c with
    | true=>
     have Ep:r=(0,false):=by rw[HNP.out,if_neg (by rw[HNI.out];simp)]
     have TQ:=zH Ep;clear Ep h57;go_wp2_with fail;refine(HC.out _).mono ?_;rintro e w' ⟨rfl,rfl⟩;go_wp2_with fail;go_ret2
     exact⟨by rw[TQ.out];rfl,ek.out⟩
    | false=>
     have dI:gG s.data.toList=true:=by rw[HNI.out,decide_eq_true h57];rfl
     have Ep:r=((((Lib.decNat s.data.toList).getD 0:Nat):Int),true):=by rw[HNP.out,if_pos dI]
     have km:=HAT.out dI;obtain⟨m,hm⟩:∃m,(Lib.decNat s.data.toList).getD 0=m:=⟨_,rfl⟩;rw[hm] at Ep km;have TQ:=zH Ep;have HA:=zH km;clear Ep h57 dI km hm;go_wp2_with fail;refine(HC.out _).mono ?_;rintro e w' ⟨rfl,rfl⟩;go_wp2_with fail;refine(HA.out _).mono ?_;rintro e w3 ⟨rfl,jF⟩;have kR:=zH (ak ek.out jF);clear jF;go_wp2_with fail;go_quiet (fail)
     go_wp2_with fail;go_ret2
     exact⟨by rw[TQ.out];rfl,below_drewN kR.out _⟩
   ·have Ep:r=(0,false):=by rw[HNP.out,if_neg (by rw[HNI.out,decide_eq_false h57];simp)]
    have d57:(57<(n:Int))=True:=eq_true (by omega);have TQ:=zH Ep;clear Ep h57;go_wp2_with fail;go_ret2
    exact⟨by rw[TQ.out];rfl,ek.out⟩
theorem Rv {S:Nat->Prop} {A:Option Addr} {n c:Nat} {xs:List ByteArray} {w:World} (gl:Int) (h:RS w S A n c xs) (hS:∀b,S b->b<w.heap.size) (hs:∀s∈xs,cZ s) : Calls Tryz.prog 147 #[.slice A n c,.int .i64 gl] w (iT w (.int .i64 (dc xs gl))):=by
 have hm:=h.max;have H:=zH h;have HL:=zH h.len;have HSA:=zH hs;obtain⟨z,hz⟩:∃z,dc xs gl=z:=⟨_,rfl⟩;have eQ:z=if xs=[] then 7 else ez gl [] xs:=hz.symm
 rw[hz];have HZ:=zH eQ;clear h hs hz eQ;go_enter Tryz.func147,Tryz.ntmps147;rcases Nat.eq_zero_or_pos n with h0|h0
 ·subst h0;have aW:z=7:=by rw[HZ.out,if_pos (List.length_eq_zero_iff.1 HL.out)]
  have db:=zH aW;clear aW;go_wp2_with fail;go_ret
  exact⟨by rw[db.out];rfl,Below.refl _ _⟩
 ·have hb0:((n:Int)==0)=false:=by rw[beq_eq_false_iff_ne];omega
  have eL:z=ez gl [] xs:=by
   rw[HZ.out,if_neg];intro e;have:=HL.out;rw[e] at this;simp at this;omega
  have jm:=zH eL;clear eL;go_wp2_with fail;go_loopw [12] (λiv wr=>∃k:Nat,iv=.int .i64 k/\k<=n/\z=ez gl (xs.take k) (xs.drop k)/\Below w.heap.size w wr) (λiv _=>n-(intOf iv).toNat)
  case atStart=>exact⟨0,rfl,Nat.zero_le _,by simpa using jm.out,Below.refl _ _⟩
  case round=>
   clear jm HZ;obtain⟨k,rfl,hk,Ek,hb⟩:=hrel;have Ps:=zH Ek;have HB:=zH hb;have HR:=zH (H.out.below hb hS);clear Ek hb;by_cases hlt:k<n
   ·have iR:(k:Int)<(n:Int):=by omega
    have NA:(k:Int)<=(c:Int):=by have:=H.out.cap;omega
    have Nz:k<=c:=by omega
    obtain⟨b,o,x,rfl,_,hx,e1⟩:=HR.out.str_at hlt;have hxm:x∈xs:=List.mem_of_getElem? hx;have hp:=AK x 1 24 wr (HSA.out x hxm);have UR:=JI hx;have CO:(xs.take k).length=k:=by rw[List.length_take,HL.out];omega
    have Ek:z=if(k:Int)=gl then 7 else if cU x 1 24=false then 8 else if Lib.containsS (xs.take k) x then 3 else ez gl (xs.take (k+1)) (xs.drop (k+1)):=by
     rw[Ps.out,UR,ez,CO,iz hx]
    obtain⟨pb,lQ⟩:∃pb,cU x 1 24=pb:=⟨_,rfl⟩;obtain⟨cb,UW⟩:∃cb,Lib.containsS (xs.take k) x=cb:=⟨_,rfl⟩;rw[lQ] at hp;rw[lQ,UW] at Ek;have HP:=zH hp;have Pw:=zH Ek;have HCB:=zH UW;clear hp Ek hx UR CO lQ UW hxm;by_cases h1:(k:Int)=gl
    ·have hq:((k:Int)==gl)=true:=by rw[beq_iff_eq];exact h1
     have aW:z=7:=by rw[Pw.out,if_pos h1]
     have db:=zH aW;clear aW h1;go_wp2_with fail;go_ret
     exact⟨by rw[db.out];rfl,HB.out⟩
    ·have hq:((k:Int)==gl)=false:=by rw[beq_eq_false_iff_ne];exact h1
     have gN:=Pw.out;rw[if_neg h1] at gN;have TW:=zH gN;clear gN h1;go_wp2_with fail;refine HP.out.mono ?_;rintro e w2 ⟨rfl,bH⟩;have ek:=zH (ak HB.out bH);clear bH;cases pb with
     | false=>
      have aW:z=8:=by rw[TW.out,if_pos rfl]
      have db:=zH aW;clear aW;go_wp2_with fail;go_ret
      exact⟨by rw[db.out];rfl,ek.out⟩
     | true=>
      have hc:=pE ((H.out.below ek.out hS).take (k:=k) hk) x;rw[HCB.out] at hc;have HC:=zH hc;clear hc;go_wp2_with fail;refine HC.out.mono ?_;rintro e w' ⟨rfl,rfl⟩;cases cb with
      | true=>
       have aW:z=3:=by rw[TW.out,if_neg (by simp),if_pos rfl]
       have db:=zH aW;clear aW;go_wp2_with fail;go_ret
       exact⟨by rw[db.out];rfl,ek.out⟩
      | false=>
       go_wp2_with fail;go_roundw
       case rel=>exact⟨k+1,by go_num,by omega,by rw[TW.out,if_neg (by simp),if_neg (by simp)],ek.out⟩
       case measure=>simp[intOf];omega
   ·have nP:k=n:=by omega
    have aW:z=0:=by
     rw[Ps.out,List.drop_eq_nil_of_le (by rw[HL.out];omega)];rfl
    have db:=zH aW;clear aW nP;go_wp2_with fail;go_ret
    exact⟨by rw[db.out];rfl,HB.out⟩
end Go.Proofs.YtdbpbfglhbiadaaGreatDoor
