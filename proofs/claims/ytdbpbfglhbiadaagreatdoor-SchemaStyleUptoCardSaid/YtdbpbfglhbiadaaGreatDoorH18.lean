/- Ref13 Ref14 Ref15 Ref16 -/
import Derived.Test.YtdbpbfglhbiadaaGreatDoorH02
import Derived.Test.YtdbpbfglhbiadaaGreatDoorH17
import Derived.Test.YtdbpbfglhbiadaaGreatDoorH14
import Derived.Test.YtdbpbfglhbiadaaGreatDoorH13
set_option maxHeartbeats 4000000
set_option maxRecDepth 100000
namespace Go.Proofs.YtdbpbfglhbiadaaGreatDoor
open Go.RowKit
theorem kj {α:Type} {l l':List α} {k:Nat} {x y:α} (h:l.take k=l'.take k) (hx:l[k]?=some x) (hy:l'[k]?=some y) (he:x=y):l.take (k+1)=l'.take (k+1):=by
 rw[iQ hx,iQ hy,h,he]
theorem oW {α:Type} {l l':List α} {k:Nat} {x y:α} (hx:l[k]?=some x) (hy:l'[k]?=some y) (he:x≠y):l≠l':=by
 rintro rfl;rw[hx] at hy;injection hy with hy
 exact he hy
theorem aa6 {S S2:Nat->Prop} {A A2:Option Addr} {n n2 c c2:Nat} {xs ys:List Int} {w:World} (h1:RS w S A n c xs) (h2:RS w S2 A2 n2 c2 ys) : Calls Tryz.prog 56 #[.slice A n c,.slice A2 n2 c2] w (En w (.bool (decide (xs=ys)))):=by
 have hb:=h1.max;have EP:=zH h1.len;have ow:=zH h2.len;have H1:=zH h1;have H2:=zH h2;clear h1 h2;by_cases fR:n=n2
 ·subst fR;obtain⟨z,hz⟩:∃z,decide (xs=ys)=z:=⟨_,rfl⟩;rw[hz];have HZ:=zH hz;clear hz;go_enter Tryz.func56,Tryz.ntmps56;go_wp2_with fail;go_loopw [5] (λi wr=>∃k m:Nat,k<=n/\i=.int .i64 k/\xs.take k=ys.take k/\wr=w.drewN m) (λi _=>n-(intOf i).toNat)
  case atStart=>exact⟨0,0,Nat.zero_le _,rfl,by rw[List.take_zero,List.take_zero],rfl⟩
  case round=>
   obtain⟨k,m,hk,rfl,rX,rfl⟩:=hrel;have HT:=zH rX;clear rX;by_cases hlt:k<n
   ·obtain⟨b,o,x,rfl,_,iF,e1⟩:=H1.out.int_at hlt;obtain⟨b2,o2,y,rfl,_,xB,e2⟩:=H2.out.int_at hlt;have lI:(k:Int)<(n:Int):=by omega
    have Sr:(k:Int)<=(c:Int):=by have:=H1.out.cap;omega
    have Ve:(k:Int)<=(c2:Int):=by have:=H2.out.cap;omega
    by_cases mZ:x=y
    ·have hs:=kj HT.out iF xB mZ;have HS:=zH hs;subst mZ;have dx:(x !=x)=false:=by simp
     clear hs iF xB;go_wp2_with fail;go_quiet (fail)
     go_wp2_with fail;go_roundw
     case rel=>exact⟨k+1,_,by omega,by go_num,HS.out,rfl⟩
     case measure=>simp[intOf];omega
    ·have bw:z=false:=by rw[<-HZ.out];exact decide_eq_false (oW iF xB mZ)
     have fa:=zH bw;have dx:(x !=y)=true:=by simpa using mZ
     clear bw iF xB mZ;go_wp2_with fail;go_quiet (fail)
     go_wp2_with fail;go_ret
     exact⟨gP (by rw[fa.out];rfl),_,World.drewN_drewN _ _ _⟩
   ·have Br:z=true:=by
     have e:=HT.out;rw[List.take_of_length_le (by rw[EP.out];omega),List.take_of_length_le (by rw[ow.out];omega)] at e;rw[<-HZ.out];exact decide_eq_true e
    have JF:=zH Br;have lI:((k:Int)<(n:Int))=False:=eq_false (by omega);clear Br;go_wp2_with fail;go_ret
    exact⟨gP (by rw[JF.out];rfl),_,rfl⟩
 ·have afG:((n:Int) !=(n2:Int))=true:=by simp;omega
  have mZ:decide (xs=ys)=false:=decide_eq_false (by rintro rfl;exact fR (EP.out.symm.trans ow.out));rw[mZ];clear mZ fR;go_enter Tryz.func56,Tryz.ntmps56;go_wp2_with fail;go_ret
  exact⟨rfl,0,rfl⟩
theorem aa3 {S S2:Nat->Prop} {A A2:Option Addr} {n n2 c c2:Nat} {xs ys:List ByteArray} {w:World} (h1:RS w S A n c xs) (h2:RS w S2 A2 n2 c2 ys) : Calls Tryz.prog 44 #[.slice A n c,.slice A2 n2 c2] w (En w (.bool (decide (xs=ys)))):=by
 have hb:=h1.max;have EP:=zH h1.len;have ow:=zH h2.len;have H1:=zH h1;have H2:=zH h2;clear h1 h2;by_cases fR:n=n2
 ·subst fR;obtain⟨z,hz⟩:∃z,decide (xs=ys)=z:=⟨_,rfl⟩;rw[hz];have HZ:=zH hz;clear hz;go_enter Tryz.func44,Tryz.ntmps44;go_wp2_with fail;go_loopw [5] (λi wr=>∃k m:Nat,k<=n/\i=.int .i64 k/\xs.take k=ys.take k/\wr=w.drewN m) (λi _=>n-(intOf i).toNat)
  case atStart=>exact⟨0,0,Nat.zero_le _,rfl,by rw[List.take_zero,List.take_zero],rfl⟩
  case round=>
   obtain⟨k,m,hk,rfl,rX,rfl⟩:=hrel;have HT:=zH rX;clear rX;by_cases hlt:k<n
   ·obtain⟨b,o,x,rfl,_,iF,e1⟩:=H1.out.str_at hlt;obtain⟨b2,o2,y,rfl,_,xB,e2⟩:=H2.out.str_at hlt;have lI:(k:Int)<(n:Int):=by omega
    have Sr:(k:Int)<=(c:Int):=by have:=H1.out.cap;omega
    have Ve:(k:Int)<=(c2:Int):=by have:=H2.out.cap;omega
    by_cases mZ:x=y
    ·have hs:=kj HT.out iF xB mZ;have HS:=zH hs;subst mZ;have dx:(x.toList !=x.toList)=false:=by simp
     have dx2:(x.toList==x.toList)=true:=by simp
     clear hs iF xB;go_wp2_with fail;go_quiet (fail)
     go_wp2_with fail;go_roundw
     case rel=>exact⟨k+1,_,by omega,by go_num,HS.out,rfl⟩
     case measure=>simp[intOf];omega
    ·have bw:z=false:=by rw[<-HZ.out];exact decide_eq_false (oW iF xB mZ)
     have fa:=zH bw;have dx2:(x.toList==y.toList)=false:=(Lib.bytes_beq_false_iff x y).2 mZ;have dx:(x.toList !=y.toList)=true:=by rw[bne,dx2];rfl
     clear bw iF xB mZ;go_wp2_with fail;go_quiet (fail)
     go_wp2_with fail;go_ret
     exact⟨gP (by rw[fa.out];rfl),_,World.drewN_drewN _ _ _⟩
   ·have Br:z=true:=by
     have e:=HT.out;rw[List.take_of_length_le (by rw[EP.out];omega),List.take_of_length_le (by rw[ow.out];omega)] at e;rw[<-HZ.out];exact decide_eq_true e
    have JF:=zH Br;have lI:((k:Int)<(n:Int))=False:=eq_false (by omega);clear Br;go_wp2_with fail;go_ret
    exact⟨gP (by rw[JF.out];rfl),_,rfl⟩
 ·have afG:((n:Int) !=(n2:Int))=true:=by simp;omega
  have mZ:decide (xs=ys)=false:=decide_eq_false (by rintro rfl;exact fR (EP.out.symm.trans ow.out));rw[mZ];clear mZ fR;go_enter Tryz.func44,Tryz.ntmps44;go_wp2_with fail;go_ret
  exact⟨rfl,0,rfl⟩
theorem QD {S S2:Nat->Prop} {A A2:Option Addr} {n n2 c c2:Nat} {xs ys:List (BitVec 32)} {w:World} (h1:RS w S A n c xs) (h2:RS w S2 A2 n2 c2 ys) : Calls Tryz.prog 100 #[.slice A n c,.slice A2 n2 c2] w (En w (.bool (decide (xs=ys)))):=by
 have hb:=h1.max;have EP:=zH h1.len;have ow:=zH h2.len;have H1:=zH h1;have H2:=zH h2;clear h1 h2;by_cases fR:n=n2
 ·subst fR;obtain⟨z,hz⟩:∃z,decide (xs=ys)=z:=⟨_,rfl⟩;rw[hz];have HZ:=zH hz;clear hz;go_enter Tryz.func100,Tryz.ntmps100;go_wp2_with fail;go_loopw [5] (λi wr=>∃k m:Nat,k<=n/\i=.int .i64 k/\xs.take k=ys.take k/\wr=w.drewN m) (λi _=>n-(intOf i).toNat)
  case atStart=>exact⟨0,0,Nat.zero_le _,rfl,by rw[List.take_zero,List.take_zero],rfl⟩
  case round=>
   obtain⟨k,m,hk,rfl,rX,rfl⟩:=hrel;have HT:=zH rX;clear rX;by_cases hlt:k<n
   ·obtain⟨b,o,x,rfl,_,iF,e1⟩:=H1.out.limb_at hlt;obtain⟨b2,o2,y,rfl,_,xB,e2⟩:=H2.out.limb_at hlt;have lI:(k:Int)<(n:Int):=by omega
    have Sr:(k:Int)<=(c:Int):=by have:=H1.out.cap;omega
    have Ve:(k:Int)<=(c2:Int):=by have:=H2.out.cap;omega
    by_cases mZ:x=y
    ·have hs:=kj HT.out iF xB mZ;have HS:=zH hs;subst mZ;have dx:((x.toNat:Int) !=(x.toNat:Int))=false:=by simp
     clear hs iF xB;go_wp2_with fail;go_quiet (fail)
     go_wp2_with fail;go_roundw
     case rel=>exact⟨k+1,_,by omega,by go_num,HS.out,rfl⟩
     case measure=>simp[intOf];omega
    ·have bw:z=false:=by rw[<-HZ.out];exact decide_eq_false (oW iF xB mZ)
     have fa:=zH bw;have dx2:x.toNat≠y.toNat:=λe=>mZ (BitVec.eq_of_toNat_eq e);have dx:((x.toNat:Int) !=(y.toNat:Int))=true:=by simp;omega
     have dx3:(x.toNat !=y.toNat)=true:=by simpa using dx2
     clear bw iF xB mZ;go_wp2_with fail;go_quiet (fail)
     go_wp2_with fail;go_ret
     exact⟨gP (by rw[fa.out];rfl),_,World.drewN_drewN _ _ _⟩
   ·have Br:z=true:=by
     have e:=HT.out;rw[List.take_of_length_le (by rw[EP.out];omega),List.take_of_length_le (by rw[ow.out];omega)] at e;rw[<-HZ.out];exact decide_eq_true e
    have JF:=zH Br;have lI:((k:Int)<(n:Int))=False:=eq_false (by omega);clear Br;go_wp2_with fail;go_ret
    exact⟨gP (by rw[JF.out];rfl),_,rfl⟩
 ·have afG:((n:Int) !=(n2:Int))=true:=by simp;omega
  have mZ:decide (xs=ys)=false:=decide_eq_false (by rintro rfl;exact fR (EP.out.symm.trans ow.out));rw[mZ];clear mZ fR;go_enter Tryz.func100,Tryz.ntmps100;go_wp2_with fail;go_ret
  exact⟨rfl,0,rfl⟩
theorem Fx {w:World} {S S2:Nat->Prop} {v v2:Value} {a b:Raw} (h:SV w S v a) (h2:SV w S2 v2 b) (hS:∀b,S b->b<w.heap.size) (gZ:∀b,S2 b->b<w.heap.size) : Calls Tryz.prog 55 #[v,v2] w (kB w (.bool (decide (a.neg=b.neg)&&(decide (a.num=b.num)&&decide (a.den=b.den))))):=by
 obtain⟨cs,rfl,A,n,c,A2,n2,c2,rfl,r1,r2⟩:=h;obtain⟨cs,rfl,A3,n3,c3,A4,n4,c4,rfl,r3,r4⟩:=h2;obtain⟨na,pa,ca⟩:=a;obtain⟨nb,pb,cb⟩:=b;simp only at r1 r2 r3 r4 ⊢;obtain⟨w1,fE⟩:∃x,(w.alloc (.cells #[.bool na,.slice A n c,.slice A2 n2 c2] 28)).alloc (.cells #[.bool nb,.slice A3 n3 c3,.slice A4 n4 c4] 28)=x:=⟨_,rfl⟩;have ci:Below w.heap.size w w1:=by rw[<-fE];exact((Below.refl _ _).alloc (Nat.le_refl _) _).alloc (by simp) _
 have EG:df w1 w.heap.size 28 #[.bool na,.slice A n c,.slice A2 n2 c2]:=by rw[<-fE];exact(df.new _ _ _).alloc _
 have EF:df w1 (w.heap.size+1) 28 #[.bool nb,.slice A3 n3 c3,.slice A4 n4 c4]:=by
  rw[<-fE];have:=df.new (w.alloc (.cells #[.bool na,.slice A n c,.slice A2 n2 c2] 28)) 28 #[.bool nb,.slice A3 n3 c3,.slice A4 n4 c4];simpa using this
 have H1:=zH (r1.below ci hS);have H2:=zH (r2.below ci hS);have H3:=zH (r3.below ci gZ);have H4:=zH (r4.below ci gZ);obtain⟨z,hz⟩:∃z,(decide (na=nb)&&(decide (pa=pb)&&decide (ca=cb)))=z:=⟨_,rfl⟩;have gD:=hz.symm;rw[hz];obtain⟨d0,d1,d2,_,_,_⟩:=EG.facts3;obtain⟨d3,d4,d5,_,_,_⟩:=EF.facts3;have nz:=zH fE;have fe:=zH ci;have HZ:=zH gD;clear fE ci hz gD EG EF r1 r2 r3 r4;show Calls _ _ #[.agg #[.bool na,.slice A n c,.slice A2 n2 c2],.agg #[.bool nb,.slice A3 n3 c3,.slice A4 n4 c4]] w _;go_enter Tryz.func55,Tryz.ntmps55;by_cases hn:na=nb
 ·have bw:=HZ.out;rw[decide_eq_true hn,Bool.true_and] at bw;have fa:=zH bw;subst hn;have heq:(na==na)=true:=by simp
  clear bw HZ;go_wp2_with fail;rw[nz.out];go_wp2_with fail;refine(QD H1.out H3.out).mono ?_;rintro e w' ⟨rfl,m,rfl⟩;by_cases hx:pa=pb
  ·have bw:=fa.out;rw[decide_eq_true hx,Bool.true_and] at bw;rw[decide_eq_true hx];have ot:=zH bw;clear bw fa hx;go_wp2_with fail;refine(QD (H2.out.drewN m) (H4.out.drewN m)).mono ?_;rintro e w' ⟨rfl,m2,rfl⟩;rw[<-ot.out];go_wp2_with fail;go_ret
   exact⟨rfl,below_drewN fe.out _⟩
  ·have bw:=fa.out;rw[decide_eq_false hx,Bool.false_and] at bw;rw[decide_eq_false hx];have ot:=zH bw;clear bw fa hx;go_wp2_with fail;go_ret
   exact⟨by rw[ot.out];rfl,below_drewN fe.out m⟩
 ·have bw:=HZ.out;rw[decide_eq_false hn,Bool.false_and] at bw;have fa:=zH bw;have heq:(na==nb)=false:=by simpa using hn
  clear bw HZ hn;go_wp2_with fail;rw[nz.out];go_wp2_with fail;go_ret
  exact⟨by rw[fa.out];rfl,fe.out⟩
theorem vQ (c:UInt8) (w:World):Calls Tryz.prog 198 #[.int .u8 (c.toNat:Int)] w (jk w (.bool (fl c))):=by
 have hc:=c.toNat_lt;obtain⟨n,hn⟩:∃n,c.toNat=n:=⟨_,rfl⟩;unfold fl;rw[hn] at hc ⊢;go_enter Tryz.func198,Tryz.ntmps198;go_wp2_with fail
 all_goals
  go_ret
  exact⟨nh (by simp;omega),rfl⟩
theorem za (c:UInt8) (w:World):Calls Tryz.prog 254 #[.int .u8 (c.toNat:Int)] w (jk w (.bool (digitB c))):=by
 have hc:=c.toNat_lt;obtain⟨n,hn⟩:∃n,c.toNat=n:=⟨_,rfl⟩;unfold digitB;rw[hn] at hc ⊢;go_enter Tryz.func254,Tryz.ntmps254;go_wp2_with fail
 all_goals
  go_ret
  exact⟨nh (by simp;omega),rfl⟩
theorem Nh (c:UInt8) (w:World):Calls Tryz.prog 233 #[.int .u8 (c.toNat:Int)] w (jk w (.bool (jm c))):=by
 have hl:=vQ c w;have hd:=za c w;obtain⟨a,ha⟩:∃a,fl c=a:=⟨_,rfl⟩;obtain⟨b,hb⟩:∃a,digitB c=a:=⟨_,rfl⟩;unfold jm;rw[agS,ha,hb];rw[ha] at hl;rw[hb] at hd;have hc:=c.toNat_lt;obtain⟨n,hn⟩:∃n,c.toNat=n:=⟨_,rfl⟩;rw[hn] at hc hl hd ⊢;have HL:=zH hl;have HD:=zH hd;clear hl hd ha hb hn;go_enter Tryz.func233,Tryz.ntmps233;go_wp2_with fail;refine HL.out.mono ?_;rintro e w' ⟨rfl,rfl⟩;cases a with
 | true=>
  go_wp2_with fail;go_ret
  exact⟨nh (by simp),rfl⟩
 | false=>
  go_wp2_with fail;refine HD.out.mono ?_;rintro e w' ⟨rfl,rfl⟩;cases b with
  | true=>
   go_wp2_with fail;go_ret
   exact⟨nh (by simp),rfl⟩
  | false=>
   go_wp2_with fail;go_ret
   exact⟨nh (by simp;omega),rfl⟩
theorem YH (s:ByteArray) (w:World) (hs:s.size<=9223372036854775807):Calls Tryz.prog 199 #[.string s] w (jk w (.int .i64 ((s.data.toList.takeWhile jm).length:Nat))):=by
 obtain⟨z,hz⟩:∃z,(s.data.toList.takeWhile jm).length=z:=⟨_,rfl⟩;rw[hz];have HZ:=zH hz;clear hz;go_enter Tryz.func199,Tryz.ntmps199;go_wp2_with fail;go_loopw [3] (λv wr=>∃n:Nat,v=.int .i64 n/\n<=s.size/\(∀i x,i<n->s.data.toList[i]?=some x->jm x=true)/\wr=w) (λv _=>s.size-(intOf v).toNat)
 case atStart=>exact⟨0,rfl,Nat.zero_le _,λi x hi=>absurd hi (Nat.not_lt_zero _),rfl⟩
 case round=>
  obtain⟨n,rfl,hn,eQ,rfl⟩:=hrel;have HA:=zH eQ;clear eQ;by_cases hlt:n<s.size
  ·have lI:(n:Int)<(s.size:Int):=by omega
   have hx:=str_at hlt;have hw:=Nh s[n] wr;obtain⟨x,uj⟩:∃x,s[n]=x:=⟨_,rfl⟩;rw[uj] at hx hw;obtain⟨b,hb⟩:∃b,jm x=b:=⟨_,rfl⟩;rw[hb] at hw;have HX:=zH hx;have HW:=zH hw;have HB:=zH hb;clear hx hw hb;go_wp2_with fail;refine HW.out.mono ?_;rintro e w' ⟨rfl,rfl⟩;cases b with
   | true=>
    go_wp2_with fail;go_roundw
    case rel=>
     refine⟨n+1,by go_num,by omega,λi y hi hy=>?_,trivial⟩;rcases(show i<n\/i=n by omega) with h|h
     ·exact HA.out i y h hy
     ·subst h;rw[HX.out] at hy;injection hy with hy
      rw[<-hy];exact HB.out
    case measure=>simp[intOf];omega
   | false=>
    have Bs:z=n:=by rw[<-HZ.out];exact km HA.out (by rw[lw];exact hn) (.inr ⟨x,HX.out,HB.out⟩)
    have HN:=zH Bs;clear Bs;go_wp2_with fail;go_ret
    exact⟨by rw[HN.out];rfl,rfl⟩
  ·have fR:n=s.size:=by omega
   have Bs:z=n:=by rw[<-HZ.out];exact km HA.out (by rw[lw];exact hn) (.inl (by rw[lw];exact fR))
   have HN:=zH Bs;clear Bs fR;go_wp2_with fail;go_ret
   exact⟨by rw[HN.out];rfl,rfl⟩
theorem I4 {l:List UInt8} {x:UInt8} (h:l[0]?=some x):l.head?=some x:=by rw[List.head?_eq_getElem?];exact h
theorem MN (s:ByteArray) (w:World) (hs:s.size<=9223372036854775807):Calls Tryz.prog 150 #[.string s] w (jk w (.bool (iu s.data.toList))):=by
 obtain⟨z,hz⟩:∃z,iu s.data.toList=z:=⟨_,rfl⟩;have gD:=hz.symm;unfold iu at gD;rw[hz];by_cases h:s=⟨#[]⟩
 ·subst h;have bw:z=false:=by rw[gD];rfl
  have fa:=zH bw;clear hz gD bw;go_enter Tryz.func150,Tryz.ntmps150;go_wp2_with fail;go_ret
  exact⟨by rw[fa.out];rfl,rfl⟩
 ·have fR:(s.toList==[])=false:=Fa (l:=[]) h;have aua:(s.toList !=[])=true:=by rw[bne,fR];rfl
  have h0:0<s.size:=by
   rcases Nat.eq_zero_or_pos s.size with h0|h0
   ·exact absurd (ByteArray.ext (Array.eq_empty_of_size_eq_zero h0)) h
   ·exact h0
  have ku:=YH s w hs;have hl:=vQ s[0] w;have hx:=str_at h0;obtain⟨x,uj⟩:∃x,s[0]=x:=⟨_,rfl⟩;rw[uj] at hl hx;obtain⟨b,hb⟩:∃b,fl x=b:=⟨_,rfl⟩;obtain⟨m,hm⟩:∃m,(s.data.toList.takeWhile jm).length=m:=⟨_,rfl⟩;have Xq:s.data.toList≠[]:=by intro e;rw[e] at hx;cases hx
  rw[decide_eq_true Xq,Bool.true_and,I4 hx,Option.map_some,Option.getD_some,hb,hm,lw] at gD;rw[hb] at hl;rw[hm] at ku;have HZ:=zH gD;have HR:=zH ku;have HL:=zH hl;clear hz gD ku hl hx hb hm Xq h;go_enter Tryz.func150,Tryz.ntmps150;go_wp2_with fail;refine HL.out.mono ?_;rintro e w' ⟨rfl,rfl⟩;cases b with
  | false=>
   have bw:z=false:=by rw[HZ.out];rfl
   have fa:=zH bw;clear bw;go_wp2_with fail;go_ret
   exact⟨by rw[fa.out];rfl,rfl⟩
  | true=>
   go_wp2_with fail;refine HR.out.mono ?_;rintro e w' ⟨rfl,rfl⟩;by_cases AJ:m=s.size
   ·have bw:z=true:=by rw[HZ.out,decide_eq_true AJ];rfl
    have fa:=zH bw;have d:((m:Int)==(s.size:Int))=true:=by rw[AJ];simp
    have d2:(m==s.size)=true:=by rw[AJ];simp
    clear bw AJ;go_wp2_with fail;go_ret
    exact⟨by rw[fa.out];first|rfl|(simp[*]),rfl⟩
   ·have bw:z=false:=by rw[HZ.out,decide_eq_false AJ];rfl
    have fa:=zH bw;have d:((m:Int)==(s.size:Int))=false:=by rw[beq_eq_false_iff_ne];omega
    have d2:(m==s.size)=false:=by rw[beq_eq_false_iff_ne];exact AJ
    clear bw AJ;go_wp2_with fail;go_ret
    exact⟨by rw[fa.out];first|rfl|(simp[*]),rfl⟩
theorem sA {p:UInt8->Bool} {l:List UInt8} {k:Nat} {x:UInt8} (hx:l[k]?=some x) (hp:p x=false):l.all p=false:=by
 rw[Bool.eq_false_iff];intro h;have:=List.all_eq_true.1 h x (List.mem_of_getElem? hx);rw[hp] at this;cases this
theorem Ef {p:UInt8->Bool} {l:List UInt8} {n:Nat} (h:∀i x,i<n->l[i]?=some x->p x=true) (hn:n=l.length):l.all p=true:=by
 rw[List.all_eq_true];intro x hx;obtain⟨i,hi,rfl⟩:=List.getElem_of_mem hx;exact h i _ (by omega) (List.getElem?_eq_getElem hi)
theorem KB (s:ByteArray) (w:World) (hs:s.size<=9223372036854775807):Calls Tryz.prog 61 #[.string s] w (jk w (.bool (fY s.data.toList))):=by
 obtain⟨z,hz⟩:∃z,fY s.data.toList=z:=⟨_,rfl⟩;rw[hz];unfold fY at hz;have HZ:=zH hz;clear hz;go_enter Tryz.func61,Tryz.ntmps61;go_wp2_with fail;go_loopw [3] (λv wr=>∃n:Nat,v=.int .i64 n/\n<=s.size/\(∀i x,i<n->s.data.toList[i]?=some x->fZ x=true)/\wr=w) (λv _=>s.size-(intOf v).toNat)
 case atStart=>exact⟨0,rfl,Nat.zero_le _,λi x hi=>absurd hi (Nat.not_lt_zero _),rfl⟩
 case round=>
  obtain⟨n,rfl,hn,eQ,rfl⟩:=hrel;have HA:=zH eQ;clear eQ;by_cases hlt:n<s.size
  ·have lI:(n:Int)<(s.size:Int):=by omega
   have hx:=str_at hlt;obtain⟨x,uj⟩:∃x,s[n]=x:=⟨_,rfl⟩;rw[uj] at hx;obtain⟨q,hq⟩:∃q,x.toNat=q:=⟨_,rfl⟩;have HX:=zH hx;have HQ:=zH hq;have hqx:(x.toNat:Int)=(q:Int):=by rw[hq]
   by_cases h32:q<32
   ·have bw:z=false:=by rw[<-HZ.out];exact sA HX.out (by unfold fZ;rw[HQ.out,decide_eq_false (by omega)];rfl)
    have fa:=zH bw;have d:(q<32)=True:=eq_true h32;have d1:((q:Int)<32)=True:=eq_true (by omega);clear bw hx hq h32;go_wp2_with fail;go_ret
    exact⟨by rw[fa.out];rfl,rfl⟩
   ·have d:(q<32)=False:=eq_false h32;have d1:((q:Int)<32)=False:=eq_false (by omega);by_cases h126:126<q
    ·have bw:z=false:=by rw[<-HZ.out];exact sA HX.out (by unfold fZ;rw[HQ.out,decide_eq_true (by omega:32<=q),decide_eq_false (by omega)];rfl)
     have fa:=zH bw;have e:(126<q)=True:=eq_true h126;have e1:(126<(q:Int))=True:=eq_true (by omega);clear bw hx hq h32 h126;go_wp2_with fail;go_ret
     exact⟨by rw[fa.out];rfl,rfl⟩
    ·have e:(126<q)=False:=eq_false h126;have e1:(126<(q:Int))=False:=eq_false (by omega);have xC:fZ x=true:=by unfold fZ;rw[HQ.out,decide_eq_true (by omega:32<=q),decide_eq_true (by omega)];rfl
     have HPL:=zH xC;clear hx hq h32 h126 xC;go_wp2_with fail;go_roundw
     case rel=>
      refine⟨n+1,by go_num,by omega,λi y hi hy=>?_,trivial⟩;rcases(show i<n\/i=n by omega) with h|h
      ·exact HA.out i y h hy
      ·subst h;rw[HX.out] at hy;injection hy with hy
       rw[<-hy];exact HPL.out
     case measure=>simp[intOf];omega
  ·have Br:z=true:=by rw[<-HZ.out];exact Ef HA.out (by rw[lw];omega)
   have JF:=zH Br;clear Br;go_wp2_with fail;go_ret
   exact⟨by rw[JF.out];rfl,rfl⟩
theorem agR (c:UInt8):(some c==some (48:UInt8))=decide (c.toNat=48):=by
 rw[Bool.eq_iff_iff,beq_iff_eq,decide_eq_true_iff];exact⟨λh=>by injection h with h;rw[h];rfl,λh=>congrArg some (UInt8.toNat_inj.1 (by rw[h];rfl))⟩
theorem FF (s:ByteArray) (w:World) (hs:s.size<=9223372036854775807):Calls Tryz.prog 234 #[.string s] w (jk w (.bool (jM s.data.toList))):=by
 obtain⟨z,hz⟩:∃z,jM s.data.toList=z:=⟨_,rfl⟩;rw[hz];unfold jM at hz;rw[lw] at hz;have HZ:=zH hz;clear hz;go_enter Tryz.func234,Tryz.ntmps234;go_wp2_with fail;go_loopw [3] (λv wr=>∃n:Nat,v=.int .i64 n/\n<=s.size/\(∀i x,i<n->s.data.toList[i]?=some x->digitB x=true)/\wr=w) (λv _=>s.size-(intOf v).toNat)
 case atStart=>exact⟨0,rfl,Nat.zero_le _,λi x hi=>absurd hi (Nat.not_lt_zero _),rfl⟩
 case round=>
  obtain⟨n,rfl,hn,eQ,rfl⟩:=hrel;have HA:=zH eQ;clear eQ;by_cases hlt:n<s.size
  ·have lI:(n:Int)<(s.size:Int):=by omega
   have hx:=str_at hlt;have hw:=za s[n] wr;obtain⟨x,uj⟩:∃x,s[n]=x:=⟨_,rfl⟩;rw[uj] at hx hw;obtain⟨b,hb⟩:∃b,digitB x=b:=⟨_,rfl⟩;rw[hb] at hw;have HX:=zH hx;have HW:=zH hw;have HB:=zH hb;clear hx hw hb;go_wp2_with fail;refine HW.out.mono ?_;rintro e w' ⟨rfl,rfl⟩;cases b with
   | true=>
    go_wp2_with fail;go_roundw
    case rel=>
     refine⟨n+1,by go_num,by omega,λi y hi hy=>?_,trivial⟩;rcases(show i<n\/i=n by omega) with h|h
     ·exact HA.out i y h hy
     ·subst h;rw[HX.out] at hy;injection hy with hy
      rw[<-hy];exact HB.out
    case measure=>simp[intOf];omega
   | false=>
    have bw:z=false:=by rw[<-HZ.out,sA HX.out HB.out];rfl
    have fa:=zH bw;clear bw;go_wp2_with fail;go_ret
    exact⟨by rw[fa.out];rfl,rfl⟩
  ·have Br:=HZ.out;rw[Ef HA.out (by rw[lw];omega),Bool.true_and] at Br;have lI:((n:Int)<(s.size:Int))=False:=eq_false (by omega);have JF:=zH Br;clear Br;by_cases h1:1<=s.size
   ·have d1:(1<=(s.size:Int))=True:=eq_true (by omega);have d1n:(1<=s.size)=True:=eq_true h1;by_cases h6:s.size<=6
    ·have d6:((s.size:Int)<=6)=True:=eq_true (by omega);have d6n:(s.size<=6)=True:=eq_true h6;by_cases he:s.size=1
     ·have bw:z=true:=by rw[<-JF.out,decide_eq_true h1,decide_eq_true h6,decide_eq_true he];rfl
      have fa:=zH bw;have de:((s.size:Int)==1)=true:=by rw[he];rfl
      have den:(s.size==1)=true:=by rw[he];rfl
      clear bw he h1 h6 hlt;go_wp2_with fail;go_ret
      exact⟨by rw[fa.out];rfl,rfl⟩
     ·have de:((s.size:Int)==1)=false:=by rw[beq_eq_false_iff_ne];omega
      have den:(s.size==1)=false:=by rw[beq_eq_false_iff_ne];exact he
      have h0:0<s.size:=by omega
      have hx:=str_at h0;obtain⟨x,uj⟩:∃x,s[0]=x:=⟨_,rfl⟩;rw[uj] at hx;have hzx:=JF.out;rw[decide_eq_true h1,decide_eq_true h6,decide_eq_false he,I4 hx,agR] at hzx;have HZX:=zH hzx;obtain⟨q,hq⟩:∃q,x.toNat=q:=⟨_,rfl⟩;rw[hq] at HZX;have hqx:(x.toNat:Int)=(q:Int):=by rw[hq]
      by_cases F0:q=48
      ·have bw:z=false:=by rw[<-HZX.out,decide_eq_true F0];rfl
       have fa:=zH bw;have dq:((q:Int) !=48)=false:=by rw[F0];rfl
       have dqn:(q !=48)=false:=by rw[F0];rfl
       clear bw he h1 h6 hlt hx F0 hzx HZX JF HZ;go_wp2_with fail;go_ret
       exact⟨by rw[fa.out];first|rfl|simp[*],rfl⟩
      ·have bw:z=true:=by rw[<-HZX.out,decide_eq_false F0];rfl
       have fa:=zH bw;have dq:((q:Int) !=48)=true:=by simp;omega
       have dqn:(q !=48)=true:=by simpa using F0
       clear bw he h1 h6 hlt hx F0 hzx HZX JF HZ;go_wp2_with fail;go_ret
       exact⟨by rw[fa.out];first|rfl|simp[*],rfl⟩
    ·have d6:((s.size:Int)<=6)=False:=eq_false (by omega);have d6n:(s.size<=6)=False:=eq_false h6;have bw:z=false:=by rw[<-JF.out,decide_eq_true h1,decide_eq_false h6];rfl
     have fa:=zH bw;clear bw h1 h6 hlt;go_wp2_with fail;go_ret
     exact⟨by rw[fa.out];rfl,rfl⟩
   ·have d1:(1<=(s.size:Int))=False:=eq_false (by omega);have d1n:(1<=s.size)=False:=eq_false h1;have bw:z=false:=by rw[<-JF.out,decide_eq_false h1];rfl
    have fa:=zH bw;clear bw h1 hlt;go_wp2_with fail;go_ret
    exact⟨by rw[fa.out];rfl,rfl⟩
end Go.Proofs.YtdbpbfglhbiadaaGreatDoor
