/- Ref13 Ref14 Ref15 Ref16 -/
import Derived.Test.YtdbpbfglhbiadaaGreatDoorL02
import Derived.Test.YtdbpbfglhbiadaaGreatDoorL17
import Derived.Test.YtdbpbfglhbiadaaGreatDoorL13
import Derived.Test.YtdbpbfglhbiadaaGreatDoorL12
import Derived.Test.YtdbpbfglhbiadaaGreatDoorL11
set_option maxHeartbeats 8000000
set_option maxRecDepth 100000
namespace Go.Proofs.YtdbpbfglhbiadaaGreatDoor
open Go.RowKit
theorem lG {α:Type} {l l':List α} {k:Nat} {x y:α} (h:l.take k=l'.take k) (hx:l[k]?=some x) (hy:l'[k]?=some y) (he:x=y):l.take (k+1)=l'.take (k+1):=by
 rw[js hx,js hy,h,he]
theorem qA {α:Type} {l l':List α} {k:Nat} {x y:α} (hx:l[k]?=some x) (hy:l'[k]?=some y) (he:x≠y):l≠l':=by
 rintro rfl;rw[hx] at hy;injection hy with hy
 exact he hy
theorem aa5 {S S2:Nat→Prop} {A A2:Option Addr} {n n2 c c2:Nat} {xs ys:List Int} {w:World} (h1:RS w S A n c xs) (h2:RS w S2 A2 n2 c2 ys) : Calls Tryz.prog 56 #[.slice A n c,.slice A2 n2 c2] w (yt w (.bool (decide (xs=ys)))):=by
 have hb:=h1.max;have FF:=zH h1.len;have pG:=zH h2.len;have H1:=zH h1;have H2:=zH h2;clear h1 h2;by_cases fG:n=n2
 ·subst fG;obtain⟨z,hz⟩:∃z,decide (xs=ys)=z:=⟨_,rfl⟩;rw[hz];have HZ:=zH hz;clear hz;go_enter Tryz.func56,Tryz.ntmps56;go_wp2_with fail;go_loopw [5] (fun i wr=>∃k m:Nat,k≤n∧i=.int .i64 k∧xs.take k=ys.take k∧wr=w.drewN m) (fun i _=>n-(intOf i).toNat)
  case atStart=>exact⟨0,0,Nat.zero_le _,rfl,by rw[List.take_zero,List.take_zero],rfl⟩
  case round=>
   obtain⟨k,m,hk,rfl,tY,rfl⟩:=hrel;have HT:=zH tY;clear tY;by_cases hlt:k<n
   ·obtain⟨b,o,x,rfl,_,ji,e1⟩:=H1.out.int_at hlt;obtain⟨b2,o2,y,rfl,_,yR,e2⟩:=H2.out.int_at hlt;have jX:(k:Int)<(n:Int):=by omega
    have PY:(k:Int)≤(c:Int):=by have:=H1.out.cap;omega
    have PX:(k:Int)≤(c2:Int):=by have:=H2.out.cap;omega
    by_cases oD:x=y
    ·have hs:=lG HT.out ji yR oD;have HS:=zH hs;subst oD;have dx:(x !=x)=false:=by simp
     clear hs ji yR;go_wp2_with fail;go_quiet (fail)
     go_wp2_with fail;go_roundw
     case rel=>exact⟨k+1,_,by omega,by go_num,HS.out,rfl⟩
     case measure=>simp[intOf];omega
    ·have bm:z=false:=by rw[←HZ.out];exact decide_eq_false (qA ji yR oD)
     have dU:=zH bm;have dx:(x !=y)=true:=by simpa using oD
     clear bm ji yR oD;go_wp2_with fail;go_quiet (fail)
     go_wp2_with fail;go_ret
     exact⟨iu (by rw[dU.out];rfl),_,World.drewN_drewN _ _ _⟩
   ·have Cv:z=true:=by
     have e:=HT.out;rw[List.take_of_length_le (by rw[FF.out];omega),List.take_of_length_le (by rw[pG.out];omega)] at e;rw[←HZ.out];exact decide_eq_true e
    have JZ:=zH Cv;have jX:((k:Int)<(n:Int))=False:=eq_false (by omega);clear Cv;go_wp2_with fail;go_ret
    exact⟨iu (by rw[JZ.out];rfl),_,rfl⟩
 ·have afh:((n:Int) !=(n2:Int))=true:=by simp;omega
  have oD:decide (xs=ys)=false:=decide_eq_false (by rintro rfl;exact fG (FF.out.symm.trans pG.out));rw[oD];clear oD fG;go_enter Tryz.func56,Tryz.ntmps56;go_wp2_with fail;go_ret
  exact⟨rfl,0,rfl⟩
theorem aa2 {S S2:Nat→Prop} {A A2:Option Addr} {n n2 c c2:Nat} {xs ys:List ByteArray} {w:World} (h1:RS w S A n c xs) (h2:RS w S2 A2 n2 c2 ys) : Calls Tryz.prog 44 #[.slice A n c,.slice A2 n2 c2] w (yt w (.bool (decide (xs=ys)))):=by
 have hb:=h1.max;have FF:=zH h1.len;have pG:=zH h2.len;have H1:=zH h1;have H2:=zH h2;clear h1 h2;by_cases fG:n=n2
 ·subst fG;obtain⟨z,hz⟩:∃z,decide (xs=ys)=z:=⟨_,rfl⟩;rw[hz];have HZ:=zH hz;clear hz;go_enter Tryz.func44,Tryz.ntmps44;go_wp2_with fail;go_loopw [5] (fun i wr=>∃k m:Nat,k≤n∧i=.int .i64 k∧xs.take k=ys.take k∧wr=w.drewN m) (fun i _=>n-(intOf i).toNat)
  case atStart=>exact⟨0,0,Nat.zero_le _,rfl,by rw[List.take_zero,List.take_zero],rfl⟩
  case round=>
   obtain⟨k,m,hk,rfl,tY,rfl⟩:=hrel;have HT:=zH tY;clear tY;by_cases hlt:k<n
   ·obtain⟨b,o,x,rfl,_,ji,e1⟩:=H1.out.str_at hlt;obtain⟨b2,o2,y,rfl,_,yR,e2⟩:=H2.out.str_at hlt;have jX:(k:Int)<(n:Int):=by omega
    have PY:(k:Int)≤(c:Int):=by have:=H1.out.cap;omega
    have PX:(k:Int)≤(c2:Int):=by have:=H2.out.cap;omega
    by_cases oD:x=y
    ·have hs:=lG HT.out ji yR oD;have HS:=zH hs;subst oD;have dx:(x.toList !=x.toList)=false:=by simp
     have dx2:(x.toList==x.toList)=true:=by simp
     clear hs ji yR;go_wp2_with fail;go_quiet (fail)
     go_wp2_with fail;go_roundw
     case rel=>exact⟨k+1,_,by omega,by go_num,HS.out,rfl⟩
     case measure=>simp[intOf];omega
    ·have bm:z=false:=by rw[←HZ.out];exact decide_eq_false (qA ji yR oD)
     have dU:=zH bm;have dx2:(x.toList==y.toList)=false:=(Lib.bytes_beq_false_iff x y).2 oD;have dx:(x.toList !=y.toList)=true:=by rw[bne,dx2];rfl
     clear bm ji yR oD;go_wp2_with fail;go_quiet (fail)
     go_wp2_with fail;go_ret
     exact⟨iu (by rw[dU.out];rfl),_,World.drewN_drewN _ _ _⟩
   ·have Cv:z=true:=by
     have e:=HT.out;rw[List.take_of_length_le (by rw[FF.out];omega),List.take_of_length_le (by rw[pG.out];omega)] at e;rw[←HZ.out];exact decide_eq_true e
    have JZ:=zH Cv;have jX:((k:Int)<(n:Int))=False:=eq_false (by omega);clear Cv;go_wp2_with fail;go_ret
    exact⟨iu (by rw[JZ.out];rfl),_,rfl⟩
 ·have afh:((n:Int) !=(n2:Int))=true:=by simp;omega
  have oD:decide (xs=ys)=false:=decide_eq_false (by rintro rfl;exact fG (FF.out.symm.trans pG.out));rw[oD];clear oD fG;go_enter Tryz.func44,Tryz.ntmps44;go_wp2_with fail;go_ret
  exact⟨rfl,0,rfl⟩
theorem QF {S S2:Nat→Prop} {A A2:Option Addr} {n n2 c c2:Nat} {xs ys:List (BitVec 32)} {w:World} (h1:RS w S A n c xs) (h2:RS w S2 A2 n2 c2 ys) : Calls Tryz.prog 100 #[.slice A n c,.slice A2 n2 c2] w (yt w (.bool (decide (xs=ys)))):=by
 have hb:=h1.max;have FF:=zH h1.len;have pG:=zH h2.len;have H1:=zH h1;have H2:=zH h2;clear h1 h2;by_cases fG:n=n2
 ·subst fG;obtain⟨z,hz⟩:∃z,decide (xs=ys)=z:=⟨_,rfl⟩;rw[hz];have HZ:=zH hz;clear hz;go_enter Tryz.func100,Tryz.ntmps100;go_wp2_with fail;go_loopw [5] (fun i wr=>∃k m:Nat,k≤n∧i=.int .i64 k∧xs.take k=ys.take k∧wr=w.drewN m) (fun i _=>n-(intOf i).toNat)
  case atStart=>exact⟨0,0,Nat.zero_le _,rfl,by rw[List.take_zero,List.take_zero],rfl⟩
  case round=>
   obtain⟨k,m,hk,rfl,tY,rfl⟩:=hrel;have HT:=zH tY;clear tY;by_cases hlt:k<n
   ·obtain⟨b,o,x,rfl,_,ji,e1⟩:=H1.out.limb_at hlt;obtain⟨b2,o2,y,rfl,_,yR,e2⟩:=H2.out.limb_at hlt;have jX:(k:Int)<(n:Int):=by omega
    have PY:(k:Int)≤(c:Int):=by have:=H1.out.cap;omega
    have PX:(k:Int)≤(c2:Int):=by have:=H2.out.cap;omega
    by_cases oD:x=y
    ·have hs:=lG HT.out ji yR oD;have HS:=zH hs;subst oD;have dx:((x.toNat:Int) !=(x.toNat:Int))=false:=by simp
     clear hs ji yR;go_wp2_with fail;go_quiet (fail)
     go_wp2_with fail;go_roundw
     case rel=>exact⟨k+1,_,by omega,by go_num,HS.out,rfl⟩
     case measure=>simp[intOf];omega
    ·have bm:z=false:=by rw[←HZ.out];exact decide_eq_false (qA ji yR oD)
     have dU:=zH bm;have dx2:x.toNat≠y.toNat:=fun e=>oD (BitVec.eq_of_toNat_eq e);have dx:((x.toNat:Int) !=(y.toNat:Int))=true:=by simp;omega
     have dx3:(x.toNat !=y.toNat)=true:=by simpa using dx2
     clear bm ji yR oD;go_wp2_with fail;go_quiet (fail)
     go_wp2_with fail;go_ret
     exact⟨iu (by rw[dU.out];rfl),_,World.drewN_drewN _ _ _⟩
   ·have Cv:z=true:=by
     have e:=HT.out;rw[List.take_of_length_le (by rw[FF.out];omega),List.take_of_length_le (by rw[pG.out];omega)] at e;rw[←HZ.out];exact decide_eq_true e
    have JZ:=zH Cv;have jX:((k:Int)<(n:Int))=False:=eq_false (by omega);clear Cv;go_wp2_with fail;go_ret
    exact⟨iu (by rw[JZ.out];rfl),_,rfl⟩
 ·have afh:((n:Int) !=(n2:Int))=true:=by simp;omega
  have oD:decide (xs=ys)=false:=decide_eq_false (by rintro rfl;exact fG (FF.out.symm.trans pG.out));rw[oD];clear oD fG;go_enter Tryz.func100,Tryz.ntmps100;go_wp2_with fail;go_ret
  exact⟨rfl,0,rfl⟩
theorem Gg {w:World} {S S2:Nat→Prop} {v v2:Value} {a b:Raw} (h:SV w S v a) (h2:SV w S2 v2 b) (hS:∀b,S b→b<w.heap.size) (iM:∀b,S2 b→b<w.heap.size) : Calls Tryz.prog 55 #[v,v2] w (jZ w (.bool (decide (a.neg=b.neg)&&(decide (a.num=b.num)&&decide (a.den=b.den))))):=by
 obtain⟨cs,rfl,A,n,c,A2,n2,c2,rfl,r1,r2⟩:=h;obtain⟨cs,rfl,A3,n3,c3,A4,n4,c4,rfl,r3,r4⟩:=h2;obtain⟨na,pa,ca⟩:=a;obtain⟨nb,pb,cb⟩:=b;simp only at r1 r2 r3 r4 ⊢;obtain⟨w1,gl⟩:∃x,(w.alloc (.cells #[.bool na,.slice A n c,.slice A2 n2 c2] 28)).alloc (.cells #[.bool nb,.slice A3 n3 c3,.slice A4 n4 c4] 28)=x:=⟨_,rfl⟩;have cK:Below w.heap.size w w1:=by rw[←gl];exact((Below.refl _ _).alloc (Nat.le_refl _) _).alloc (by simp) _
 have Fz:dI w1 w.heap.size 28 #[.bool na,.slice A n c,.slice A2 n2 c2]:=by rw[←gl];exact(dI.new _ _ _).alloc _
 have Fy:dI w1 (w.heap.size+1) 28 #[.bool nb,.slice A3 n3 c3,.slice A4 n4 c4]:=by
  rw[←gl];have:=dI.new (w.alloc (.cells #[.bool na,.slice A n c,.slice A2 n2 c2] 28)) 28 #[.bool nb,.slice A3 n3 c3,.slice A4 n4 c4];simpa using this
 have H1:=zH (r1.below cK hS);have H2:=zH (r2.below cK hS);have H3:=zH (r3.below cK iM);have H4:=zH (r4.below cK iM);obtain⟨z,hz⟩:∃z,(decide (na=nb)&&(decide (pa=pb)&&decide (ca=cb)))=z:=⟨_,rfl⟩;have fL:=hz.symm;rw[hz];obtain⟨d0,d1,d2,_,_,_⟩:=Fz.facts3;obtain⟨d3,d4,d5,_,_,_⟩:=Fy.facts3;have oS:=zH gl;have fK:=zH cK;have HZ:=zH fL;clear gl cK hz fL Fz Fy r1 r2 r3 r4;show Calls _ _ #[.agg #[.bool na,.slice A n c,.slice A2 n2 c2],.agg #[.bool nb,.slice A3 n3 c3,.slice A4 n4 c4]] w _;go_enter Tryz.func55,Tryz.ntmps55;by_cases hn:na=nb
 ·have bm:=HZ.out;rw[decide_eq_true hn,Bool.true_and] at bm;have dU:=zH bm;subst hn;have heq:(na==na)=true:=by simp
  clear bm HZ;go_wp2_with fail;rw[oS.out];go_wp2_with fail;refine(QF H1.out H3.out).mono ?_;rintro e w' ⟨rfl,m,rfl⟩;by_cases hx:pa=pb
  ·have bm:=dU.out;rw[decide_eq_true hx,Bool.true_and] at bm;rw[decide_eq_true hx];have lC:=zH bm;clear bm dU hx;go_wp2_with fail;refine(QF (H2.out.drewN m) (H4.out.drewN m)).mono ?_;rintro e w' ⟨rfl,m2,rfl⟩;rw[←lC.out];go_wp2_with fail;go_ret
   exact⟨rfl,below_drewN fK.out _⟩
  ·have bm:=dU.out;rw[decide_eq_false hx,Bool.false_and] at bm;rw[decide_eq_false hx];have lC:=zH bm;clear bm dU hx;go_wp2_with fail;go_ret
   exact⟨by rw[lC.out];rfl,below_drewN fK.out m⟩
 ·have bm:=HZ.out;rw[decide_eq_false hn,Bool.false_and] at bm;have dU:=zH bm;have heq:(na==nb)=false:=by simpa using hn
  clear bm HZ hn;go_wp2_with fail;rw[oS.out];go_wp2_with fail;go_ret
  exact⟨by rw[dU.out];rfl,fK.out⟩
theorem xu (c:UInt8) (w:World):Calls Tryz.prog 198 #[.int .u8 (c.toNat:Int)] w (gW w (.bool (gz c))):=by
 have hc:=c.toNat_lt;obtain⟨n,hn⟩:∃n,c.toNat=n:=⟨_,rfl⟩;unfold gz;rw[hn] at hc ⊢;go_enter Tryz.func198,Tryz.ntmps198;go_wp2_with fail
 all_goals
  go_ret
  exact⟨gN (by simp;omega),rfl⟩
theorem AE (c:UInt8) (w:World):Calls Tryz.prog 254 #[.int .u8 (c.toNat:Int)] w (gW w (.bool (digitB c))):=by
 have hc:=c.toNat_lt;obtain⟨n,hn⟩:∃n,c.toNat=n:=⟨_,rfl⟩;unfold digitB;rw[hn] at hc ⊢;go_enter Tryz.func254,Tryz.ntmps254;go_wp2_with fail
 all_goals
  go_ret
  exact⟨gN (by simp;omega),rfl⟩
theorem Nl (c:UInt8) (w:World):Calls Tryz.prog 233 #[.int .u8 (c.toNat:Int)] w (gW w (.bool (iB c))):=by
 have hl:=xu c w;have hd:=AE c w;obtain⟨a,ha⟩:∃a,gz c=a:=⟨_,rfl⟩;obtain⟨b,hb⟩:∃a,digitB c=a:=⟨_,rfl⟩;unfold iB;rw[Xs,ha,hb];rw[ha] at hl;rw[hb] at hd;have hc:=c.toNat_lt;obtain⟨n,hn⟩:∃n,c.toNat=n:=⟨_,rfl⟩;rw[hn] at hc hl hd ⊢;have HL:=zH hl;have HD:=zH hd;clear hl hd ha hb hn;go_enter Tryz.func233,Tryz.ntmps233;go_wp2_with fail;refine HL.out.mono ?_;rintro e w' ⟨rfl,rfl⟩;cases a with
 | true=>
  go_wp2_with fail;go_ret
  exact⟨gN (by simp),rfl⟩
 | false=>
  go_wp2_with fail;refine HD.out.mono ?_;rintro e w' ⟨rfl,rfl⟩;cases b with
  | true=>
   go_wp2_with fail;go_ret
   exact⟨gN (by simp),rfl⟩
  | false=>
   go_wp2_with fail;go_ret
   exact⟨gN (by simp;omega),rfl⟩
theorem Yh (s:ByteArray) (w:World) (hs:s.size≤9223372036854775807):Calls Tryz.prog 199 #[.string s] w (gW w (.int .i64 ((s.data.toList.takeWhile iB).length:Nat))):=by
 obtain⟨z,hz⟩:∃z,(s.data.toList.takeWhile iB).length=z:=⟨_,rfl⟩;rw[hz];have HZ:=zH hz;clear hz;go_enter Tryz.func199,Tryz.ntmps199;go_wp2_with fail;go_loopw [3] (fun v wr=>∃n:Nat,v=.int .i64 n∧n≤s.size∧(∀i x,i<n→s.data.toList[i]?=some x→iB x=true)∧wr=w) (fun v _=>s.size-(intOf v).toNat)
 case atStart=>exact⟨0,rfl,Nat.zero_le _,fun i x hi=>absurd hi (Nat.not_lt_zero _),rfl⟩
 case round=>
  obtain⟨n,rfl,hn,eR,rfl⟩:=hrel;have HA:=zH eR;clear eR;by_cases hlt:n<s.size
  ·have jX:(n:Int)<(s.size:Int):=by omega
   have hx:=str_at hlt;have hw:=Nl s[n] wr;obtain⟨x,nS⟩:∃x,s[n]=x:=⟨_,rfl⟩;rw[nS] at hx hw;obtain⟨b,hb⟩:∃b,iB x=b:=⟨_,rfl⟩;rw[hb] at hw;have HX:=zH hx;have HW:=zH hw;have HB:=zH hb;clear hx hw hb;go_wp2_with fail;refine HW.out.mono ?_;rintro e w' ⟨rfl,rfl⟩;cases b with
   | true=>
    go_wp2_with fail;go_roundw
    case rel=>
     refine⟨n+1,by go_num,by omega,fun i y hi hy=>?_,trivial⟩;rcases(show i<n∨i=n by omega) with h|h
     ·exact HA.out i y h hy
     ·subst h;rw[HX.out] at hy;injection hy with hy
      rw[←hy];exact HB.out
    case measure=>simp[intOf];omega
   | false=>
    have qW:z=n:=by rw[←HZ.out];exact fm HA.out (by rw[dC];exact hn) (.inr ⟨x,HX.out,HB.out⟩)
    have HN:=zH qW;clear qW;go_wp2_with fail;go_ret
    exact⟨by rw[HN.out];rfl,rfl⟩
  ·have fG:n=s.size:=by omega
   have qW:z=n:=by rw[←HZ.out];exact fm HA.out (by rw[dC];exact hn) (.inl (by rw[dC];exact fG))
   have HN:=zH qW;clear qW fG;go_wp2_with fail;go_ret
   exact⟨by rw[HN.out];rfl,rfl⟩
theorem Jp {l:List UInt8} {x:UInt8} (h:l[0]?=some x):l.head?=some x:=by rw[List.head?_eq_getElem?];exact h
theorem MV (s:ByteArray) (w:World) (hs:s.size≤9223372036854775807):Calls Tryz.prog 150 #[.string s] w (gW w (.bool (ja s.data.toList))):=by
 obtain⟨z,hz⟩:∃z,ja s.data.toList=z:=⟨_,rfl⟩;have fL:=hz.symm;unfold ja at fL;rw[hz];by_cases h:s=⟨#[]⟩
 ·subst h;have bm:z=false:=by rw[fL];rfl
  have dU:=zH bm;clear hz fL bm;go_enter Tryz.func150,Tryz.ntmps150;go_wp2_with fail;go_ret
  exact⟨by rw[dU.out];rfl,rfl⟩
 ·have fG:(s.toList==[])=false:=qg (l:=[]) h;have asf:(s.toList !=[])=true:=by rw[bne,fG];rfl
  have h0:0<s.size:=by
   rcases Nat.eq_zero_or_pos s.size with h0|h0
   ·exact absurd (ByteArray.ext (Array.eq_empty_of_size_eq_zero h0)) h
   ·exact h0
  have lO:=Yh s w hs;have hl:=xu s[0] w;have hx:=str_at h0;obtain⟨x,nS⟩:∃x,s[0]=x:=⟨_,rfl⟩;rw[nS] at hl hx;obtain⟨b,hb⟩:∃b,gz x=b:=⟨_,rfl⟩;obtain⟨m,hm⟩:∃m,(s.data.toList.takeWhile iB).length=m:=⟨_,rfl⟩;have W0:s.data.toList≠[]:=by intro e;rw[e] at hx;cases hx
  rw[decide_eq_true W0,Bool.true_and,Jp hx,Option.map_some,Option.getD_some,hb,hm,dC] at fL;rw[hb] at hl;rw[hm] at lO;have HZ:=zH fL;have HR:=zH lO;have HL:=zH hl;clear hz fL lO hl hx hb hm W0 h;go_enter Tryz.func150,Tryz.ntmps150;go_wp2_with fail;refine HL.out.mono ?_;rintro e w' ⟨rfl,rfl⟩;cases b with
  | false=>
   have bm:z=false:=by rw[HZ.out];rfl
   have dU:=zH bm;clear bm;go_wp2_with fail;go_ret
   exact⟨by rw[dU.out];rfl,rfl⟩
  | true=>
   go_wp2_with fail;refine HR.out.mono ?_;rintro e w' ⟨rfl,rfl⟩;by_cases BQ:m=s.size
   ·have bm:z=true:=by rw[HZ.out,decide_eq_true BQ];rfl
    have dU:=zH bm;have d:((m:Int)==(s.size:Int))=true:=by rw[BQ];simp
    have d2:(m==s.size)=true:=by rw[BQ];simp
    clear bm BQ;go_wp2_with fail;go_ret
    exact⟨by rw[dU.out];first|rfl|(simp[*]),rfl⟩
   ·have bm:z=false:=by rw[HZ.out,decide_eq_false BQ];rfl
    have dU:=zH bm;have d:((m:Int)==(s.size:Int))=false:=by rw[beq_eq_false_iff_ne];omega
    have d2:(m==s.size)=false:=by rw[beq_eq_false_iff_ne];exact BQ
    clear bm BQ;go_wp2_with fail;go_ret
    exact⟨by rw[dU.out];first|rfl|(simp[*]),rfl⟩
theorem um {p:UInt8→Bool} {l:List UInt8} {k:Nat} {x:UInt8} (hx:l[k]?=some x) (hp:p x=false):l.all p=false:=by
 rw[Bool.eq_false_iff];intro h;have:=List.all_eq_true.1 h x (List.mem_of_getElem? hx);rw[hp] at this;cases this
theorem Fe {p:UInt8→Bool} {l:List UInt8} {n:Nat} (h:∀i x,i<n→l[i]?=some x→p x=true) (hn:n=l.length):l.all p=true:=by
 rw[List.all_eq_true];intro x hx;obtain⟨i,hi,rfl⟩:=List.getElem_of_mem hx;exact h i _ (by omega) (List.getElem?_eq_getElem hi)
theorem KT (s:ByteArray) (w:World) (hs:s.size≤9223372036854775807):Calls Tryz.prog 61 #[.string s] w (gW w (.bool (fQ s.data.toList))):=by
 obtain⟨z,hz⟩:∃z,fQ s.data.toList=z:=⟨_,rfl⟩;rw[hz];unfold fQ at hz;have HZ:=zH hz;clear hz;go_enter Tryz.func61,Tryz.ntmps61;go_wp2_with fail;go_loopw [3] (fun v wr=>∃n:Nat,v=.int .i64 n∧n≤s.size∧(∀i x,i<n→s.data.toList[i]?=some x→kB x=true)∧wr=w) (fun v _=>s.size-(intOf v).toNat)
 case atStart=>exact⟨0,rfl,Nat.zero_le _,fun i x hi=>absurd hi (Nat.not_lt_zero _),rfl⟩
 case round=>
  obtain⟨n,rfl,hn,eR,rfl⟩:=hrel;have HA:=zH eR;clear eR;by_cases hlt:n<s.size
  ·have jX:(n:Int)<(s.size:Int):=by omega
   have hx:=str_at hlt;obtain⟨x,nS⟩:∃x,s[n]=x:=⟨_,rfl⟩;rw[nS] at hx;obtain⟨q,hq⟩:∃q,x.toNat=q:=⟨_,rfl⟩;have HX:=zH hx;have HQ:=zH hq;have hqx:(x.toNat:Int)=(q:Int):=by rw[hq]
   by_cases h32:q<32
   ·have bm:z=false:=by rw[←HZ.out];exact um HX.out (by unfold kB;rw[HQ.out,decide_eq_false (by omega)];rfl)
    have dU:=zH bm;have d:(q<32)=True:=eq_true h32;have d1:((q:Int)<32)=True:=eq_true (by omega);clear bm hx hq h32;go_wp2_with fail;go_ret
    exact⟨by rw[dU.out];rfl,rfl⟩
   ·have d:(q<32)=False:=eq_false h32;have d1:((q:Int)<32)=False:=eq_false (by omega);by_cases h126:126<q
    ·have bm:z=false:=by rw[←HZ.out];exact um HX.out (by unfold kB;rw[HQ.out,decide_eq_true (by omega:32≤q),decide_eq_false (by omega)];rfl)
     have dU:=zH bm;have e:(126<q)=True:=eq_true h126;have e1:(126<(q:Int))=True:=eq_true (by omega);clear bm hx hq h32 h126;go_wp2_with fail;go_ret
     exact⟨by rw[dU.out];rfl,rfl⟩
    ·have e:(126<q)=False:=eq_false h126;have e1:(126<(q:Int))=False:=eq_false (by omega);have yS:kB x=true:=by unfold kB;rw[HQ.out,decide_eq_true (by omega:32≤q),decide_eq_true (by omega)];rfl
     have HPL:=zH yS;clear hx hq h32 h126 yS;go_wp2_with fail;go_roundw
     case rel=>
      refine⟨n+1,by go_num,by omega,fun i y hi hy=>?_,trivial⟩;rcases(show i<n∨i=n by omega) with h|h
      ·exact HA.out i y h hy
      ·subst h;rw[HX.out] at hy;injection hy with hy
       rw[←hy];exact HPL.out
     case measure=>simp[intOf];omega
  ·have Cv:z=true:=by rw[←HZ.out];exact Fe HA.out (by rw[dC];omega)
   have JZ:=zH Cv;clear Cv;go_wp2_with fail;go_ret
   exact⟨by rw[JZ.out];rfl,rfl⟩
theorem agn (c:UInt8):(some c==some (48:UInt8))=decide (c.toNat=48):=by
 rw[Bool.eq_iff_iff,beq_iff_eq,decide_eq_true_iff];exact⟨fun h=>by injection h with h;rw[h];rfl,fun h=>congrArg some (UInt8.toNat_inj.1 (by rw[h];rfl))⟩
theorem Gl (s:ByteArray) (w:World) (hs:s.size≤9223372036854775807):Calls Tryz.prog 234 #[.string s] w (gW w (.bool (kH s.data.toList))):=by
 obtain⟨z,hz⟩:∃z,kH s.data.toList=z:=⟨_,rfl⟩;rw[hz];unfold kH at hz;rw[dC] at hz;have HZ:=zH hz;clear hz;go_enter Tryz.func234,Tryz.ntmps234;go_wp2_with fail;go_loopw [3] (fun v wr=>∃n:Nat,v=.int .i64 n∧n≤s.size∧(∀i x,i<n→s.data.toList[i]?=some x→digitB x=true)∧wr=w) (fun v _=>s.size-(intOf v).toNat)
 case atStart=>exact⟨0,rfl,Nat.zero_le _,fun i x hi=>absurd hi (Nat.not_lt_zero _),rfl⟩
 case round=>
  obtain⟨n,rfl,hn,eR,rfl⟩:=hrel;have HA:=zH eR;clear eR;by_cases hlt:n<s.size
  ·have jX:(n:Int)<(s.size:Int):=by omega
   have hx:=str_at hlt;have hw:=AE s[n] wr;obtain⟨x,nS⟩:∃x,s[n]=x:=⟨_,rfl⟩;rw[nS] at hx hw;obtain⟨b,hb⟩:∃b,digitB x=b:=⟨_,rfl⟩;rw[hb] at hw;have HX:=zH hx;have HW:=zH hw;have HB:=zH hb;clear hx hw hb;go_wp2_with fail;refine HW.out.mono ?_;rintro e w' ⟨rfl,rfl⟩;cases b with
   | true=>
    go_wp2_with fail;go_roundw
    case rel=>
     refine⟨n+1,by go_num,by omega,fun i y hi hy=>?_,trivial⟩;rcases(show i<n∨i=n by omega) with h|h
     ·exact HA.out i y h hy
     ·subst h;rw[HX.out] at hy;injection hy with hy
      rw[←hy];exact HB.out
    case measure=>simp[intOf];omega
   | false=>
    have bm:z=false:=by rw[←HZ.out,um HX.out HB.out];rfl
    have dU:=zH bm;clear bm;go_wp2_with fail;go_ret
    exact⟨by rw[dU.out];rfl,rfl⟩
  ·have Cv:=HZ.out;rw[Fe HA.out (by rw[dC];omega),Bool.true_and] at Cv;have jX:((n:Int)<(s.size:Int))=False:=eq_false (by omega);have JZ:=zH Cv;clear Cv;by_cases h1:1≤s.size
   ·have d1:(1≤(s.size:Int))=True:=eq_true (by omega);have d1n:(1≤s.size)=True:=eq_true h1;by_cases h6:s.size≤6
    ·have d6:((s.size:Int)≤6)=True:=eq_true (by omega);have d6n:(s.size≤6)=True:=eq_true h6;by_cases he:s.size=1
     ·have bm:z=true:=by rw[←JZ.out,decide_eq_true h1,decide_eq_true h6,decide_eq_true he];rfl
      have dU:=zH bm;have de:((s.size:Int)==1)=true:=by rw[he];rfl
      have den:(s.size==1)=true:=by rw[he];rfl
      clear bm he h1 h6 hlt;go_wp2_with fail;go_ret
      exact⟨by rw[dU.out];rfl,rfl⟩
     ·have de:((s.size:Int)==1)=false:=by rw[beq_eq_false_iff_ne];omega
      have den:(s.size==1)=false:=by rw[beq_eq_false_iff_ne];exact he
      have h0:0<s.size:=by omega
      have hx:=str_at h0;obtain⟨x,nS⟩:∃x,s[0]=x:=⟨_,rfl⟩;rw[nS] at hx;have hzx:=JZ.out;rw[decide_eq_true h1,decide_eq_true h6,decide_eq_false he,Jp hx,agn] at hzx;have HZX:=zH hzx;obtain⟨q,hq⟩:∃q,x.toNat=q:=⟨_,rfl⟩;rw[hq] at HZX;have hqx:(x.toNat:Int)=(q:Int):=by rw[hq]
      by_cases GG:q=48
      ·have bm:z=false:=by rw[←HZX.out,decide_eq_true GG];rfl
       have dU:=zH bm;have dq:((q:Int) !=48)=false:=by rw[GG];rfl
       have dqn:(q !=48)=false:=by rw[GG];rfl
       clear bm he h1 h6 hlt hx GG hzx HZX JZ HZ;go_wp2_with fail;go_ret
       exact⟨by rw[dU.out];first|rfl|simp[*],rfl⟩
      ·have bm:z=true:=by rw[←HZX.out,decide_eq_false GG];rfl
       have dU:=zH bm;have dq:((q:Int) !=48)=true:=by simp;omega
       have dqn:(q !=48)=true:=by simpa using GG
       clear bm he h1 h6 hlt hx GG hzx HZX JZ HZ;go_wp2_with fail;go_ret
       exact⟨by rw[dU.out];first|rfl|simp[*],rfl⟩
    ·have d6:((s.size:Int)≤6)=False:=eq_false (by omega);have d6n:(s.size≤6)=False:=eq_false h6;have bm:z=false:=by rw[←JZ.out,decide_eq_true h1,decide_eq_false h6];rfl
     have dU:=zH bm;clear bm h1 h6 hlt;go_wp2_with fail;go_ret
     exact⟨by rw[dU.out];rfl,rfl⟩
   ·have d1:(1≤(s.size:Int))=False:=eq_false (by omega);have d1n:(1≤s.size)=False:=eq_false h1;have bm:z=false:=by rw[←JZ.out,decide_eq_false h1];rfl
    have dU:=zH bm;clear bm h1 hlt;go_wp2_with fail;go_ret
    exact⟨by rw[dU.out];rfl,rfl⟩
end Go.Proofs.YtdbpbfglhbiadaaGreatDoor
