/- Ref13 Ref14 Ref15 Ref16 -/
import Derived.Test.YtdbpbfglhbiadaaGreatDoorF02
import Derived.Test.YtdbpbfglhbiadaaGreatDoorF17
import Derived.Test.YtdbpbfglhbiadaaGreatDoorF13
import Derived.Test.YtdbpbfglhbiadaaGreatDoorF12
import Derived.Test.YtdbpbfglhbiadaaGreatDoorF11
set_option maxHeartbeats 8000000
set_option maxRecDepth 100000
namespace Go.Proofs.YtdbpbfglhbiadaaGreatDoor
open Go.RowKit
theorem j5 {α:Type} {l l':List α} {k:Nat} {x y:α} (h:l.take k=l'.take k) (hx:l[k]?=some x) (hy:l'[k]?=some y) (he:x=y):l.take (k+1)=l'.take (k+1):=by
 rw[iz hx,iz hy,h,he]
theorem oj {α:Type} {l l':List α} {k:Nat} {x y:α} (hx:l[k]?=some x) (hy:l'[k]?=some y) (he:x≠y):l≠l':=by
 rintro rfl;rw[hx] at hy;injection hy with hy
 exact he hy
theorem YC {S S2:Nat->Prop} {A A2:Option Addr} {n n2 c c2:Nat} {xs ys:List Int} {w:World} (h1:RS w S A n c xs) (h2:RS w S2 A2 n2 c2 ys) : Calls Tryz.prog 56 #[.slice A n c,.slice A2 n2 c2] w (vj w (.bool (decide (xs=ys)))):=by
 have hb:=h1.max;have Dc:=zH h1.len;have nF:=zH h2.len;have H1:=zH h1;have H2:=zH h2;clear h1 h2;by_cases eM:n=n2
 ·subst eM;obtain⟨z,hz⟩:∃z,decide (xs=ys)=z:=⟨_,rfl⟩;rw[hz];have HZ:=zH hz;clear hz;go_enter Tryz.func56,Tryz.ntmps56;go_wp2_with fail;go_loopw [5] (λi wr=>∃k m:Nat,k<=n/\i=.int .i64 k/\xs.take k=ys.take k/\wr=w.drewN m) (λi _=>n-(intOf i).toNat)
  case atStart=>exact⟨0,0,Nat.zero_le _,rfl,by rw[List.take_zero,List.take_zero],rfl⟩
  case round=>
   obtain⟨k,m,hk,rfl,qE,rfl⟩:=hrel;have HT:=zH qE;clear qE;by_cases hlt:k<n
   ·obtain⟨b,o,x,rfl,_,ia,e1⟩:=H1.out.int_at hlt;obtain⟨b2,o2,y,rfl,_,v7,e2⟩:=H2.out.int_at hlt;have iR:(k:Int)<(n:Int):=by omega
    have NA:(k:Int)<=(c:Int):=by have:=H1.out.cap;omega
    have Nz:(k:Int)<=(c2:Int):=by have:=H2.out.cap;omega
    by_cases mA:x=y
    ·have hs:=j5 HT.out ia v7 mA;have HS:=zH hs;subst mA;have dx:(x !=x)=false:=by simp
     clear hs ia v7;go_wp2_with fail;go_quiet (fail)
     go_wp2_with fail;go_roundw
     case rel=>exact⟨k+1,_,by omega,by go_num,HS.out,rfl⟩
     case measure=>simp[intOf];omega
    ·have aW:z=false:=by rw[<-HZ.out];exact decide_eq_false (oj ia v7 mA)
     have db:=zH aW;have dx:(x !=y)=true:=by simpa using mA
     clear aW ia v7 mA;go_wp2_with fail;go_quiet (fail)
     go_wp2_with fail;go_ret
     exact⟨gx (by rw[db.out];rfl),_,World.drewN_drewN _ _ _⟩
   ·have zG:z=true:=by
     have e:=HT.out;rw[List.take_of_length_le (by rw[Dc.out];omega),List.take_of_length_le (by rw[nF.out];omega)] at e;rw[<-HZ.out];exact decide_eq_true e
    have Hn:=zH zG;have iR:((k:Int)<(n:Int))=False:=eq_false (by omega);clear zG;go_wp2_with fail;go_ret
    exact⟨gx (by rw[Hn.out];rfl),_,rfl⟩
 ·have acJ:((n:Int) !=(n2:Int))=true:=by simp;omega
  have mA:decide (xs=ys)=false:=decide_eq_false (by rintro rfl;exact eM (Dc.out.symm.trans nF.out));rw[mA];clear mA eM;go_enter Tryz.func56,Tryz.ntmps56;go_wp2_with fail;go_ret
  exact⟨rfl,0,rfl⟩
theorem Yz {S S2:Nat->Prop} {A A2:Option Addr} {n n2 c c2:Nat} {xs ys:List ByteArray} {w:World} (h1:RS w S A n c xs) (h2:RS w S2 A2 n2 c2 ys) : Calls Tryz.prog 44 #[.slice A n c,.slice A2 n2 c2] w (vj w (.bool (decide (xs=ys)))):=by
 have hb:=h1.max;have Dc:=zH h1.len;have nF:=zH h2.len;have H1:=zH h1;have H2:=zH h2;clear h1 h2;by_cases eM:n=n2
 ·subst eM;obtain⟨z,hz⟩:∃z,decide (xs=ys)=z:=⟨_,rfl⟩;rw[hz];have HZ:=zH hz;clear hz;go_enter Tryz.func44,Tryz.ntmps44;go_wp2_with fail;go_loopw [5] (λi wr=>∃k m:Nat,k<=n/\i=.int .i64 k/\xs.take k=ys.take k/\wr=w.drewN m) (λi _=>n-(intOf i).toNat)
  case atStart=>exact⟨0,0,Nat.zero_le _,rfl,by rw[List.take_zero,List.take_zero],rfl⟩
  case round=>
   obtain⟨k,m,hk,rfl,qE,rfl⟩:=hrel;have HT:=zH qE;clear qE;by_cases hlt:k<n
   ·obtain⟨b,o,x,rfl,_,ia,e1⟩:=H1.out.str_at hlt;obtain⟨b2,o2,y,rfl,_,v7,e2⟩:=H2.out.str_at hlt;have iR:(k:Int)<(n:Int):=by omega
    have NA:(k:Int)<=(c:Int):=by have:=H1.out.cap;omega
    have Nz:(k:Int)<=(c2:Int):=by have:=H2.out.cap;omega
    by_cases mA:x=y
    ·have hs:=j5 HT.out ia v7 mA;have HS:=zH hs;subst mA;have dx:(x.toList !=x.toList)=false:=by simp
     have dx2:(x.toList==x.toList)=true:=by simp
     clear hs ia v7;go_wp2_with fail;go_quiet (fail)
     go_wp2_with fail;go_roundw
     case rel=>exact⟨k+1,_,by omega,by go_num,HS.out,rfl⟩
     case measure=>simp[intOf];omega
    ·have aW:z=false:=by rw[<-HZ.out];exact decide_eq_false (oj ia v7 mA)
     have db:=zH aW;have dx2:(x.toList==y.toList)=false:=(Lib.bytes_beq_false_iff x y).2 mA;have dx:(x.toList !=y.toList)=true:=by rw[bne,dx2];rfl
     clear aW ia v7 mA;go_wp2_with fail;go_quiet (fail)
     go_wp2_with fail;go_ret
     exact⟨gx (by rw[db.out];rfl),_,World.drewN_drewN _ _ _⟩
   ·have zG:z=true:=by
     have e:=HT.out;rw[List.take_of_length_le (by rw[Dc.out];omega),List.take_of_length_le (by rw[nF.out];omega)] at e;rw[<-HZ.out];exact decide_eq_true e
    have Hn:=zH zG;have iR:((k:Int)<(n:Int))=False:=eq_false (by omega);clear zG;go_wp2_with fail;go_ret
    exact⟨gx (by rw[Hn.out];rfl),_,rfl⟩
 ·have acJ:((n:Int) !=(n2:Int))=true:=by simp;omega
  have mA:decide (xs=ys)=false:=decide_eq_false (by rintro rfl;exact eM (Dc.out.symm.trans nF.out));rw[mA];clear mA eM;go_enter Tryz.func44,Tryz.ntmps44;go_wp2_with fail;go_ret
  exact⟨rfl,0,rfl⟩
theorem Oo {S S2:Nat->Prop} {A A2:Option Addr} {n n2 c c2:Nat} {xs ys:List (BitVec 32)} {w:World} (h1:RS w S A n c xs) (h2:RS w S2 A2 n2 c2 ys) : Calls Tryz.prog 100 #[.slice A n c,.slice A2 n2 c2] w (vj w (.bool (decide (xs=ys)))):=by
 have hb:=h1.max;have Dc:=zH h1.len;have nF:=zH h2.len;have H1:=zH h1;have H2:=zH h2;clear h1 h2;by_cases eM:n=n2
 ·subst eM;obtain⟨z,hz⟩:∃z,decide (xs=ys)=z:=⟨_,rfl⟩;rw[hz];have HZ:=zH hz;clear hz;go_enter Tryz.func100,Tryz.ntmps100;go_wp2_with fail;go_loopw [5] (λi wr=>∃k m:Nat,k<=n/\i=.int .i64 k/\xs.take k=ys.take k/\wr=w.drewN m) (λi _=>n-(intOf i).toNat)
  case atStart=>exact⟨0,0,Nat.zero_le _,rfl,by rw[List.take_zero,List.take_zero],rfl⟩
  case round=>
   obtain⟨k,m,hk,rfl,qE,rfl⟩:=hrel;have HT:=zH qE;clear qE;by_cases hlt:k<n
   ·obtain⟨b,o,x,rfl,_,ia,e1⟩:=H1.out.limb_at hlt;obtain⟨b2,o2,y,rfl,_,v7,e2⟩:=H2.out.limb_at hlt;have iR:(k:Int)<(n:Int):=by omega
    have NA:(k:Int)<=(c:Int):=by have:=H1.out.cap;omega
    have Nz:(k:Int)<=(c2:Int):=by have:=H2.out.cap;omega
    by_cases mA:x=y
    ·have hs:=j5 HT.out ia v7 mA;have HS:=zH hs;subst mA;have dx:((x.toNat:Int) !=(x.toNat:Int))=false:=by simp
     clear hs ia v7;go_wp2_with fail;go_quiet (fail)
     go_wp2_with fail;go_roundw
     case rel=>exact⟨k+1,_,by omega,by go_num,HS.out,rfl⟩
     case measure=>simp[intOf];omega
    ·have aW:z=false:=by rw[<-HZ.out];exact decide_eq_false (oj ia v7 mA)
     have db:=zH aW;have dx2:x.toNat≠y.toNat:=λe=>mA (BitVec.eq_of_toNat_eq e);have dx:((x.toNat:Int) !=(y.toNat:Int))=true:=by simp;omega
     have dx3:(x.toNat !=y.toNat)=true:=by simpa using dx2
     clear aW ia v7 mA;go_wp2_with fail;go_quiet (fail)
     go_wp2_with fail;go_ret
     exact⟨gx (by rw[db.out];rfl),_,World.drewN_drewN _ _ _⟩
   ·have zG:z=true:=by
     have e:=HT.out;rw[List.take_of_length_le (by rw[Dc.out];omega),List.take_of_length_le (by rw[nF.out];omega)] at e;rw[<-HZ.out];exact decide_eq_true e
    have Hn:=zH zG;have iR:((k:Int)<(n:Int))=False:=eq_false (by omega);clear zG;go_wp2_with fail;go_ret
    exact⟨gx (by rw[Hn.out];rfl),_,rfl⟩
 ·have acJ:((n:Int) !=(n2:Int))=true:=by simp;omega
  have mA:decide (xs=ys)=false:=decide_eq_false (by rintro rfl;exact eM (Dc.out.symm.trans nF.out));rw[mA];clear mA eM;go_enter Tryz.func100,Tryz.ntmps100;go_wp2_with fail;go_ret
  exact⟨rfl,0,rfl⟩
theorem DY {w:World} {S S2:Nat->Prop} {v v2:Value} {a b:Raw} (h:SV w S v a) (h2:SV w S2 v2 b) (hS:∀b,S b->b<w.heap.size) (gL:∀b,S2 b->b<w.heap.size) : Calls Tryz.prog 55 #[v,v2] w (iT w (.bool (decide (a.neg=b.neg)&&(decide (a.num=b.num)&&decide (a.den=b.den))))):=by
 obtain⟨cs,rfl,A,n,c,A2,n2,c2,rfl,r1,r2⟩:=h;obtain⟨cs,rfl,A3,n3,c3,A4,n4,c4,rfl,r3,r4⟩:=h2;obtain⟨na,pa,ca⟩:=a;obtain⟨nb,pb,cb⟩:=b;simp only at r1 r2 r3 r4 ⊢;obtain⟨w1,fm⟩:∃x,(w.alloc (.cells #[.bool na,.slice A n c,.slice A2 n2 c2] 28)).alloc (.cells #[.bool nb,.slice A3 n3 c3,.slice A4 n4 c4] 28)=x:=⟨_,rfl⟩;have bS:Below w.heap.size w w1:=by rw[<-fm];exact((Below.refl _ _).alloc (Nat.le_refl _) _).alloc (by simp) _
 have CW:cO w1 w.heap.size 28 #[.bool na,.slice A n c,.slice A2 n2 c2]:=by rw[<-fm];exact(cO.new _ _ _).alloc _
 have CU:cO w1 (w.heap.size+1) 28 #[.bool nb,.slice A3 n3 c3,.slice A4 n4 c4]:=by
  rw[<-fm];have:=cO.new (w.alloc (.cells #[.bool na,.slice A n c,.slice A2 n2 c2] 28)) 28 #[.bool nb,.slice A3 n3 c3,.slice A4 n4 c4];simpa using this
 have H1:=zH (r1.below bS hS);have H2:=zH (r2.below bS hS);have H3:=zH (r3.below bS gL);have H4:=zH (r4.below bS gL);obtain⟨z,hz⟩:∃z,(decide (na=nb)&&(decide (pa=pb)&&decide (ca=cb)))=z:=⟨_,rfl⟩;have eQ:=hz.symm;rw[hz];obtain⟨d0,d1,d2,_,_,_⟩:=CW.facts3;obtain⟨d3,d4,d5,_,_,_⟩:=CU.facts3;have mQ:=zH fm;have eP:=zH bS;have HZ:=zH eQ;clear fm bS hz eQ CW CU r1 r2 r3 r4;show Calls _ _ #[.agg #[.bool na,.slice A n c,.slice A2 n2 c2],.agg #[.bool nb,.slice A3 n3 c3,.slice A4 n4 c4]] w _;go_enter Tryz.func55,Tryz.ntmps55;by_cases hn:na=nb
 ·have aW:=HZ.out;rw[decide_eq_true hn,Bool.true_and] at aW;have db:=zH aW;subst hn;have XQ:(na==na)=true:=by simp
  clear aW HZ;go_wp2_with fail;rw[mQ.out];go_wp2_with fail;refine(Oo H1.out H3.out).mono ?_;rintro e w' ⟨rfl,m,rfl⟩;by_cases hx:pa=pb
  ·have aW:=db.out;rw[decide_eq_true hx,Bool.true_and] at aW;rw[decide_eq_true hx];have j1:=zH aW;clear aW db hx;go_wp2_with fail;refine(Oo (H2.out.drewN m) (H4.out.drewN m)).mono ?_;rintro e w' ⟨rfl,m2,rfl⟩;rw[<-j1.out];go_wp2_with fail;go_ret
   exact⟨rfl,below_drewN eP.out _⟩
  ·have aW:=db.out;rw[decide_eq_false hx,Bool.false_and] at aW;rw[decide_eq_false hx];have j1:=zH aW;clear aW db hx;go_wp2_with fail;go_ret
   exact⟨by rw[j1.out];rfl,below_drewN eP.out m⟩
 ·have aW:=HZ.out;rw[decide_eq_false hn,Bool.false_and] at aW;have db:=zH aW;have XQ:(na==nb)=false:=by simpa using hn
  clear aW HZ hn;go_wp2_with fail;rw[mQ.out];go_wp2_with fail;go_ret
  exact⟨by rw[db.out];rfl,eP.out⟩
theorem ui (c:UInt8) (w:World):Calls Tryz.prog 198 #[.int .u8 (c.toNat:Int)] w (ga w (.bool (fB c))):=by
 have hc:=c.toNat_lt;obtain⟨n,hn⟩:∃n,c.toNat=n:=⟨_,rfl⟩;unfold fB;rw[hn] at hc ⊢;go_enter Tryz.func198,Tryz.ntmps198;go_wp2_with fail
 all_goals
  go_ret
  exact⟨fP (by simp;omega),rfl⟩
theorem xM (c:UInt8) (w:World):Calls Tryz.prog 254 #[.int .u8 (c.toNat:Int)] w (ga w (.bool (digitB c))):=by
 have hc:=c.toNat_lt;obtain⟨n,hn⟩:∃n,c.toNat=n:=⟨_,rfl⟩;unfold digitB;rw[hn] at hc ⊢;go_enter Tryz.func254,Tryz.ntmps254;go_wp2_with fail
 all_goals
  go_ret
  exact⟨fP (by simp;omega),rfl⟩
theorem K4 (c:UInt8) (w:World):Calls Tryz.prog 233 #[.int .u8 (c.toNat:Int)] w (ga w (.bool (gC c))):=by
 have hl:=ui c w;have hd:=xM c w;obtain⟨a,ha⟩:∃a,fB c=a:=⟨_,rfl⟩;obtain⟨b,hb⟩:∃a,digitB c=a:=⟨_,rfl⟩;unfold gC;rw[Vd,ha,hb];rw[ha] at hl;rw[hb] at hd;have hc:=c.toNat_lt;obtain⟨n,hn⟩:∃n,c.toNat=n:=⟨_,rfl⟩;rw[hn] at hc hl hd ⊢;have HL:=zH hl;have HD:=zH hd;clear hl hd ha hb hn;go_enter Tryz.func233,Tryz.ntmps233;go_wp2_with fail;refine HL.out.mono ?_;rintro e w' ⟨rfl,rfl⟩;cases a with
 | true=>
  go_wp2_with fail;go_ret
  exact⟨fP (by simp),rfl⟩
 | false=>
  go_wp2_with fail;refine HD.out.mono ?_;rintro e w' ⟨rfl,rfl⟩;cases b with
  | true=>
   go_wp2_with fail;go_ret
   exact⟨fP (by simp),rfl⟩
  | false=>
   go_wp2_with fail;go_ret
   exact⟨fP (by simp;omega),rfl⟩
theorem VY (s:ByteArray) (w:World) (hs:s.size<=9223372036854775807):Calls Tryz.prog 199 #[.string s] w (ga w (.int .i64 ((s.data.toList.takeWhile gC).length:Nat))):=by
 obtain⟨z,hz⟩:∃z,(s.data.toList.takeWhile gC).length=z:=⟨_,rfl⟩;rw[hz];have HZ:=zH hz;clear hz;go_enter Tryz.func199,Tryz.ntmps199;go_wp2_with fail;go_loopw [3] (λv wr=>∃n:Nat,v=.int .i64 n/\n<=s.size/\(∀i x,i<n->s.data.toList[i]?=some x->gC x=true)/\wr=w) (λv _=>s.size-(intOf v).toNat)
 case atStart=>exact⟨0,rfl,Nat.zero_le _,λi x hi=>absurd hi (Nat.not_lt_zero _),rfl⟩
 case round=>
  obtain⟨n,rfl,hn,dW,rfl⟩:=hrel;have HA:=zH dW;clear dW;by_cases hlt:n<s.size
  ·have iR:(n:Int)<(s.size:Int):=by omega
   have hx:=str_at hlt;have hw:=K4 s[n] wr;obtain⟨x,lP⟩:∃x,s[n]=x:=⟨_,rfl⟩;rw[lP] at hx hw;obtain⟨b,hb⟩:∃b,gC x=b:=⟨_,rfl⟩;rw[hb] at hw;have HX:=zH hx;have HW:=zH hw;have HB:=zH hb;clear hx hw hb;go_wp2_with fail;refine HW.out.mono ?_;rintro e w' ⟨rfl,rfl⟩;cases b with
   | true=>
    go_wp2_with fail;go_roundw
    case rel=>
     refine⟨n+1,by go_num,by omega,λi y hi hy=>?_,trivial⟩;rcases(show i<n\/i=n by omega) with h|h
     ·exact HA.out i y h hy
     ·subst h;rw[HX.out] at hy;injection hy with hy
      rw[<-hy];exact HB.out
    case measure=>simp[intOf];omega
   | false=>
    have oK:z=n:=by rw[<-HZ.out];exact ey HA.out (by rw[cJ];exact hn) (.inr ⟨x,HX.out,HB.out⟩)
    have HN:=zH oK;clear oK;go_wp2_with fail;go_ret
    exact⟨by rw[HN.out];rfl,rfl⟩
  ·have eM:n=s.size:=by omega
   have oK:z=n:=by rw[<-HZ.out];exact ey HA.out (by rw[cJ];exact hn) (.inl (by rw[cJ];exact eM))
   have HN:=zH oK;clear oK eM;go_wp2_with fail;go_ret
   exact⟨by rw[HN.out];rfl,rfl⟩
theorem GG {l:List UInt8} {x:UInt8} (h:l[0]?=some x):l.head?=some x:=by rw[List.head?_eq_getElem?];exact h
theorem KF (s:ByteArray) (w:World) (hs:s.size<=9223372036854775807):Calls Tryz.prog 150 #[.string s] w (ga w (.bool (gX s.data.toList))):=by
 obtain⟨z,hz⟩:∃z,gX s.data.toList=z:=⟨_,rfl⟩;have eQ:=hz.symm;unfold gX at eQ;rw[hz];by_cases h:s=⟨#[]⟩
 ·subst h;have aW:z=false:=by rw[eQ];rfl
  have db:=zH aW;clear hz eQ aW;go_enter Tryz.func150,Tryz.ntmps150;go_wp2_with fail;go_ret
  exact⟨by rw[db.out];rfl,rfl⟩
 ·have eM:(s.toList==[])=false:=nY (l:=[]) h;have apy:(s.toList !=[])=true:=by rw[bne,eM];rfl
  have h0:0<s.size:=by
   rcases Nat.eq_zero_or_pos s.size with h0|h0
   ·exact absurd (ByteArray.ext (Array.eq_empty_of_size_eq_zero h0)) h
   ·exact h0
  have ke:=VY s w hs;have hl:=ui s[0] w;have hx:=str_at h0;obtain⟨x,lP⟩:∃x,s[0]=x:=⟨_,rfl⟩;rw[lP] at hl hx;obtain⟨b,hb⟩:∃b,fB x=b:=⟨_,rfl⟩;obtain⟨m,hm⟩:∃m,(s.data.toList.takeWhile gC).length=m:=⟨_,rfl⟩;have UK:s.data.toList≠[]:=by intro e;rw[e] at hx;cases hx
  rw[decide_eq_true UK,Bool.true_and,GG hx,Option.map_some,Option.getD_some,hb,hm,cJ] at eQ;rw[hb] at hl;rw[hm] at ke;have HZ:=zH eQ;have HR:=zH ke;have HL:=zH hl;clear hz eQ ke hl hx hb hm UK h;go_enter Tryz.func150,Tryz.ntmps150;go_wp2_with fail;refine HL.out.mono ?_;rintro e w' ⟨rfl,rfl⟩;cases b with
  | false=>
   have aW:z=false:=by rw[HZ.out];rfl
   have db:=zH aW;clear aW;go_wp2_with fail;go_ret
   exact⟨by rw[db.out];rfl,rfl⟩
  | true=>
   go_wp2_with fail;refine HR.out.mono ?_;rintro e w' ⟨rfl,rfl⟩;by_cases yU:m=s.size
   ·have aW:z=true:=by rw[HZ.out,decide_eq_true yU];rfl
    have db:=zH aW;have d:((m:Int)==(s.size:Int))=true:=by rw[yU];simp
    have d2:(m==s.size)=true:=by rw[yU];simp
    clear aW yU;go_wp2_with fail;go_ret
    exact⟨by rw[db.out];first|rfl|(simp[*]),rfl⟩
   ·have aW:z=false:=by rw[HZ.out,decide_eq_false yU];rfl
    have db:=zH aW;have d:((m:Int)==(s.size:Int))=false:=by rw[beq_eq_false_iff_ne];omega
    have d2:(m==s.size)=false:=by rw[beq_eq_false_iff_ne];exact yU
    clear aW yU;go_wp2_with fail;go_ret
    exact⟨by rw[db.out];first|rfl|(simp[*]),rfl⟩
theorem qR {p:UInt8->Bool} {l:List UInt8} {k:Nat} {x:UInt8} (hx:l[k]?=some x) (hp:p x=false):l.all p=false:=by
 rw[Bool.eq_false_iff];intro h;have:=List.all_eq_true.1 h x (List.mem_of_getElem? hx);rw[hp] at this;cases this
theorem Cw {p:UInt8->Bool} {l:List UInt8} {n:Nat} (h:∀i x,i<n->l[i]?=some x->p x=true) (hn:n=l.length):l.all p=true:=by
 rw[List.all_eq_true];intro x hx;obtain⟨i,hi,rfl⟩:=List.getElem_of_mem hx;exact h i _ (by omega) (List.getElem?_eq_getElem hi)
theorem IK (s:ByteArray) (w:World) (hs:s.size<=9223372036854775807):Calls Tryz.prog 61 #[.string s] w (ga w (.bool (eW s.data.toList))):=by
 obtain⟨z,hz⟩:∃z,eW s.data.toList=z:=⟨_,rfl⟩;rw[hz];unfold eW at hz;have HZ:=zH hz;clear hz;go_enter Tryz.func61,Tryz.ntmps61;go_wp2_with fail;go_loopw [3] (λv wr=>∃n:Nat,v=.int .i64 n/\n<=s.size/\(∀i x,i<n->s.data.toList[i]?=some x->jt x=true)/\wr=w) (λv _=>s.size-(intOf v).toNat)
 case atStart=>exact⟨0,rfl,Nat.zero_le _,λi x hi=>absurd hi (Nat.not_lt_zero _),rfl⟩
 case round=>
  obtain⟨n,rfl,hn,dW,rfl⟩:=hrel;have HA:=zH dW;clear dW;by_cases hlt:n<s.size
  ·have iR:(n:Int)<(s.size:Int):=by omega
   have hx:=str_at hlt;obtain⟨x,lP⟩:∃x,s[n]=x:=⟨_,rfl⟩;rw[lP] at hx;obtain⟨q,hq⟩:∃q,x.toNat=q:=⟨_,rfl⟩;have HX:=zH hx;have HQ:=zH hq;have hqx:(x.toNat:Int)=(q:Int):=by rw[hq]
   by_cases h32:q<32
   ·have aW:z=false:=by rw[<-HZ.out];exact qR HX.out (by unfold jt;rw[HQ.out,decide_eq_false (by omega)];rfl)
    have db:=zH aW;have d:(q<32)=True:=eq_true h32;have d1:((q:Int)<32)=True:=eq_true (by omega);clear aW hx hq h32;go_wp2_with fail;go_ret
    exact⟨by rw[db.out];rfl,rfl⟩
   ·have d:(q<32)=False:=eq_false h32;have d1:((q:Int)<32)=False:=eq_false (by omega);by_cases h126:126<q
    ·have aW:z=false:=by rw[<-HZ.out];exact qR HX.out (by unfold jt;rw[HQ.out,decide_eq_true (by omega:32<=q),decide_eq_false (by omega)];rfl)
     have db:=zH aW;have e:(126<q)=True:=eq_true h126;have e1:(126<(q:Int))=True:=eq_true (by omega);clear aW hx hq h32 h126;go_wp2_with fail;go_ret
     exact⟨by rw[db.out];rfl,rfl⟩
    ·have e:(126<q)=False:=eq_false h126;have e1:(126<(q:Int))=False:=eq_false (by omega);have wi:jt x=true:=by unfold jt;rw[HQ.out,decide_eq_true (by omega:32<=q),decide_eq_true (by omega)];rfl
     have HPL:=zH wi;clear hx hq h32 h126 wi;go_wp2_with fail;go_roundw
     case rel=>
      refine⟨n+1,by go_num,by omega,λi y hi hy=>?_,trivial⟩;rcases(show i<n\/i=n by omega) with h|h
      ·exact HA.out i y h hy
      ·subst h;rw[HX.out] at hy;injection hy with hy
       rw[<-hy];exact HPL.out
     case measure=>simp[intOf];omega
  ·have zG:z=true:=by rw[<-HZ.out];exact Cw HA.out (by rw[cJ];omega)
   have Hn:=zH zG;clear zG;go_wp2_with fail;go_ret
   exact⟨by rw[Hn.out];rfl,rfl⟩
theorem adQ (c:UInt8):(some c==some (48:UInt8))=decide (c.toNat=48):=by
 rw[Bool.eq_iff_iff,beq_iff_eq,decide_eq_true_iff];exact⟨λh=>by injection h with h;rw[h];rfl,λh=>congrArg some (UInt8.toNat_inj.1 (by rw[h];rfl))⟩
theorem D4 (s:ByteArray) (w:World) (hs:s.size<=9223372036854775807):Calls Tryz.prog 234 #[.string s] w (ga w (.bool (ju s.data.toList))):=by
 obtain⟨z,hz⟩:∃z,ju s.data.toList=z:=⟨_,rfl⟩;rw[hz];unfold ju at hz;rw[cJ] at hz;have HZ:=zH hz;clear hz;go_enter Tryz.func234,Tryz.ntmps234;go_wp2_with fail;go_loopw [3] (λv wr=>∃n:Nat,v=.int .i64 n/\n<=s.size/\(∀i x,i<n->s.data.toList[i]?=some x->digitB x=true)/\wr=w) (λv _=>s.size-(intOf v).toNat)
 case atStart=>exact⟨0,rfl,Nat.zero_le _,λi x hi=>absurd hi (Nat.not_lt_zero _),rfl⟩
 case round=>
  obtain⟨n,rfl,hn,dW,rfl⟩:=hrel;have HA:=zH dW;clear dW;by_cases hlt:n<s.size
  ·have iR:(n:Int)<(s.size:Int):=by omega
   have hx:=str_at hlt;have hw:=xM s[n] wr;obtain⟨x,lP⟩:∃x,s[n]=x:=⟨_,rfl⟩;rw[lP] at hx hw;obtain⟨b,hb⟩:∃b,digitB x=b:=⟨_,rfl⟩;rw[hb] at hw;have HX:=zH hx;have HW:=zH hw;have HB:=zH hb;clear hx hw hb;go_wp2_with fail;refine HW.out.mono ?_;rintro e w' ⟨rfl,rfl⟩;cases b with
   | true=>
    go_wp2_with fail;go_roundw
    case rel=>
     refine⟨n+1,by go_num,by omega,λi y hi hy=>?_,trivial⟩;rcases(show i<n\/i=n by omega) with h|h
     ·exact HA.out i y h hy
     ·subst h;rw[HX.out] at hy;injection hy with hy
      rw[<-hy];exact HB.out
    case measure=>simp[intOf];omega
   | false=>
    have aW:z=false:=by rw[<-HZ.out,qR HX.out HB.out];rfl
    have db:=zH aW;clear aW;go_wp2_with fail;go_ret
    exact⟨by rw[db.out];rfl,rfl⟩
  ·have zG:=HZ.out;rw[Cw HA.out (by rw[cJ];omega),Bool.true_and] at zG;have iR:((n:Int)<(s.size:Int))=False:=eq_false (by omega);have Hn:=zH zG;clear zG;by_cases h1:1<=s.size
   ·have d1:(1<=(s.size:Int))=True:=eq_true (by omega);have d1n:(1<=s.size)=True:=eq_true h1;by_cases h6:s.size<=6
    ·have d6:((s.size:Int)<=6)=True:=eq_true (by omega);have d6n:(s.size<=6)=True:=eq_true h6;by_cases he:s.size=1
     ·have aW:z=true:=by rw[<-Hn.out,decide_eq_true h1,decide_eq_true h6,decide_eq_true he];rfl
      have db:=zH aW;have de:((s.size:Int)==1)=true:=by rw[he];rfl
      have den:(s.size==1)=true:=by rw[he];rfl
      clear aW he h1 h6 hlt;go_wp2_with fail;go_ret
      exact⟨by rw[db.out];rfl,rfl⟩
     ·have de:((s.size:Int)==1)=false:=by rw[beq_eq_false_iff_ne];omega
      have den:(s.size==1)=false:=by rw[beq_eq_false_iff_ne];exact he
      have h0:0<s.size:=by omega
      have hx:=str_at h0;obtain⟨x,lP⟩:∃x,s[0]=x:=⟨_,rfl⟩;rw[lP] at hx;have hzx:=Hn.out;rw[decide_eq_true h1,decide_eq_true h6,decide_eq_false he,GG hx,adQ] at hzx;have HZX:=zH hzx;obtain⟨q,hq⟩:∃q,x.toNat=q:=⟨_,rfl⟩;rw[hq] at HZX;have hqx:(x.toNat:Int)=(q:Int):=by rw[hq]
      by_cases Et:q=48
      ·have aW:z=false:=by rw[<-HZX.out,decide_eq_true Et];rfl
       have db:=zH aW;have dq:((q:Int) !=48)=false:=by rw[Et];rfl
       have dqn:(q !=48)=false:=by rw[Et];rfl
       clear aW he h1 h6 hlt hx Et hzx HZX Hn HZ;go_wp2_with fail;go_ret
       exact⟨by rw[db.out];first|rfl|simp[*],rfl⟩
      ·have aW:z=true:=by rw[<-HZX.out,decide_eq_false Et];rfl
       have db:=zH aW;have dq:((q:Int) !=48)=true:=by simp;omega
       have dqn:(q !=48)=true:=by simpa using Et
       clear aW he h1 h6 hlt hx Et hzx HZX Hn HZ;go_wp2_with fail;go_ret
       exact⟨by rw[db.out];first|rfl|simp[*],rfl⟩
    ·have d6:((s.size:Int)<=6)=False:=eq_false (by omega);have d6n:(s.size<=6)=False:=eq_false h6;have aW:z=false:=by rw[<-Hn.out,decide_eq_true h1,decide_eq_false h6];rfl
     have db:=zH aW;clear aW h1 h6 hlt;go_wp2_with fail;go_ret
     exact⟨by rw[db.out];rfl,rfl⟩
   ·have d1:(1<=(s.size:Int))=False:=eq_false (by omega);have d1n:(1<=s.size)=False:=eq_false h1;have aW:z=false:=by rw[<-Hn.out,decide_eq_false h1];rfl
    have db:=zH aW;clear aW h1 hlt;go_wp2_with fail;go_ret
    exact⟨by rw[db.out];rfl,rfl⟩
end Go.Proofs.YtdbpbfglhbiadaaGreatDoor
