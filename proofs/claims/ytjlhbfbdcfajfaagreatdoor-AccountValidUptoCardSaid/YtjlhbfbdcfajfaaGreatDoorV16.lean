/- Ref13 Ref14 Ref15 Ref16 -/
import Derived.Test.YtjlhbfbdcfajfaaGreatDoorV02
import Derived.Test.YtjlhbfbdcfajfaaGreatDoorV15
import Derived.Test.YtjlhbfbdcfajfaaGreatDoorV14
import Derived.Test.YtjlhbfbdcfajfaaGreatDoorV13
import Derived.Test.YtjlhbfbdcfajfaaGreatDoorV12
set_option maxHeartbeats 8000000
set_option maxRecDepth 100000
namespace Go.Proofs.YtjlhbfbdcfajfaaGreatDoor
open Go.RowKit
theorem lk {α:Type} {l l':List α} {k:Nat} {x y:α} (h:l.take k=l'.take k) (hx:l[k]?=some x) (hy:l'[k]?=some y) (he:x=y):l.take (k+1)=l'.take (k+1):=by
 rw[jh hx,jh hy,h,he]
theorem pC {α:Type} {l l':List α} {k:Nat} {x y:α} (hx:l[k]?=some x) (hy:l'[k]?=some y) (he:x≠y):l≠l':=by
 rintro rfl;rw[hx] at hy;injection hy with hy
 exact he hy
theorem XY {S S2:Nat→Prop} {A A2:Option Addr} {n n2 c c2:Nat} {xs ys:List Int} {w:World} (h1:RS w S A n c xs) (h2:RS w S2 A2 n2 c2 ys) : Calls Tryz.prog 58 #[.slice A n c,.slice A2 n2 c2] w (xb w (.bool (decide (xs=ys)))):=by
 have hb:=h1.max;have Ec:=zH h1.len;have o0:=zH h2.len;have H1:=zH h1;have H2:=zH h2;clear h1 h2;by_cases fv:n=n2
 ·subst fv;obtain⟨z,hz⟩:∃z,decide (xs=ys)=z:=⟨_,rfl⟩;rw[hz];have HZ:=zH hz;clear hz;go_enter Tryz.func58,Tryz.ntmps58;go_wp2_with fail;go_loopw [5] (fun i wr=>∃k m:Nat,k≤n∧i=.int .i64 k∧xs.take k=ys.take k∧wr=w.drewN m) (fun i _=>n-(intOf i).toNat)
  case atStart=>exact⟨0,0,Nat.zero_le _,rfl,by rw[List.take_zero,List.take_zero],rfl⟩
  case round=>
   obtain⟨k,m,hk,rfl,sJ,rfl⟩:=hrel;have HT:=zH sJ;clear sJ;by_cases hlt:k<n
   ·obtain⟨b,o,x,rfl,_,i7,e1⟩:=H1.out.int_at hlt;obtain⟨b2,o2,y,rfl,_,xC,e2⟩:=H2.out.int_at hlt;have jJ:(k:Int)<(n:Int):=by omega
    have NV:(k:Int)≤(c:Int):=by have:=H1.out.cap;omega
    have NU:(k:Int)≤(c2:Int):=by have:=H2.out.cap;omega
    by_cases nW:x=y
    ·have hs:=lk HT.out i7 xC nW;have HS:=zH hs;subst nW;have dx:(x !=x)=false:=by simp
     clear hs i7 xC;go_wp2_with fail;go_quiet (fail)
     go_wp2_with fail;go_roundw
     case rel=>exact⟨k+1,_,by omega,by go_num,HS.out,rfl⟩
     case measure=>simp[intOf];omega
    ·have bj:z=false:=by rw[←HZ.out];exact decide_eq_false (pC i7 xC nW)
     have dL:=zH bj;have dx:(x !=y)=true:=by simpa using nW
     clear bj i7 xC nW;go_wp2_with fail;go_quiet (fail)
     go_wp2_with fail;go_ret
     exact⟨hZ (by rw[dL.out];rfl),_,World.drewN_drewN _ _ _⟩
   ·have Ba:z=true:=by
     have e:=HT.out;rw[List.take_of_length_le (by rw[Ec.out];omega),List.take_of_length_le (by rw[o0.out];omega)] at e;rw[←HZ.out];exact decide_eq_true e
    have IC:=zH Ba;have jJ:((k:Int)<(n:Int))=False:=eq_false (by omega);clear Ba;go_wp2_with fail;go_ret
    exact⟨hZ (by rw[IC.out];rfl),_,rfl⟩
 ·have abz:((n:Int) !=(n2:Int))=true:=by simp;omega
  have nW:decide (xs=ys)=false:=decide_eq_false (by rintro rfl;exact fv (Ec.out.symm.trans o0.out));rw[nW];clear nW fv;go_enter Tryz.func58,Tryz.ntmps58;go_wp2_with fail;go_ret
  exact⟨rfl,0,rfl⟩
theorem XU {S S2:Nat→Prop} {A A2:Option Addr} {n n2 c c2:Nat} {xs ys:List ByteArray} {w:World} (h1:RS w S A n c xs) (h2:RS w S2 A2 n2 c2 ys) : Calls Tryz.prog 57 #[.slice A n c,.slice A2 n2 c2] w (xb w (.bool (decide (xs=ys)))):=by
 have hb:=h1.max;have Ec:=zH h1.len;have o0:=zH h2.len;have H1:=zH h1;have H2:=zH h2;clear h1 h2;by_cases fv:n=n2
 ·subst fv;obtain⟨z,hz⟩:∃z,decide (xs=ys)=z:=⟨_,rfl⟩;rw[hz];have HZ:=zH hz;clear hz;go_enter Tryz.func57,Tryz.ntmps57;go_wp2_with fail;go_loopw [5] (fun i wr=>∃k m:Nat,k≤n∧i=.int .i64 k∧xs.take k=ys.take k∧wr=w.drewN m) (fun i _=>n-(intOf i).toNat)
  case atStart=>exact⟨0,0,Nat.zero_le _,rfl,by rw[List.take_zero,List.take_zero],rfl⟩
  case round=>
   obtain⟨k,m,hk,rfl,sJ,rfl⟩:=hrel;have HT:=zH sJ;clear sJ;by_cases hlt:k<n
   ·obtain⟨b,o,x,rfl,_,i7,e1⟩:=H1.out.str_at hlt;obtain⟨b2,o2,y,rfl,_,xC,e2⟩:=H2.out.str_at hlt;have jJ:(k:Int)<(n:Int):=by omega
    have NV:(k:Int)≤(c:Int):=by have:=H1.out.cap;omega
    have NU:(k:Int)≤(c2:Int):=by have:=H2.out.cap;omega
    by_cases nW:x=y
    ·have hs:=lk HT.out i7 xC nW;have HS:=zH hs;subst nW;have dx:(x.toList !=x.toList)=false:=by simp
     have dx2:(x.toList==x.toList)=true:=by simp
     clear hs i7 xC;go_wp2_with fail;go_quiet (fail)
     go_wp2_with fail;go_roundw
     case rel=>exact⟨k+1,_,by omega,by go_num,HS.out,rfl⟩
     case measure=>simp[intOf];omega
    ·have bj:z=false:=by rw[←HZ.out];exact decide_eq_false (pC i7 xC nW)
     have dL:=zH bj;have dx2:(x.toList==y.toList)=false:=(Lib.bytes_beq_false_iff x y).2 nW;have dx:(x.toList !=y.toList)=true:=by rw[bne,dx2];rfl
     clear bj i7 xC nW;go_wp2_with fail;go_quiet (fail)
     go_wp2_with fail;go_ret
     exact⟨hZ (by rw[dL.out];rfl),_,World.drewN_drewN _ _ _⟩
   ·have Ba:z=true:=by
     have e:=HT.out;rw[List.take_of_length_le (by rw[Ec.out];omega),List.take_of_length_le (by rw[o0.out];omega)] at e;rw[←HZ.out];exact decide_eq_true e
    have IC:=zH Ba;have jJ:((k:Int)<(n:Int))=False:=eq_false (by omega);clear Ba;go_wp2_with fail;go_ret
    exact⟨hZ (by rw[IC.out];rfl),_,rfl⟩
 ·have abz:((n:Int) !=(n2:Int))=true:=by simp;omega
  have nW:decide (xs=ys)=false:=decide_eq_false (by rintro rfl;exact fv (Ec.out.symm.trans o0.out));rw[nW];clear nW fv;go_enter Tryz.func57,Tryz.ntmps57;go_wp2_with fail;go_ret
  exact⟨rfl,0,rfl⟩
theorem OJ {S S2:Nat→Prop} {A A2:Option Addr} {n n2 c c2:Nat} {xs ys:List (BitVec 32)} {w:World} (h1:RS w S A n c xs) (h2:RS w S2 A2 n2 c2 ys) : Calls Tryz.prog 92 #[.slice A n c,.slice A2 n2 c2] w (xb w (.bool (decide (xs=ys)))):=by
 have hb:=h1.max;have Ec:=zH h1.len;have o0:=zH h2.len;have H1:=zH h1;have H2:=zH h2;clear h1 h2;by_cases fv:n=n2
 ·subst fv;obtain⟨z,hz⟩:∃z,decide (xs=ys)=z:=⟨_,rfl⟩;rw[hz];have HZ:=zH hz;clear hz;go_enter Tryz.func92,Tryz.ntmps92;go_wp2_with fail;go_loopw [5] (fun i wr=>∃k m:Nat,k≤n∧i=.int .i64 k∧xs.take k=ys.take k∧wr=w.drewN m) (fun i _=>n-(intOf i).toNat)
  case atStart=>exact⟨0,0,Nat.zero_le _,rfl,by rw[List.take_zero,List.take_zero],rfl⟩
  case round=>
   obtain⟨k,m,hk,rfl,sJ,rfl⟩:=hrel;have HT:=zH sJ;clear sJ;by_cases hlt:k<n
   ·obtain⟨b,o,x,rfl,_,i7,e1⟩:=H1.out.limb_at hlt;obtain⟨b2,o2,y,rfl,_,xC,e2⟩:=H2.out.limb_at hlt;have jJ:(k:Int)<(n:Int):=by omega
    have NV:(k:Int)≤(c:Int):=by have:=H1.out.cap;omega
    have NU:(k:Int)≤(c2:Int):=by have:=H2.out.cap;omega
    by_cases nW:x=y
    ·have hs:=lk HT.out i7 xC nW;have HS:=zH hs;subst nW;have dx:((x.toNat:Int) !=(x.toNat:Int))=false:=by simp
     clear hs i7 xC;go_wp2_with fail;go_quiet (fail)
     go_wp2_with fail;go_roundw
     case rel=>exact⟨k+1,_,by omega,by go_num,HS.out,rfl⟩
     case measure=>simp[intOf];omega
    ·have bj:z=false:=by rw[←HZ.out];exact decide_eq_false (pC i7 xC nW)
     have dL:=zH bj;have dx2:x.toNat≠y.toNat:=fun e=>nW (BitVec.eq_of_toNat_eq e);have dx:((x.toNat:Int) !=(y.toNat:Int))=true:=by simp;omega
     have dx3:(x.toNat !=y.toNat)=true:=by simpa using dx2
     clear bj i7 xC nW;go_wp2_with fail;go_quiet (fail)
     go_wp2_with fail;go_ret
     exact⟨hZ (by rw[dL.out];rfl),_,World.drewN_drewN _ _ _⟩
   ·have Ba:z=true:=by
     have e:=HT.out;rw[List.take_of_length_le (by rw[Ec.out];omega),List.take_of_length_le (by rw[o0.out];omega)] at e;rw[←HZ.out];exact decide_eq_true e
    have IC:=zH Ba;have jJ:((k:Int)<(n:Int))=False:=eq_false (by omega);clear Ba;go_wp2_with fail;go_ret
    exact⟨hZ (by rw[IC.out];rfl),_,rfl⟩
 ·have abz:((n:Int) !=(n2:Int))=true:=by simp;omega
  have nW:decide (xs=ys)=false:=decide_eq_false (by rintro rfl;exact fv (Ec.out.symm.trans o0.out));rw[nW];clear nW fv;go_enter Tryz.func92,Tryz.ntmps92;go_wp2_with fail;go_ret
  exact⟨rfl,0,rfl⟩
theorem EP {w:World} {S S2:Nat→Prop} {v v2:Value} {a b:Raw} (h:SV w S v a) (h2:SV w S2 v2 b) (hS:∀b,S b→b<w.heap.size) (iC:∀b,S2 b→b<w.heap.size) : Calls Tryz.prog 56 #[v,v2] w (j5 w (.bool (decide (a.neg=b.neg)&&(decide (a.num=b.num)&&decide (a.den=b.den))))):=by
 obtain⟨cs,rfl,A,n,c,A2,n2,c2,rfl,r1,r2⟩:=h;obtain⟨cs,rfl,A3,n3,c3,A4,n4,c4,rfl,r3,r4⟩:=h2;obtain⟨na,pa,ca⟩:=a;obtain⟨nb,pb,cb⟩:=b;simp only at r1 r2 r3 r4 ⊢;obtain⟨w1,fX⟩:∃x,(w.alloc (.cells #[.bool na,.slice A n c,.slice A2 n2 c2] 28)).alloc (.cells #[.bool nb,.slice A3 n3 c3,.slice A4 n4 c4] 28)=x:=⟨_,rfl⟩;have cI:Below w.heap.size w w1:=by rw[←fX];exact((Below.refl _ _).alloc (Nat.le_refl _) _).alloc (by simp) _
 have D7:dy w1 w.heap.size 28 #[.bool na,.slice A n c,.slice A2 n2 c2]:=by rw[←fX];exact(dy.new _ _ _).alloc _
 have D6:dy w1 (w.heap.size+1) 28 #[.bool nb,.slice A3 n3 c3,.slice A4 n4 c4]:=by
  rw[←fX];have:=dy.new (w.alloc (.cells #[.bool na,.slice A n c,.slice A2 n2 c2] 28)) 28 #[.bool nb,.slice A3 n3 c3,.slice A4 n4 c4];simpa using this
 have H1:=zH (r1.below cI hS);have H2:=zH (r2.below cI hS);have H3:=zH (r3.below cI iC);have H4:=zH (r4.below cI iC);obtain⟨z,hz⟩:∃z,(decide (na=nb)&&(decide (pa=pb)&&decide (ca=cb)))=z:=⟨_,rfl⟩;have fA:=hz.symm;rw[hz];obtain⟨d0,d1,d2,_,_,_⟩:=D7.facts3;obtain⟨d3,d4,d5,_,_,_⟩:=D6.facts3;have oq:=zH fX;have fy:=zH cI;have HZ:=zH fA;clear fX cI hz fA D7 D6 r1 r2 r3 r4;show Calls _ _ #[.agg #[.bool na,.slice A n c,.slice A2 n2 c2],.agg #[.bool nb,.slice A3 n3 c3,.slice A4 n4 c4]] w _;go_enter Tryz.func56,Tryz.ntmps56;by_cases hn:na=nb
 ·have bj:=HZ.out;rw[decide_eq_true hn,Bool.true_and] at bj;have dL:=zH bj;subst hn;have Xp:(na==na)=true:=by simp
  clear bj HZ;go_wp2_with fail;rw[oq.out];go_wp2_with fail;refine(OJ H1.out H3.out).mono ?_;rintro e w' ⟨rfl,m,rfl⟩;by_cases hx:pa=pb
  ·have bj:=dL.out;rw[decide_eq_true hx,Bool.true_and] at bj;rw[decide_eq_true hx];have k8:=zH bj;clear bj dL hx;go_wp2_with fail;refine(OJ (H2.out.drewN m) (H4.out.drewN m)).mono ?_;rintro e w' ⟨rfl,m2,rfl⟩;rw[←k8.out];go_wp2_with fail;go_ret
   exact⟨rfl,below_drewN fy.out _⟩
  ·have bj:=dL.out;rw[decide_eq_false hx,Bool.false_and] at bj;rw[decide_eq_false hx];have k8:=zH bj;clear bj dL hx;go_wp2_with fail;go_ret
   exact⟨by rw[k8.out];rfl,below_drewN fy.out m⟩
 ·have bj:=HZ.out;rw[decide_eq_false hn,Bool.false_and] at bj;have dL:=zH bj;have Xp:(na==nb)=false:=by simpa using hn
  clear bj HZ hn;go_wp2_with fail;rw[oq.out];go_wp2_with fail;go_ret
  exact⟨by rw[dL.out];rfl,fy.out⟩
theorem vU (c:UInt8) (w:World):Calls Tryz.prog 138 #[.int .u8 (c.toNat:Int)] w (gL w (.bool (gh c))):=by
 have hc:=c.toNat_lt;obtain⟨n,hn⟩:∃n,c.toNat=n:=⟨_,rfl⟩;unfold gh;rw[hn] at hc ⊢;go_enter Tryz.func138,Tryz.ntmps138;go_wp2_with fail
 all_goals
  go_ret
  exact⟨gC (by simp;omega),rfl⟩
theorem yV (c:UInt8) (w:World):Calls Tryz.prog 192 #[.int .u8 (c.toNat:Int)] w (gL w (.bool (digitB c))):=by
 have hc:=c.toNat_lt;obtain⟨n,hn⟩:∃n,c.toNat=n:=⟨_,rfl⟩;unfold digitB;rw[hn] at hc ⊢;go_enter Tryz.func192,Tryz.ntmps192;go_wp2_with fail
 all_goals
  go_ret
  exact⟨gC (by simp;omega),rfl⟩
theorem LG (c:UInt8) (w:World):Calls Tryz.prog 168 #[.int .u8 (c.toNat:Int)] w (gL w (.bool (ij c))):=by
 have hl:=vU c w;have hd:=yV c w;obtain⟨a,ha⟩:∃a,gh c=a:=⟨_,rfl⟩;obtain⟨b,hb⟩:∃a,digitB c=a:=⟨_,rfl⟩;unfold ij;rw[Vf,ha,hb];rw[ha] at hl;rw[hb] at hd;have hc:=c.toNat_lt;obtain⟨n,hn⟩:∃n,c.toNat=n:=⟨_,rfl⟩;rw[hn] at hc hl hd ⊢;have HL:=zH hl;have HD:=zH hd;clear hl hd ha hb hn;go_enter Tryz.func168,Tryz.ntmps168;go_wp2_with fail;refine HL.out.mono ?_;rintro e w' ⟨rfl,rfl⟩;cases a with
 | true=>
  go_wp2_with fail;go_ret
  exact⟨gC (by simp),rfl⟩
 | false=>
  go_wp2_with fail;refine HD.out.mono ?_;rintro e w' ⟨rfl,rfl⟩;cases b with
  | true=>
   go_wp2_with fail;go_ret
   exact⟨gC (by simp),rfl⟩
  | false=>
   go_wp2_with fail;go_ret
   exact⟨gC (by simp;omega),rfl⟩
theorem VK (s:ByteArray) (w:World) (hs:s.size≤9223372036854775807):Calls Tryz.prog 139 #[.string s] w (gL w (.int .i64 ((s.data.toList.takeWhile ij).length:Nat))):=by
 obtain⟨z,hz⟩:∃z,(s.data.toList.takeWhile ij).length=z:=⟨_,rfl⟩;rw[hz];have HZ:=zH hz;clear hz;go_enter Tryz.func139,Tryz.ntmps139;go_wp2_with fail;go_loopw [3] (fun v wr=>∃n:Nat,v=.int .i64 n∧n≤s.size∧(∀i x,i<n→s.data.toList[i]?=some x→ij x=true)∧wr=w) (fun v _=>s.size-(intOf v).toNat)
 case atStart=>exact⟨0,rfl,Nat.zero_le _,fun i x hi=>absurd hi (Nat.not_lt_zero _),rfl⟩
 case round=>
  obtain⟨n,rfl,hn,dS,rfl⟩:=hrel;have HA:=zH dS;clear dS;by_cases hlt:n<s.size
  ·have jJ:(n:Int)<(s.size:Int):=by omega
   have hx:=str_at hlt;have hw:=LG s[n] wr;obtain⟨x,nk⟩:∃x,s[n]=x:=⟨_,rfl⟩;rw[nk] at hx hw;obtain⟨b,hb⟩:∃b,ij x=b:=⟨_,rfl⟩;rw[hb] at hw;have HX:=zH hx;have HW:=zH hw;have HB:=zH hb;clear hx hw hb;go_wp2_with fail;refine HW.out.mono ?_;rintro e w' ⟨rfl,rfl⟩;cases b with
   | true=>
    go_wp2_with fail;go_roundw
    case rel=>
     refine⟨n+1,by go_num,by omega,fun i y hi hy=>?_,trivial⟩;rcases(show i<n∨i=n by omega) with h|h
     ·exact HA.out i y h hy
     ·subst h;rw[HX.out] at hy;injection hy with hy
      rw[←hy];exact HB.out
    case measure=>simp[intOf];omega
   | false=>
    have qe:z=n:=by rw[←HZ.out];exact eX HA.out (by rw[dm];exact hn) (.inr ⟨x,HX.out,HB.out⟩)
    have HN:=zH qe;clear qe;go_wp2_with fail;go_ret
    exact⟨by rw[HN.out];rfl,rfl⟩
  ·have fv:n=s.size:=by omega
   have qe:z=n:=by rw[←HZ.out];exact eX HA.out (by rw[dm];exact hn) (.inl (by rw[dm];exact fv))
   have HN:=zH qe;clear qe fv;go_wp2_with fail;go_ret
   exact⟨by rw[HN.out];rfl,rfl⟩
theorem Ht {l:List UInt8} {x:UInt8} (h:l[0]?=some x):l.head?=some x:=by rw[List.head?_eq_getElem?];exact h
theorem Lj (s:ByteArray) (w:World) (hs:s.size≤9223372036854775807):Calls Tryz.prog 107 #[.string s] w (gL w (.bool (iS s.data.toList))):=by
 obtain⟨z,hz⟩:∃z,iS s.data.toList=z:=⟨_,rfl⟩;have fA:=hz.symm;unfold iS at fA;rw[hz];by_cases h:s=⟨#[]⟩
 ·subst h;have bj:z=false:=by rw[fA];rfl
  have dL:=zH bj;clear hz fA bj;go_enter Tryz.func107,Tryz.ntmps107;go_wp2_with fail;go_ret
  exact⟨by rw[dL.out];rfl,rfl⟩
 ·have fv:(s.toList==[])=false:=pv (l:=[]) h;have an9:(s.toList !=[])=true:=by rw[bne,fv];rfl
  have h0:0<s.size:=by
   rcases Nat.eq_zero_or_pos s.size with h0|h0
   ·exact absurd (ByteArray.ext (Array.eq_empty_of_size_eq_zero h0)) h
   ·exact h0
  have lu:=VK s w hs;have hl:=vU s[0] w;have hx:=str_at h0;obtain⟨x,nk⟩:∃x,s[0]=x:=⟨_,rfl⟩;rw[nk] at hl hx;obtain⟨b,hb⟩:∃b,gh x=b:=⟨_,rfl⟩;obtain⟨m,hm⟩:∃m,(s.data.toList.takeWhile ij).length=m:=⟨_,rfl⟩;have UO:s.data.toList≠[]:=by intro e;rw[e] at hx;cases hx
  rw[decide_eq_true UO,Bool.true_and,Ht hx,Option.map_some,Option.getD_some,hb,hm,dm] at fA;rw[hb] at hl;rw[hm] at lu;have HZ:=zH fA;have HR:=zH lu;have HL:=zH hl;clear hz fA lu hl hx hb hm UO h;go_enter Tryz.func107,Tryz.ntmps107;go_wp2_with fail;refine HL.out.mono ?_;rintro e w' ⟨rfl,rfl⟩;cases b with
  | false=>
   have bj:z=false:=by rw[HZ.out];rfl
   have dL:=zH bj;clear bj;go_wp2_with fail;go_ret
   exact⟨by rw[dL.out];rfl,rfl⟩
  | true=>
   go_wp2_with fail;refine HR.out.mono ?_;rintro e w' ⟨rfl,rfl⟩;by_cases An:m=s.size
   ·have bj:z=true:=by rw[HZ.out,decide_eq_true An];rfl
    have dL:=zH bj;have d:((m:Int)==(s.size:Int))=true:=by rw[An];simp
    have d2:(m==s.size)=true:=by rw[An];simp
    clear bj An;go_wp2_with fail;go_ret
    exact⟨by rw[dL.out];first|rfl|(simp[*]),rfl⟩
   ·have bj:z=false:=by rw[HZ.out,decide_eq_false An];rfl
    have dL:=zH bj;have d:((m:Int)==(s.size:Int))=false:=by rw[beq_eq_false_iff_ne];omega
    have d2:(m==s.size)=false:=by rw[beq_eq_false_iff_ne];exact An
    clear bj An;go_wp2_with fail;go_ret
    exact⟨by rw[dL.out];first|rfl|(simp[*]),rfl⟩
theorem tg {p:UInt8→Bool} {l:List UInt8} {k:Nat} {x:UInt8} (hx:l[k]?=some x) (hp:p x=false):l.all p=false:=by
 rw[Bool.eq_false_iff];intro h;have:=List.all_eq_true.1 h x (List.mem_of_getElem? hx);rw[hp] at this;cases this
theorem DF {p:UInt8→Bool} {l:List UInt8} {n:Nat} (h:∀i x,i<n→l[i]?=some x→p x=true) (hn:n=l.length):l.all p=true:=by
 rw[List.all_eq_true];intro x hx;obtain⟨i,hi,rfl⟩:=List.getElem_of_mem hx;exact h i _ (by omega) (List.getElem?_eq_getElem hi)
theorem Jt (s:ByteArray) (w:World) (hs:s.size≤9223372036854775807):Calls Tryz.prog 45 #[.string s] w (gL w (.bool (fE s.data.toList))):=by
 obtain⟨z,hz⟩:∃z,fE s.data.toList=z:=⟨_,rfl⟩;rw[hz];unfold fE at hz;have HZ:=zH hz;clear hz;go_enter Tryz.func45,Tryz.ntmps45;go_wp2_with fail;go_loopw [3] (fun v wr=>∃n:Nat,v=.int .i64 n∧n≤s.size∧(∀i x,i<n→s.data.toList[i]?=some x→kg x=true)∧wr=w) (fun v _=>s.size-(intOf v).toNat)
 case atStart=>exact⟨0,rfl,Nat.zero_le _,fun i x hi=>absurd hi (Nat.not_lt_zero _),rfl⟩
 case round=>
  obtain⟨n,rfl,hn,dS,rfl⟩:=hrel;have HA:=zH dS;clear dS;by_cases hlt:n<s.size
  ·have jJ:(n:Int)<(s.size:Int):=by omega
   have hx:=str_at hlt;obtain⟨x,nk⟩:∃x,s[n]=x:=⟨_,rfl⟩;rw[nk] at hx;obtain⟨q,hq⟩:∃q,x.toNat=q:=⟨_,rfl⟩;have HX:=zH hx;have HQ:=zH hq;have hqx:(x.toNat:Int)=(q:Int):=by rw[hq]
   by_cases h32:q<32
   ·have bj:z=false:=by rw[←HZ.out];exact tg HX.out (by unfold kg;rw[HQ.out,decide_eq_false (by omega)];rfl)
    have dL:=zH bj;have d:(q<32)=True:=eq_true h32;have d1:((q:Int)<32)=True:=eq_true (by omega);clear bj hx hq h32;go_wp2_with fail;go_ret
    exact⟨by rw[dL.out];rfl,rfl⟩
   ·have d:(q<32)=False:=eq_false h32;have d1:((q:Int)<32)=False:=eq_false (by omega);by_cases h126:126<q
    ·have bj:z=false:=by rw[←HZ.out];exact tg HX.out (by unfold kg;rw[HQ.out,decide_eq_true (by omega:32≤q),decide_eq_false (by omega)];rfl)
     have dL:=zH bj;have e:(126<q)=True:=eq_true h126;have e1:(126<(q:Int))=True:=eq_true (by omega);clear bj hx hq h32 h126;go_wp2_with fail;go_ret
     exact⟨by rw[dL.out];rfl,rfl⟩
    ·have e:(126<q)=False:=eq_false h126;have e1:(126<(q:Int))=False:=eq_false (by omega);have xD:kg x=true:=by unfold kg;rw[HQ.out,decide_eq_true (by omega:32≤q),decide_eq_true (by omega)];rfl
     have HPL:=zH xD;clear hx hq h32 h126 xD;go_wp2_with fail;go_roundw
     case rel=>
      refine⟨n+1,by go_num,by omega,fun i y hi hy=>?_,trivial⟩;rcases(show i<n∨i=n by omega) with h|h
      ·exact HA.out i y h hy
      ·subst h;rw[HX.out] at hy;injection hy with hy
       rw[←hy];exact HPL.out
     case measure=>simp[intOf];omega
  ·have Ba:z=true:=by rw[←HZ.out];exact DF HA.out (by rw[dm];omega)
   have IC:=zH Ba;clear Ba;go_wp2_with fail;go_ret
   exact⟨by rw[IC.out];rfl,rfl⟩
theorem acI (c:UInt8):(some c==some (48:UInt8))=decide (c.toNat=48):=by
 rw[Bool.eq_iff_iff,beq_iff_eq,decide_eq_true_iff];exact⟨fun h=>by injection h with h;rw[h];rfl,fun h=>congrArg some (UInt8.toNat_inj.1 (by rw[h];rfl))⟩
theorem EY (s:ByteArray) (w:World) (hs:s.size≤9223372036854775807):Calls Tryz.prog 169 #[.string s] w (gL w (.bool (kq s.data.toList))):=by
 obtain⟨z,hz⟩:∃z,kq s.data.toList=z:=⟨_,rfl⟩;rw[hz];unfold kq at hz;rw[dm] at hz;have HZ:=zH hz;clear hz;go_enter Tryz.func169,Tryz.ntmps169;go_wp2_with fail;go_loopw [3] (fun v wr=>∃n:Nat,v=.int .i64 n∧n≤s.size∧(∀i x,i<n→s.data.toList[i]?=some x→digitB x=true)∧wr=w) (fun v _=>s.size-(intOf v).toNat)
 case atStart=>exact⟨0,rfl,Nat.zero_le _,fun i x hi=>absurd hi (Nat.not_lt_zero _),rfl⟩
 case round=>
  obtain⟨n,rfl,hn,dS,rfl⟩:=hrel;have HA:=zH dS;clear dS;by_cases hlt:n<s.size
  ·have jJ:(n:Int)<(s.size:Int):=by omega
   have hx:=str_at hlt;have hw:=yV s[n] wr;obtain⟨x,nk⟩:∃x,s[n]=x:=⟨_,rfl⟩;rw[nk] at hx hw;obtain⟨b,hb⟩:∃b,digitB x=b:=⟨_,rfl⟩;rw[hb] at hw;have HX:=zH hx;have HW:=zH hw;have HB:=zH hb;clear hx hw hb;go_wp2_with fail;refine HW.out.mono ?_;rintro e w' ⟨rfl,rfl⟩;cases b with
   | true=>
    go_wp2_with fail;go_roundw
    case rel=>
     refine⟨n+1,by go_num,by omega,fun i y hi hy=>?_,trivial⟩;rcases(show i<n∨i=n by omega) with h|h
     ·exact HA.out i y h hy
     ·subst h;rw[HX.out] at hy;injection hy with hy
      rw[←hy];exact HB.out
    case measure=>simp[intOf];omega
   | false=>
    have bj:z=false:=by rw[←HZ.out,tg HX.out HB.out];rfl
    have dL:=zH bj;clear bj;go_wp2_with fail;go_ret
    exact⟨by rw[dL.out];rfl,rfl⟩
  ·have Ba:=HZ.out;rw[DF HA.out (by rw[dm];omega),Bool.true_and] at Ba;have jJ:((n:Int)<(s.size:Int))=False:=eq_false (by omega);have IC:=zH Ba;clear Ba;by_cases h1:1≤s.size
   ·have d1:(1≤(s.size:Int))=True:=eq_true (by omega);have d1n:(1≤s.size)=True:=eq_true h1;by_cases h6:s.size≤6
    ·have d6:((s.size:Int)≤6)=True:=eq_true (by omega);have d6n:(s.size≤6)=True:=eq_true h6;by_cases he:s.size=1
     ·have bj:z=true:=by rw[←IC.out,decide_eq_true h1,decide_eq_true h6,decide_eq_true he];rfl
      have dL:=zH bj;have de:((s.size:Int)==1)=true:=by rw[he];rfl
      have den:(s.size==1)=true:=by rw[he];rfl
      clear bj he h1 h6 hlt;go_wp2_with fail;go_ret
      exact⟨by rw[dL.out];rfl,rfl⟩
     ·have de:((s.size:Int)==1)=false:=by rw[beq_eq_false_iff_ne];omega
      have den:(s.size==1)=false:=by rw[beq_eq_false_iff_ne];exact he
      have h0:0<s.size:=by omega
      have hx:=str_at h0;obtain⟨x,nk⟩:∃x,s[0]=x:=⟨_,rfl⟩;rw[nk] at hx;have hzx:=IC.out;rw[decide_eq_true h1,decide_eq_true h6,decide_eq_false he,Ht hx,acI] at hzx;have HZX:=zH hzx;obtain⟨q,hq⟩:∃q,x.toNat=q:=⟨_,rfl⟩;rw[hq] at HZX;have hqx:(x.toNat:Int)=(q:Int):=by rw[hq]
      by_cases Ff:q=48
      ·have bj:z=false:=by rw[←HZX.out,decide_eq_true Ff];rfl
       have dL:=zH bj;have dq:((q:Int) !=48)=false:=by rw[Ff];rfl
       have dqn:(q !=48)=false:=by rw[Ff];rfl
       clear bj he h1 h6 hlt hx Ff hzx HZX IC HZ;go_wp2_with fail;go_ret
       exact⟨by rw[dL.out];first|rfl|simp[*],rfl⟩
      ·have bj:z=true:=by rw[←HZX.out,decide_eq_false Ff];rfl
       have dL:=zH bj;have dq:((q:Int) !=48)=true:=by simp;omega
       have dqn:(q !=48)=true:=by simpa using Ff
       clear bj he h1 h6 hlt hx Ff hzx HZX IC HZ;go_wp2_with fail;go_ret
       exact⟨by rw[dL.out];first|rfl|simp[*],rfl⟩
    ·have d6:((s.size:Int)≤6)=False:=eq_false (by omega);have d6n:(s.size≤6)=False:=eq_false h6;have bj:z=false:=by rw[←IC.out,decide_eq_true h1,decide_eq_false h6];rfl
     have dL:=zH bj;clear bj h1 h6 hlt;go_wp2_with fail;go_ret
     exact⟨by rw[dL.out];rfl,rfl⟩
   ·have d1:(1≤(s.size:Int))=False:=eq_false (by omega);have d1n:(1≤s.size)=False:=eq_false h1;have bj:z=false:=by rw[←IC.out,decide_eq_false h1];rfl
    have dL:=zH bj;clear bj h1 hlt;go_wp2_with fail;go_ret
    exact⟨by rw[dL.out];rfl,rfl⟩
end Go.Proofs.YtjlhbfbdcfajfaaGreatDoor
