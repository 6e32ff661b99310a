/- Ref13 Ref14 Ref15 Ref16 -/
import Derived.Test.YtjlhbfbdcfajfaaGreatDoorW02
import Derived.Test.YtjlhbfbdcfajfaaGreatDoorW17
import Derived.Test.YtjlhbfbdcfajfaaGreatDoorW13
import Derived.Test.YtjlhbfbdcfajfaaGreatDoorW12
import Derived.Test.YtjlhbfbdcfajfaaGreatDoorW11
set_option maxHeartbeats 8000000
set_option maxRecDepth 100000
namespace Go.Proofs.YtjlhbfbdcfajfaaGreatDoor
open Go.RowKit
theorem lE {α:Type} {l l':List α} {k:Nat} {x y:α} (h:l.take k=l'.take k) (hx:l[k]?=some x) (hy:l'[k]?=some y) (he:x=y):l.take (k+1)=l'.take (k+1):=by
 rw[ju hx,ju hy,h,he]
theorem qo {α:Type} {l l':List α} {k:Nat} {x y:α} (hx:l[k]?=some x) (hy:l'[k]?=some y) (he:x≠y):l≠l':=by
 rintro rfl;rw[hx] at hy;injection hy with hy
 exact he hy
theorem aaq {S S2:Nat→Prop} {A A2:Option Addr} {n n2 c c2:Nat} {xs ys:List Int} {w:World} (h1:RS w S A n c xs) (h2:RS w S2 A2 n2 c2 ys) : Calls Tryz.prog 58 #[.slice A n c,.slice A2 n2 c2] w (yc w (.bool (decide (xs=ys)))):=by
 have hb:=h1.max;have Fu:=zH h1.len;have pE:=zH h2.len;have H1:=zH h1;have H2:=zH h2;clear h1 h2;by_cases fI:n=n2
 ·subst fI;obtain⟨z,hz⟩:∃z,decide (xs=ys)=z:=⟨_,rfl⟩;rw[hz];have HZ:=zH hz;clear hz;go_enter Tryz.func58,Tryz.ntmps58;go_wp2_with fail;go_loopw [5] (fun i wr=>∃k m:Nat,k≤n∧i=.int .i64 k∧xs.take k=ys.take k∧wr=w.drewN m) (fun i _=>n-(intOf i).toNat)
  case atStart=>exact⟨0,0,Nat.zero_le _,rfl,by rw[List.take_zero,List.take_zero],rfl⟩
  case round=>
   obtain⟨k,m,hk,rfl,tJ,rfl⟩:=hrel;have HT:=zH tJ;clear tJ;by_cases hlt:k<n
   ·obtain⟨b,o,x,rfl,_,jk,e1⟩:=H1.out.int_at hlt;obtain⟨b2,o2,y,rfl,_,yD,e2⟩:=H2.out.int_at hlt;have jX:(k:Int)<(n:Int):=by omega
    have PD:(k:Int)≤(c:Int):=by have:=H1.out.cap;omega
    have PC:(k:Int)≤(c2:Int):=by have:=H2.out.cap;omega
    by_cases ox:x=y
    ·have hs:=lE HT.out jk yD ox;have HS:=zH hs;subst ox;have dx:(x !=x)=false:=by simp
     clear hs jk yD;go_wp2_with fail;go_quiet (fail)
     go_wp2_with fail;go_roundw
     case rel=>exact⟨k+1,_,by omega,by go_num,HS.out,rfl⟩
     case measure=>simp[intOf];omega
    ·have bm:z=false:=by rw[←HZ.out];exact decide_eq_false (qo jk yD ox)
     have dS:=zH bm;have dx:(x !=y)=true:=by simpa using ox
     clear bm jk yD ox;go_wp2_with fail;go_quiet (fail)
     go_wp2_with fail;go_ret
     exact⟨iw (by rw[dS.out];rfl),_,World.drewN_drewN _ _ _⟩
   ·have Co:z=true:=by
     have e:=HT.out;rw[List.take_of_length_le (by rw[Fu.out];omega),List.take_of_length_le (by rw[pE.out];omega)] at e;rw[←HZ.out];exact decide_eq_true e
    have JR:=zH Co;have jX:((k:Int)<(n:Int))=False:=eq_false (by omega);clear Co;go_wp2_with fail;go_ret
    exact⟨iw (by rw[JR.out];rfl),_,rfl⟩
 ·have aev:((n:Int) !=(n2:Int))=true:=by simp;omega
  have ox:decide (xs=ys)=false:=decide_eq_false (by rintro rfl;exact fI (Fu.out.symm.trans pE.out));rw[ox];clear ox fI;go_enter Tryz.func58,Tryz.ntmps58;go_wp2_with fail;go_ret
  exact⟨rfl,0,rfl⟩
theorem aan {S S2:Nat→Prop} {A A2:Option Addr} {n n2 c c2:Nat} {xs ys:List ByteArray} {w:World} (h1:RS w S A n c xs) (h2:RS w S2 A2 n2 c2 ys) : Calls Tryz.prog 57 #[.slice A n c,.slice A2 n2 c2] w (yc w (.bool (decide (xs=ys)))):=by
 have hb:=h1.max;have Fu:=zH h1.len;have pE:=zH h2.len;have H1:=zH h1;have H2:=zH h2;clear h1 h2;by_cases fI:n=n2
 ·subst fI;obtain⟨z,hz⟩:∃z,decide (xs=ys)=z:=⟨_,rfl⟩;rw[hz];have HZ:=zH hz;clear hz;go_enter Tryz.func57,Tryz.ntmps57;go_wp2_with fail;go_loopw [5] (fun i wr=>∃k m:Nat,k≤n∧i=.int .i64 k∧xs.take k=ys.take k∧wr=w.drewN m) (fun i _=>n-(intOf i).toNat)
  case atStart=>exact⟨0,0,Nat.zero_le _,rfl,by rw[List.take_zero,List.take_zero],rfl⟩
  case round=>
   obtain⟨k,m,hk,rfl,tJ,rfl⟩:=hrel;have HT:=zH tJ;clear tJ;by_cases hlt:k<n
   ·obtain⟨b,o,x,rfl,_,jk,e1⟩:=H1.out.str_at hlt;obtain⟨b2,o2,y,rfl,_,yD,e2⟩:=H2.out.str_at hlt;have jX:(k:Int)<(n:Int):=by omega
    have PD:(k:Int)≤(c:Int):=by have:=H1.out.cap;omega
    have PC:(k:Int)≤(c2:Int):=by have:=H2.out.cap;omega
    by_cases ox:x=y
    ·have hs:=lE HT.out jk yD ox;have HS:=zH hs;subst ox;have dx:(x.toList !=x.toList)=false:=by simp
     have dx2:(x.toList==x.toList)=true:=by simp
     clear hs jk yD;go_wp2_with fail;go_quiet (fail)
     go_wp2_with fail;go_roundw
     case rel=>exact⟨k+1,_,by omega,by go_num,HS.out,rfl⟩
     case measure=>simp[intOf];omega
    ·have bm:z=false:=by rw[←HZ.out];exact decide_eq_false (qo jk yD ox)
     have dS:=zH bm;have dx2:(x.toList==y.toList)=false:=(Lib.bytes_beq_false_iff x y).2 ox;have dx:(x.toList !=y.toList)=true:=by rw[bne,dx2];rfl
     clear bm jk yD ox;go_wp2_with fail;go_quiet (fail)
     go_wp2_with fail;go_ret
     exact⟨iw (by rw[dS.out];rfl),_,World.drewN_drewN _ _ _⟩
   ·have Co:z=true:=by
     have e:=HT.out;rw[List.take_of_length_le (by rw[Fu.out];omega),List.take_of_length_le (by rw[pE.out];omega)] at e;rw[←HZ.out];exact decide_eq_true e
    have JR:=zH Co;have jX:((k:Int)<(n:Int))=False:=eq_false (by omega);clear Co;go_wp2_with fail;go_ret
    exact⟨iw (by rw[JR.out];rfl),_,rfl⟩
 ·have aev:((n:Int) !=(n2:Int))=true:=by simp;omega
  have ox:decide (xs=ys)=false:=decide_eq_false (by rintro rfl;exact fI (Fu.out.symm.trans pE.out));rw[ox];clear ox fI;go_enter Tryz.func57,Tryz.ntmps57;go_wp2_with fail;go_ret
  exact⟨rfl,0,rfl⟩
theorem Qx {S S2:Nat→Prop} {A A2:Option Addr} {n n2 c c2:Nat} {xs ys:List (BitVec 32)} {w:World} (h1:RS w S A n c xs) (h2:RS w S2 A2 n2 c2 ys) : Calls Tryz.prog 92 #[.slice A n c,.slice A2 n2 c2] w (yc w (.bool (decide (xs=ys)))):=by
 have hb:=h1.max;have Fu:=zH h1.len;have pE:=zH h2.len;have H1:=zH h1;have H2:=zH h2;clear h1 h2;by_cases fI:n=n2
 ·subst fI;obtain⟨z,hz⟩:∃z,decide (xs=ys)=z:=⟨_,rfl⟩;rw[hz];have HZ:=zH hz;clear hz;go_enter Tryz.func92,Tryz.ntmps92;go_wp2_with fail;go_loopw [5] (fun i wr=>∃k m:Nat,k≤n∧i=.int .i64 k∧xs.take k=ys.take k∧wr=w.drewN m) (fun i _=>n-(intOf i).toNat)
  case atStart=>exact⟨0,0,Nat.zero_le _,rfl,by rw[List.take_zero,List.take_zero],rfl⟩
  case round=>
   obtain⟨k,m,hk,rfl,tJ,rfl⟩:=hrel;have HT:=zH tJ;clear tJ;by_cases hlt:k<n
   ·obtain⟨b,o,x,rfl,_,jk,e1⟩:=H1.out.limb_at hlt;obtain⟨b2,o2,y,rfl,_,yD,e2⟩:=H2.out.limb_at hlt;have jX:(k:Int)<(n:Int):=by omega
    have PD:(k:Int)≤(c:Int):=by have:=H1.out.cap;omega
    have PC:(k:Int)≤(c2:Int):=by have:=H2.out.cap;omega
    by_cases ox:x=y
    ·have hs:=lE HT.out jk yD ox;have HS:=zH hs;subst ox;have dx:((x.toNat:Int) !=(x.toNat:Int))=false:=by simp
     clear hs jk yD;go_wp2_with fail;go_quiet (fail)
     go_wp2_with fail;go_roundw
     case rel=>exact⟨k+1,_,by omega,by go_num,HS.out,rfl⟩
     case measure=>simp[intOf];omega
    ·have bm:z=false:=by rw[←HZ.out];exact decide_eq_false (qo jk yD ox)
     have dS:=zH bm;have dx2:x.toNat≠y.toNat:=fun e=>ox (BitVec.eq_of_toNat_eq e);have dx:((x.toNat:Int) !=(y.toNat:Int))=true:=by simp;omega
     have dx3:(x.toNat !=y.toNat)=true:=by simpa using dx2
     clear bm jk yD ox;go_wp2_with fail;go_quiet (fail)
     go_wp2_with fail;go_ret
     exact⟨iw (by rw[dS.out];rfl),_,World.drewN_drewN _ _ _⟩
   ·have Co:z=true:=by
     have e:=HT.out;rw[List.take_of_length_le (by rw[Fu.out];omega),List.take_of_length_le (by rw[pE.out];omega)] at e;rw[←HZ.out];exact decide_eq_true e
    have JR:=zH Co;have jX:((k:Int)<(n:Int))=False:=eq_false (by omega);clear Co;go_wp2_with fail;go_ret
    exact⟨iw (by rw[JR.out];rfl),_,rfl⟩
 ·have aev:((n:Int) !=(n2:Int))=true:=by simp;omega
  have ox:decide (xs=ys)=false:=decide_eq_false (by rintro rfl;exact fI (Fu.out.symm.trans pE.out));rw[ox];clear ox fI;go_enter Tryz.func92,Tryz.ntmps92;go_wp2_with fail;go_ret
  exact⟨rfl,0,rfl⟩
theorem F6 {w:World} {S S2:Nat→Prop} {v v2:Value} {a b:Raw} (h:SV w S v a) (h2:SV w S2 v2 b) (hS:∀b,S b→b<w.heap.size) (iN:∀b,S2 b→b<w.heap.size) : Calls Tryz.prog 56 #[v,v2] w (jQ w (.bool (decide (a.neg=b.neg)&&(decide (a.num=b.num)&&decide (a.den=b.den))))):=by
 obtain⟨cs,rfl,A,n,c,A2,n2,c2,rfl,r1,r2⟩:=h;obtain⟨cs,rfl,A3,n3,c3,A4,n4,c4,rfl,r3,r4⟩:=h2;obtain⟨na,pa,ca⟩:=a;obtain⟨nb,pb,cb⟩:=b;simp only at r1 r2 r3 r4 ⊢;obtain⟨w1,gj⟩:∃x,(w.alloc (.cells #[.bool na,.slice A n c,.slice A2 n2 c2] 28)).alloc (.cells #[.bool nb,.slice A3 n3 c3,.slice A4 n4 c4] 28)=x:=⟨_,rfl⟩;have cI:Below w.heap.size w w1:=by rw[←gj];exact((Below.refl _ _).alloc (Nat.le_refl _) _).alloc (by simp) _
 have Fl:dE w1 w.heap.size 28 #[.bool na,.slice A n c,.slice A2 n2 c2]:=by rw[←gj];exact(dE.new _ _ _).alloc _
 have Fj:dE w1 (w.heap.size+1) 28 #[.bool nb,.slice A3 n3 c3,.slice A4 n4 c4]:=by
  rw[←gj];have:=dE.new (w.alloc (.cells #[.bool na,.slice A n c,.slice A2 n2 c2] 28)) 28 #[.bool nb,.slice A3 n3 c3,.slice A4 n4 c4];simpa using this
 have H1:=zH (r1.below cI hS);have H2:=zH (r2.below cI hS);have H3:=zH (r3.below cI iN);have H4:=zH (r4.below cI iN);obtain⟨z,hz⟩:∃z,(decide (na=nb)&&(decide (pa=pb)&&decide (ca=cb)))=z:=⟨_,rfl⟩;have fM:=hz.symm;rw[hz];obtain⟨d0,d1,d2,_,_,_⟩:=Fl.facts3;obtain⟨d3,d4,d5,_,_,_⟩:=Fj.facts3;have oQ:=zH gj;have fL:=zH cI;have HZ:=zH fM;clear gj cI hz fM Fl Fj r1 r2 r3 r4;show Calls _ _ #[.agg #[.bool na,.slice A n c,.slice A2 n2 c2],.agg #[.bool nb,.slice A3 n3 c3,.slice A4 n4 c4]] w _;go_enter Tryz.func56,Tryz.ntmps56;by_cases hn:na=nb
 ·have bm:=HZ.out;rw[decide_eq_true hn,Bool.true_and] at bm;have dS:=zH bm;subst hn;have ZO:(na==na)=true:=by simp
  clear bm HZ;go_wp2_with fail;rw[oQ.out];go_wp2_with fail;refine(Qx H1.out H3.out).mono ?_;rintro e w' ⟨rfl,m,rfl⟩;by_cases hx:pa=pb
  ·have bm:=dS.out;rw[decide_eq_true hx,Bool.true_and] at bm;rw[decide_eq_true hx];have lA:=zH bm;clear bm dS hx;go_wp2_with fail;refine(Qx (H2.out.drewN m) (H4.out.drewN m)).mono ?_;rintro e w' ⟨rfl,m2,rfl⟩;rw[←lA.out];go_wp2_with fail;go_ret
   exact⟨rfl,below_drewN fL.out _⟩
  ·have bm:=dS.out;rw[decide_eq_false hx,Bool.false_and] at bm;rw[decide_eq_false hx];have lA:=zH bm;clear bm dS hx;go_wp2_with fail;go_ret
   exact⟨by rw[lA.out];rfl,below_drewN fL.out m⟩
 ·have bm:=HZ.out;rw[decide_eq_false hn,Bool.false_and] at bm;have dS:=zH bm;have ZO:(na==nb)=false:=by simpa using hn
  clear bm HZ hn;go_wp2_with fail;rw[oQ.out];go_wp2_with fail;go_ret
  exact⟨by rw[dS.out];rfl,fL.out⟩
theorem xe (c:UInt8) (w:World):Calls Tryz.prog 138 #[.int .u8 (c.toNat:Int)] w (gU w (.bool (gw c))):=by
 have hc:=c.toNat_lt;obtain⟨n,hn⟩:∃n,c.toNat=n:=⟨_,rfl⟩;unfold gw;rw[hn] at hc ⊢;go_enter Tryz.func138,Tryz.ntmps138;go_wp2_with fail
 all_goals
  go_ret
  exact⟨gL (by simp;omega),rfl⟩
theorem Al (c:UInt8) (w:World):Calls Tryz.prog 192 #[.int .u8 (c.toNat:Int)] w (gU w (.bool (digitB c))):=by
 have hc:=c.toNat_lt;obtain⟨n,hn⟩:∃n,c.toNat=n:=⟨_,rfl⟩;unfold digitB;rw[hn] at hc ⊢;go_enter Tryz.func192,Tryz.ntmps192;go_wp2_with fail
 all_goals
  go_ret
  exact⟨gL (by simp;omega),rfl⟩
theorem M6 (c:UInt8) (w:World):Calls Tryz.prog 168 #[.int .u8 (c.toNat:Int)] w (gU w (.bool (iD c))):=by
 have hl:=xe c w;have hd:=Al c w;obtain⟨a,ha⟩:∃a,gw c=a:=⟨_,rfl⟩;obtain⟨b,hb⟩:∃a,digitB c=a:=⟨_,rfl⟩;unfold iD;rw[Xp,ha,hb];rw[ha] at hl;rw[hb] at hd;have hc:=c.toNat_lt;obtain⟨n,hn⟩:∃n,c.toNat=n:=⟨_,rfl⟩;rw[hn] at hc hl hd ⊢;have HL:=zH hl;have HD:=zH hd;clear hl hd ha hb hn;go_enter Tryz.func168,Tryz.ntmps168;go_wp2_with fail;refine HL.out.mono ?_;rintro e w' ⟨rfl,rfl⟩;cases a with
 | true=>
  go_wp2_with fail;go_ret
  exact⟨gL (by simp),rfl⟩
 | false=>
  go_wp2_with fail;refine HD.out.mono ?_;rintro e w' ⟨rfl,rfl⟩;cases b with
  | true=>
   go_wp2_with fail;go_ret
   exact⟨gL (by simp),rfl⟩
  | false=>
   go_wp2_with fail;go_ret
   exact⟨gL (by simp;omega),rfl⟩
theorem XW (s:ByteArray) (w:World) (hs:s.size≤9223372036854775807):Calls Tryz.prog 139 #[.string s] w (gU w (.int .i64 ((s.data.toList.takeWhile iD).length:Nat))):=by
 obtain⟨z,hz⟩:∃z,(s.data.toList.takeWhile iD).length=z:=⟨_,rfl⟩;rw[hz];have HZ:=zH hz;clear hz;go_enter Tryz.func139,Tryz.ntmps139;go_wp2_with fail;go_loopw [3] (fun v wr=>∃n:Nat,v=.int .i64 n∧n≤s.size∧(∀i x,i<n→s.data.toList[i]?=some x→iD x=true)∧wr=w) (fun v _=>s.size-(intOf v).toNat)
 case atStart=>exact⟨0,rfl,Nat.zero_le _,fun i x hi=>absurd hi (Nat.not_lt_zero _),rfl⟩
 case round=>
  obtain⟨n,rfl,hn,dM,rfl⟩:=hrel;have HA:=zH dM;clear dM;by_cases hlt:n<s.size
  ·have jX:(n:Int)<(s.size:Int):=by omega
   have hx:=str_at hlt;have hw:=M6 s[n] wr;obtain⟨x,nQ⟩:∃x,s[n]=x:=⟨_,rfl⟩;rw[nQ] at hx hw;obtain⟨b,hb⟩:∃b,iD x=b:=⟨_,rfl⟩;rw[hb] at hw;have HX:=zH hx;have HW:=zH hw;have HB:=zH hb;clear hx hw hb;go_wp2_with fail;refine HW.out.mono ?_;rintro e w' ⟨rfl,rfl⟩;cases b with
   | true=>
    go_wp2_with fail;go_roundw
    case rel=>
     refine⟨n+1,by go_num,by omega,fun i y hi hy=>?_,trivial⟩;rcases(show i<n∨i=n by omega) with h|h
     ·exact HA.out i y h hy
     ·subst h;rw[HX.out] at hy;injection hy with hy
      rw[←hy];exact HB.out
    case measure=>simp[intOf];omega
   | false=>
    have qM:z=n:=by rw[←HZ.out];exact fm HA.out (by rw[dz];exact hn) (.inr ⟨x,HX.out,HB.out⟩)
    have HN:=zH qM;clear qM;go_wp2_with fail;go_ret
    exact⟨by rw[HN.out];rfl,rfl⟩
  ·have fI:n=s.size:=by omega
   have qM:z=n:=by rw[←HZ.out];exact fm HA.out (by rw[dz];exact hn) (.inl (by rw[dz];exact fI))
   have HN:=zH qM;clear qM fI;go_wp2_with fail;go_ret
   exact⟨by rw[HN.out];rfl,rfl⟩
theorem Jg {l:List UInt8} {x:UInt8} (h:l[0]?=some x):l.head?=some x:=by rw[List.head?_eq_getElem?];exact h
theorem MG (s:ByteArray) (w:World) (hs:s.size≤9223372036854775807):Calls Tryz.prog 107 #[.string s] w (gU w (.bool (jc s.data.toList))):=by
 obtain⟨z,hz⟩:∃z,jc s.data.toList=z:=⟨_,rfl⟩;have fM:=hz.symm;unfold jc at fM;rw[hz];by_cases h:s=⟨#[]⟩
 ·subst h;have bm:z=false:=by rw[fM];rfl
  have dS:=zH bm;clear hz fM bm;go_enter Tryz.func107,Tryz.ntmps107;go_wp2_with fail;go_ret
  exact⟨by rw[dS.out];rfl,rfl⟩
 ·have fI:(s.toList==[])=false:=qe (l:=[]) h;have arW:(s.toList !=[])=true:=by rw[bne,fI];rfl
  have h0:0<s.size:=by
   rcases Nat.eq_zero_or_pos s.size with h0|h0
   ·exact absurd (ByteArray.ext (Array.eq_empty_of_size_eq_zero h0)) h
   ·exact h0
  have lI:=XW s w hs;have hl:=xe s[0] w;have hx:=str_at h0;obtain⟨x,nQ⟩:∃x,s[0]=x:=⟨_,rfl⟩;rw[nQ] at hl hx;obtain⟨b,hb⟩:∃b,gw x=b:=⟨_,rfl⟩;obtain⟨m,hm⟩:∃m,(s.data.toList.takeWhile iD).length=m:=⟨_,rfl⟩;have WV:s.data.toList≠[]:=by intro e;rw[e] at hx;cases hx
  rw[decide_eq_true WV,Bool.true_and,Jg hx,Option.map_some,Option.getD_some,hb,hm,dz] at fM;rw[hb] at hl;rw[hm] at lI;have HZ:=zH fM;have HR:=zH lI;have HL:=zH hl;clear hz fM lI hl hx hb hm WV h;go_enter Tryz.func107,Tryz.ntmps107;go_wp2_with fail;refine HL.out.mono ?_;rintro e w' ⟨rfl,rfl⟩;cases b with
  | false=>
   have bm:z=false:=by rw[HZ.out];rfl
   have dS:=zH bm;clear bm;go_wp2_with fail;go_ret
   exact⟨by rw[dS.out];rfl,rfl⟩
  | true=>
   go_wp2_with fail;refine HR.out.mono ?_;rintro e w' ⟨rfl,rfl⟩;by_cases BF:m=s.size
   ·have bm:z=true:=by rw[HZ.out,decide_eq_true BF];rfl
    have dS:=zH bm;have d:((m:Int)==(s.size:Int))=true:=by rw[BF];simp
    have d2:(m==s.size)=true:=by rw[BF];simp
    clear bm BF;go_wp2_with fail;go_ret
    exact⟨by rw[dS.out];first|rfl|(simp[*]),rfl⟩
   ·have bm:z=false:=by rw[HZ.out,decide_eq_false BF];rfl
    have dS:=zH bm;have d:((m:Int)==(s.size:Int))=false:=by rw[beq_eq_false_iff_ne];omega
    have d2:(m==s.size)=false:=by rw[beq_eq_false_iff_ne];exact BF
    clear bm BF;go_wp2_with fail;go_ret
    exact⟨by rw[dS.out];first|rfl|(simp[*]),rfl⟩
theorem tW {p:UInt8→Bool} {l:List UInt8} {k:Nat} {x:UInt8} (hx:l[k]?=some x) (hp:p x=false):l.all p=false:=by
 rw[Bool.eq_false_iff];intro h;have:=List.all_eq_true.1 h x (List.mem_of_getElem? hx);rw[hp] at this;cases this
theorem EY {p:UInt8→Bool} {l:List UInt8} {n:Nat} (h:∀i x,i<n→l[i]?=some x→p x=true) (hn:n=l.length):l.all p=true:=by
 rw[List.all_eq_true];intro x hx;obtain⟨i,hi,rfl⟩:=List.getElem_of_mem hx;exact h i _ (by omega) (List.getElem?_eq_getElem hi)
theorem KJ (s:ByteArray) (w:World) (hs:s.size≤9223372036854775807):Calls Tryz.prog 45 #[.string s] w (gU w (.bool (fP s.data.toList))):=by
 obtain⟨z,hz⟩:∃z,fP s.data.toList=z:=⟨_,rfl⟩;rw[hz];unfold fP at hz;have HZ:=zH hz;clear hz;go_enter Tryz.func45,Tryz.ntmps45;go_wp2_with fail;go_loopw [3] (fun v wr=>∃n:Nat,v=.int .i64 n∧n≤s.size∧(∀i x,i<n→s.data.toList[i]?=some x→kz x=true)∧wr=w) (fun v _=>s.size-(intOf v).toNat)
 case atStart=>exact⟨0,rfl,Nat.zero_le _,fun i x hi=>absurd hi (Nat.not_lt_zero _),rfl⟩
 case round=>
  obtain⟨n,rfl,hn,dM,rfl⟩:=hrel;have HA:=zH dM;clear dM;by_cases hlt:n<s.size
  ·have jX:(n:Int)<(s.size:Int):=by omega
   have hx:=str_at hlt;obtain⟨x,nQ⟩:∃x,s[n]=x:=⟨_,rfl⟩;rw[nQ] at hx;obtain⟨q,hq⟩:∃q,x.toNat=q:=⟨_,rfl⟩;have HX:=zH hx;have HQ:=zH hq;have hqx:(x.toNat:Int)=(q:Int):=by rw[hq]
   by_cases h32:q<32
   ·have bm:z=false:=by rw[←HZ.out];exact tW HX.out (by unfold kz;rw[HQ.out,decide_eq_false (by omega)];rfl)
    have dS:=zH bm;have d:(q<32)=True:=eq_true h32;have d1:((q:Int)<32)=True:=eq_true (by omega);clear bm hx hq h32;go_wp2_with fail;go_ret
    exact⟨by rw[dS.out];rfl,rfl⟩
   ·have d:(q<32)=False:=eq_false h32;have d1:((q:Int)<32)=False:=eq_false (by omega);by_cases h126:126<q
    ·have bm:z=false:=by rw[←HZ.out];exact tW HX.out (by unfold kz;rw[HQ.out,decide_eq_true (by omega:32≤q),decide_eq_false (by omega)];rfl)
     have dS:=zH bm;have e:(126<q)=True:=eq_true h126;have e1:(126<(q:Int))=True:=eq_true (by omega);clear bm hx hq h32 h126;go_wp2_with fail;go_ret
     exact⟨by rw[dS.out];rfl,rfl⟩
    ·have e:(126<q)=False:=eq_false h126;have e1:(126<(q:Int))=False:=eq_false (by omega);have yE:kz x=true:=by unfold kz;rw[HQ.out,decide_eq_true (by omega:32≤q),decide_eq_true (by omega)];rfl
     have HPL:=zH yE;clear hx hq h32 h126 yE;go_wp2_with fail;go_roundw
     case rel=>
      refine⟨n+1,by go_num,by omega,fun i y hi hy=>?_,trivial⟩;rcases(show i<n∨i=n by omega) with h|h
      ·exact HA.out i y h hy
      ·subst h;rw[HX.out] at hy;injection hy with hy
       rw[←hy];exact HPL.out
     case measure=>simp[intOf];omega
  ·have Co:z=true:=by rw[←HZ.out];exact EY HA.out (by rw[dz];omega)
   have JR:=zH Co;clear Co;go_wp2_with fail;go_ret
   exact⟨by rw[JR.out];rfl,rfl⟩
theorem afG (c:UInt8):(some c==some (48:UInt8))=decide (c.toNat=48):=by
 rw[Bool.eq_iff_iff,beq_iff_eq,decide_eq_true_iff];exact⟨fun h=>by injection h with h;rw[h];rfl,fun h=>congrArg some (UInt8.toNat_inj.1 (by rw[h];rfl))⟩
theorem Gc (s:ByteArray) (w:World) (hs:s.size≤9223372036854775807):Calls Tryz.prog 169 #[.string s] w (gU w (.bool (kF s.data.toList))):=by
 obtain⟨z,hz⟩:∃z,kF s.data.toList=z:=⟨_,rfl⟩;rw[hz];unfold kF at hz;rw[dz] at hz;have HZ:=zH hz;clear hz;go_enter Tryz.func169,Tryz.ntmps169;go_wp2_with fail;go_loopw [3] (fun v wr=>∃n:Nat,v=.int .i64 n∧n≤s.size∧(∀i x,i<n→s.data.toList[i]?=some x→digitB x=true)∧wr=w) (fun v _=>s.size-(intOf v).toNat)
 case atStart=>exact⟨0,rfl,Nat.zero_le _,fun i x hi=>absurd hi (Nat.not_lt_zero _),rfl⟩
 case round=>
  obtain⟨n,rfl,hn,dM,rfl⟩:=hrel;have HA:=zH dM;clear dM;by_cases hlt:n<s.size
  ·have jX:(n:Int)<(s.size:Int):=by omega
   have hx:=str_at hlt;have hw:=Al s[n] wr;obtain⟨x,nQ⟩:∃x,s[n]=x:=⟨_,rfl⟩;rw[nQ] at hx hw;obtain⟨b,hb⟩:∃b,digitB x=b:=⟨_,rfl⟩;rw[hb] at hw;have HX:=zH hx;have HW:=zH hw;have HB:=zH hb;clear hx hw hb;go_wp2_with fail;refine HW.out.mono ?_;rintro e w' ⟨rfl,rfl⟩;cases b with
   | true=>
    go_wp2_with fail;go_roundw
    case rel=>
     refine⟨n+1,by go_num,by omega,fun i y hi hy=>?_,trivial⟩;rcases(show i<n∨i=n by omega) with h|h
     ·exact HA.out i y h hy
     ·subst h;rw[HX.out] at hy;injection hy with hy
      rw[←hy];exact HB.out
    case measure=>simp[intOf];omega
   | false=>
    have bm:z=false:=by rw[←HZ.out,tW HX.out HB.out];rfl
    have dS:=zH bm;clear bm;go_wp2_with fail;go_ret
    exact⟨by rw[dS.out];rfl,rfl⟩
  ·have Co:=HZ.out;rw[EY HA.out (by rw[dz];omega),Bool.true_and] at Co;have jX:((n:Int)<(s.size:Int))=False:=eq_false (by omega);have JR:=zH Co;clear Co;by_cases h1:1≤s.size
   ·have d1:(1≤(s.size:Int))=True:=eq_true (by omega);have d1n:(1≤s.size)=True:=eq_true h1;by_cases h6:s.size≤6
    ·have d6:((s.size:Int)≤6)=True:=eq_true (by omega);have d6n:(s.size≤6)=True:=eq_true h6;by_cases he:s.size=1
     ·have bm:z=true:=by rw[←JR.out,decide_eq_true h1,decide_eq_true h6,decide_eq_true he];rfl
      have dS:=zH bm;have de:((s.size:Int)==1)=true:=by rw[he];rfl
      have den:(s.size==1)=true:=by rw[he];rfl
      clear bm he h1 h6 hlt;go_wp2_with fail;go_ret
      exact⟨by rw[dS.out];rfl,rfl⟩
     ·have de:((s.size:Int)==1)=false:=by rw[beq_eq_false_iff_ne];omega
      have den:(s.size==1)=false:=by rw[beq_eq_false_iff_ne];exact he
      have h0:0<s.size:=by omega
      have hx:=str_at h0;obtain⟨x,nQ⟩:∃x,s[0]=x:=⟨_,rfl⟩;rw[nQ] at hx;have hzx:=JR.out;rw[decide_eq_true h1,decide_eq_true h6,decide_eq_false he,Jg hx,afG] at hzx;have HZX:=zH hzx;obtain⟨q,hq⟩:∃q,x.toNat=q:=⟨_,rfl⟩;rw[hq] at HZX;have hqx:(x.toNat:Int)=(q:Int):=by rw[hq]
      by_cases Gt:q=48
      ·have bm:z=false:=by rw[←HZX.out,decide_eq_true Gt];rfl
       have dS:=zH bm;have dq:((q:Int) !=48)=false:=by rw[Gt];rfl
       have dqn:(q !=48)=false:=by rw[Gt];rfl
       clear bm he h1 h6 hlt hx Gt hzx HZX JR HZ;go_wp2_with fail;go_ret
       exact⟨by rw[dS.out];first|rfl|simp[*],rfl⟩
      ·have bm:z=true:=by rw[←HZX.out,decide_eq_false Gt];rfl
       have dS:=zH bm;have dq:((q:Int) !=48)=true:=by simp;omega
       have dqn:(q !=48)=true:=by simpa using Gt
       clear bm he h1 h6 hlt hx Gt hzx HZX JR HZ;go_wp2_with fail;go_ret
       exact⟨by rw[dS.out];first|rfl|simp[*],rfl⟩
    ·have d6:((s.size:Int)≤6)=False:=eq_false (by omega);have d6n:(s.size≤6)=False:=eq_false h6;have bm:z=false:=by rw[←JR.out,decide_eq_true h1,decide_eq_false h6];rfl
     have dS:=zH bm;clear bm h1 h6 hlt;go_wp2_with fail;go_ret
     exact⟨by rw[dS.out];rfl,rfl⟩
   ·have d1:(1≤(s.size:Int))=False:=eq_false (by omega);have d1n:(1≤s.size)=False:=eq_false h1;have bm:z=false:=by rw[←JR.out,decide_eq_false h1];rfl
    have dS:=zH bm;clear bm h1 hlt;go_wp2_with fail;go_ret
    exact⟨by rw[dS.out];rfl,rfl⟩
end Go.Proofs.YtjlhbfbdcfajfaaGreatDoor
