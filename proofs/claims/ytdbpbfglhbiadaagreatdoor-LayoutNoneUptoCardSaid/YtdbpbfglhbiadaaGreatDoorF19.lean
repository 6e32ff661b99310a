/- Ref2 Ref3 Ref4 Ref5 -/
import Derived.Test.YtdbpbfglhbiadaaGreatDoorF17
import Derived.Test.YtdbpbfglhbiadaaGreatDoorF03
set_option maxHeartbeats 8000000
set_option maxRecDepth 100000
namespace Go.Proofs.YtdbpbfglhbiadaaGreatDoor
open Go.RowKit
theorem G0 {S S2:Nat->Prop} {A A2:Option Addr} {n c n2 c2:Nat} {xs ys:List Bool} {w:World} (h:RS w S A n c xs) (h2:RS w S2 A2 n2 c2 ys) : Calls Tryz.prog 129 #[.slice A n c,.slice A2 n2 c2] w (ga w (.int .i64 (jD (ar xs) (ar ys)))):=by
 have H:=zH h;have H2:=zH h2;have GC:=h.max;have hm2:=h2.max;have HL:=zH h.len;have nF:=zH h2.len;have hw0:IntKind.i64.wrap ((n:Int)-1)=(n:Int)-1:=by rw[IntKind.wrap_i64]<;>omega
 have fm:IntKind.i64.wrap ((n2:Int)-1)=(n2:Int)-1:=by rw[IntKind.wrap_i64]<;>omega
 clear h h2;go_enter Tryz.func129,Tryz.ntmps129;go_wp2_with fail
 case' inl=>obtain⟨m,hm,hn1,hn2,hmb⟩:∃m:Nat,n2=m/\n<=m/\n2<=m/\m<=9223372036854775807:=⟨n2,rfl,by omega,Nat.le_refl _,by omega⟩
 case' inr=>obtain⟨m,hm,hn1,hn2,hmb⟩:∃m:Nat,n=m/\n<=m/\n2<=m/\m<=9223372036854775807:=⟨n,rfl,Nat.le_refl _,by omega,by omega⟩
 all_goals
  have HN1:=zH hn1;have HN2:=zH hn2;have HM:=zH hm;clear hn1 hn2 hw0 fm;clear hm;go_loopw [5] (λv wr=>∃(k:Nat) (z:Int),k<=m/\v=.int .i64 z/\z+1=k/\ar (xs.drop k)=ar (ys.drop k)/\wr=w) (λv _=>(intOf v+1).toNat)
  case atStart=>exact⟨m,(m:Int)-1,Nat.le_refl _,by rw[HM.out],by omega,by rw[List.drop_eq_nil_of_le (by rw[HL.out];exact HN1.out),List.drop_eq_nil_of_le (by rw[nF.out];exact HN2.out)],rfl⟩
  case round=>
   obtain⟨k,z,hk,rfl,hz,hd,rfl⟩:=hrel;have HD:=zH hd;clear hd;rcases k with _|k
   ·obtain rfl:z= -1:=by omega
    have he:jD (ar xs) (ar ys)=0:=by
     have h1:=HD.out;rw[List.drop_zero,List.drop_zero] at h1;rw[h1,pH]
    have HE:=zH he;clear he hz;go_wp2_with fail;go_ret
    exact⟨gx (by rw[HE.out];rfl),rfl⟩
   ·obtain rfl:z=k:=by omega
    have ND:(0<=(k:Int))=True:=eq_true (by omega);obtain⟨x,hx⟩:∃x,df xs k=x:=⟨_,rfl⟩;obtain⟨y,hy⟩:∃y,df ys k=y:=⟨_,rfl⟩;have UU:Calls Tryz.prog 175 #[.slice A n c,.int .i64 k] wr (ga wr (.bool x)):=by rw[<-hx];exact kM k H.out
    have UT:Calls Tryz.prog 175 #[.slice A2 n2 c2,.int .i64 k] wr (ga wr (.bool y)):=by rw[<-hy];exact kM k H2.out
    have TY:=zH UU;have ZB:=zH UT;have HX:=zH hx;have HY:=zH hy;have hwk:IntKind.i64.wrap ((k:Int)-1)=(k:Int)-1:=by rw[IntKind.wrap_i64]<;>omega
    clear UU UT hx hy hz;by_cases mA:x=y
    ·have hn:=JH HD.out (by rw[HX.out,HY.out,mA]);have HN:=zH hn;subst mA;have dx:(x !=x)=false:=by simp
     clear hn;go_wp2_with fail;refine TY.out.mono ?_;rintro e w' ⟨rfl,rfl⟩;go_wp2_with fail;refine ZB.out.mono ?_;rintro e w' ⟨rfl,rfl⟩;go_wp2_with fail;go_roundw
     case rel=>exact⟨k,(k:Int)-1,by omega,by go_num,by omega,HN.out,trivial⟩
     case measure=>simp[intOf]
    ·have dx:(x !=y)=true:=by simpa using mA
     cases x with
     | true=>
      obtain rfl:y=false:=by cases y<;>simp_all
      have he:jD (ar xs) (ar ys)=1:=nf (xI HD.out.symm HY.out HX.out);have HE:=zH he;clear he mA;go_wp2_with fail;refine TY.out.mono ?_;rintro e w' ⟨rfl,rfl⟩;go_wp2_with fail;refine ZB.out.mono ?_;rintro e w' ⟨rfl,rfl⟩;go_wp2_with fail;refine(TY.out).mono ?_;rintro e w' ⟨rfl,rfl⟩;go_wp2_with fail;go_ret
      exact⟨gx (by rw[HE.out];rfl),rfl⟩
     | false=>
      obtain rfl:y=true:=by cases y<;>simp_all
      have he:jD (ar xs) (ar ys)= -1:=nc (xI HD.out HX.out HY.out);have HE:=zH he;clear he mA;go_wp2_with fail;refine TY.out.mono ?_;rintro e w' ⟨rfl,rfl⟩;go_wp2_with fail;refine ZB.out.mono ?_;rintro e w' ⟨rfl,rfl⟩;go_wp2_with fail;refine(TY.out).mono ?_;rintro e w' ⟨rfl,rfl⟩;go_wp2_with fail;go_ret
      exact⟨gx (by rw[HE.out];rfl),rfl⟩
theorem TF {S S2:Nat->Prop} {A A2:Option Addr} {n c n2 c2:Nat} {xs ys:List Bool} {w:World} (h:RS w S A n c xs) (h2:RS w S2 A2 n2 c2 ys) (hS:∀b,S b->b<w.heap.size) (gL:∀b,S2 b->b<w.heap.size) (hn:n<=549755813888) (hn2:n2<=549755813888) : Calls Tryz.prog 255 #[.slice A n c,.slice A2 n2 c2] w (iP w 4 (bits (ar xs+ar ys))):=by
 have H:=zH h;have H2:=zH h2;have HL:=zH h.len;have nF:=zH h2.len;obtain⟨m,hm,Kl,XB,hmb⟩:∃m:Nat,(if n<n2 then(n2:Int) else(n:Int))=(m:Int)/\n<=m/\n2<=m/\m<=549755813888:=⟨max n n2,by split<;>omega,by omega,by omega,by omega⟩;have HNM:=zH Kl;have akD:=zH XB;clear h h2 Kl XB;go_enter Tryz.func255,Tryz.ntmps255;go_wp2_with fail;go_loopw [5,6,7] (λov cv iv wr=>∃(i:Nat) (out:List Bool) (cy:Bool),iv=.int .i64 i/\i<=m+1/\cv=.bool cy/\Own wr bb w.heap.size 4 ov out/\out.length=i/\ar out+2^i*cy.toNat=ar (xs.take i)+ar (ys.take i)/\Below w.heap.size w wr) (λ_ _ iv _=>m+1-(intOf iv).toNat)
 case atStart=>exact⟨0,[],false,rfl,Nat.zero_le _,rfl,Own.nil _ _ _,rfl,by simp[ar],Below.refl _ _⟩
 case round=>
  obtain⟨i,out,cy,rfl,hi,rfl,ho,lR,hv,hb⟩:=hrel;have HO:=zH ho;have HB:=zH hb;have HV:=zH hv;have zV:=zH lR;obtain⟨A4,n4,c4,rfl,hn4⟩:=ho.slice;clear ho hb hv lR hn4;rcases Nat.lt_or_ge m i with hlt|hge
  ·have hr:=HO.out.rs (S':=λb=>b<wr.heap.size) (λ_ h=>h.elim) (λ_ _ h=>h);have hn4:n4<=1099511627776:=by have:=hr.len;have:=zV.out;omega
   have XK:i=m+1:=by omega
   have dG:ar out=ar xs+ar ys:=TA (m:=m) (by rw[HL.out];exact HNM.out) (by rw[nF.out];exact akD.out) (by rw[<-XK];exact HV.out);have bw:=iH hr hn4;rw[dG] at bw;have HC:=zH bw;have d0:decide (i<=m)=false:=decide_eq_false (by omega);have d1:((i:Int)<=(m:Int))=False:=eq_false (by omega);clear hr hn4 bw dG XK hlt;go_wp2_with fail;refine HC.out.mono ?_;rintro e w2 ⟨v2,rfl,lL,bH⟩;have mR:=zH (lL.base_le HB.out.size);have ek:=zH (ak HB.out bH);clear lL bH;go_wp2_with fail;go_ret
   exact⟨_,rfl,mR.out,ek.out⟩
  ·obtain⟨x,hx⟩:∃x,df xs i=x:=⟨_,rfl⟩;obtain⟨y,hy⟩:∃y,df ys i=y:=⟨_,rfl⟩;have UU:Calls Tryz.prog 175 #[.slice A n c,.int .i64 i] wr (ga wr (.bool x)):=by rw[<-hx];exact kM i (H.out.below HB.out hS)
   have UT:Calls Tryz.prog 175 #[.slice A2 n2 c2,.int .i64 i] wr (ga wr (.bool y)):=by rw[<-hy];exact kM i (H2.out.below HB.out gL)
   have cA:=TB xs ys out cy i zV.out HV.out;rw[hx,hy] at cA;have bm:(out.length+1)*(1+1)<=140737488355328:=by have:=zV.out;omega
   have TY:=zH UU;have ZB:=zH UT;have xU:=zH cA;have kQ:=zH bm;have hwi:IntKind.i64.wrap ((i:Int)+1)=(i:Int)+1:=by rw[IntKind.wrap_i64]<;>omega
   have d0:decide (i<=m)=true:=decide_eq_true hge;have d1:((i:Int)<=(m:Int))=True:=eq_true (by omega);clear UU UT cA bm hx hy HV;cases x<;>cases y<;>cases cy
   all_goals
    go_wp2_with fail;refine TY.out.mono ?_;rintro e w' ⟨rfl,rfl⟩;go_wp2_with fail;refine ZB.out.mono ?_;rintro e w' ⟨rfl,rfl⟩;go_wp2_with (at_builtin; (first|(refine dz (α:=Bool) (w0:=w) rfl _ _ 155 rfl 1 Tryz.bitsTy rfl HO.out HB.out [.bool true] true 1 rfl rfl 4 (by simp[Value.oneCell']) kQ.out ?_)|(refine dz (α:=Bool) (w0:=w) rfl _ _ 155 rfl 1 Tryz.bitsTy rfl HO.out HB.out [.bool false] false 1 rfl rfl 4 (by simp[Value.oneCell']) kQ.out ?_)); intro v4 w4 hown4 iY hg4 hl4; have CI:=zH hown4; have vz:=zH iY; clear hown4 iY hg4 hl4);go_roundw
    case rel=>exact⟨i+1,_,_,by go_num,by omega,rfl,CI.out,by have:=zV.out;simp[this],xU.out,vz.out⟩
    case measure=>simp[intOf];omega
theorem Qo {S S2:Nat->Prop} {A A2:Option Addr} {n c n2 c2:Nat} {xs ys:List Bool} {w:World} (h:RS w S A n c xs) (h2:RS w S2 A2 n2 c2 ys) (hS:∀b,S b->b<w.heap.size) (gL:∀b,S2 b->b<w.heap.size) (hn:n<=549755813888) (wn:ar ys<=ar xs) : Calls Tryz.prog 212 #[.slice A n c,.slice A2 n2 c2] w (iP w 4 (bits (ar xs-ar ys))):=by
 have H:=zH h;have H2:=zH h2;have HL:=zH h.len;have HLE:=zH wn;clear h h2 wn;go_enter Tryz.func212,Tryz.ntmps212;go_wp2_with fail;go_loopw [5,6,7] (λov cv iv wr=>∃(i:Nat) (out:List Bool) (cy:Bool),iv=.int .i64 i/\i<=n/\cv=.bool cy/\Own wr bb w.heap.size 4 ov out/\out.length=i/\ar out+ar (ys.take i)=ar (xs.take i)+2^i*cy.toNat/\Below w.heap.size w wr) (λ_ _ iv _=>n-(intOf iv).toNat)
 case atStart=>exact⟨0,[],false,rfl,Nat.zero_le _,rfl,Own.nil _ _ _,rfl,by simp[ar],Below.refl _ _⟩
 case round=>
  obtain⟨i,out,cy,rfl,hi,rfl,ho,lR,hv,hb⟩:=hrel;have HO:=zH ho;have HB:=zH hb;have HV:=zH hv;have zV:=zH lR;obtain⟨A4,n4,c4,rfl,hn4⟩:=ho.slice;clear ho hb hv lR hn4;rcases Nat.lt_or_ge i n with hlt|hge
  ·obtain⟨x,hx⟩:∃x,df xs i=x:=⟨_,rfl⟩;obtain⟨y,hy⟩:∃y,df ys i=y:=⟨_,rfl⟩;have UU:Calls Tryz.prog 175 #[.slice A n c,.int .i64 i] wr (ga wr (.bool x)):=by rw[<-hx];exact kM i (H.out.below HB.out hS)
   have UT:Calls Tryz.prog 175 #[.slice A2 n2 c2,.int .i64 i] wr (ga wr (.bool y)):=by rw[<-hy];exact kM i (H2.out.below HB.out gL)
   have cA:=Ql xs ys out cy i zV.out HV.out;rw[hx,hy] at cA;have bm:(out.length+1)*(1+1)<=140737488355328:=by have:=zV.out;omega
   have TY:=zH UU;have ZB:=zH UT;have xU:=zH cA;have kQ:=zH bm;have hwi:IntKind.i64.wrap ((i:Int)+1)=(i:Int)+1:=by rw[IntKind.wrap_i64]<;>omega
   have d1:((i:Int)<(n:Int))=True:=eq_true (by omega);clear UU UT cA bm hx hy HV;cases x<;>cases y<;>cases cy
   all_goals
    go_wp2_with fail;refine TY.out.mono ?_;rintro e w' ⟨rfl,rfl⟩;go_wp2_with fail;refine ZB.out.mono ?_;rintro e w' ⟨rfl,rfl⟩;go_wp2_with (at_builtin; (first|(refine dz (α:=Bool) (w0:=w) rfl _ _ 155 rfl 1 Tryz.bitsTy rfl HO.out HB.out [.bool true] true 1 rfl rfl 4 (by simp[Value.oneCell']) kQ.out ?_)|(refine dz (α:=Bool) (w0:=w) rfl _ _ 155 rfl 1 Tryz.bitsTy rfl HO.out HB.out [.bool false] false 1 rfl rfl 4 (by simp[Value.oneCell']) kQ.out ?_)); intro v4 w4 hown4 iY hg4 hl4; have CI:=zH hown4; have vz:=zH iY; clear hown4 iY hg4 hl4);go_roundw
    case rel=>exact⟨i+1,_,_,by go_num,by omega,rfl,CI.out,by have:=zV.out;simp[this],xU.out,vz.out⟩
    case measure=>simp[intOf];omega
  ·have hr:=HO.out.rs (S':=λb=>b<wr.heap.size) (λ_ h=>h.elim) (λ_ _ h=>h);have hn4:n4<=1099511627776:=by have:=hr.len;have:=zV.out;omega
   have XK:i=n:=by omega
   have dG:ar out=ar xs-ar ys:=by
    have e1:xs.length=i:=by rw[HL.out];exact XK.symm
    refine Qk (c:=cy) HLE.out (by rw[zV.out,e1]) ?_;rw[e1];exact HV.out
   have bw:=iH hr hn4;rw[dG] at bw;have HC:=zH bw;have d1:((i:Int)<(n:Int))=False:=eq_false (by omega);clear hr hn4 bw dG XK;go_wp2_with fail;refine HC.out.mono ?_;rintro e w2 ⟨v2,rfl,lL,bH⟩;have mR:=zH (lL.base_le HB.out.size);have ek:=zH (ak HB.out bH);clear lL bH;go_wp2_with fail;go_ret
   exact⟨_,rfl,mR.out,ek.out⟩
theorem Ls {S:Nat->Prop} {A:Option Addr} {n c:Nat} {xs:List Bool} {w:World} (h:RS w S A n c xs) (hS:∀b,S b->b<w.heap.size) (hn:n<=549755813888) (m:Nat) (hm:m<=549755813888) : Calls Tryz.prog 256 #[.slice A n c,.int .i64 m] w (iP w 4 (List.replicate m false++xs)):=by
 have H:=zH h;have HS:=zH hS;have HL:=zH h.len;clear h hS;obtain⟨i0,hi,jw,eL,gN⟩:=info_parts (show(Tryz.prog.info? 4).map (λi=>(i.zero,i.size,i.bytes))=some (some (.bool false),1,1) by kernel_rfl);have HI:=zH hi;have oG:=zH jw;have jm:=zH eL;have j1:=zH gN;clear hi jw eL gN;go_enter Tryz.func256,Tryz.ntmps256;go_wp2_with (first
  | (refine bJ (α:=Bool) w rfl _ _ 155 rfl rfl w.heap.size i0 (.bool false) Tryz.underlying155 HI.out oG.out jm.out rfl .i64 .i64 (m:Int) (m:Int) m rfl rfl rfl rfl (by rw[j1.out];omega) (by unfold maxLen;omega) (Nat.le_refl _) false bb (λ_ h=>h.elim) (λ_ _=>rfl) ?_; intro w3 uw hg3; have CJ:=zH uw; have kR:=zH ((Below.refl w.heap.size w).grown hg3 (Nat.le_refl _) (λk hk=>by cases hk)); clear uw hg3)
  | (at_builtin; have Ji:=H.out.below kR.out HS.out; refine fx (α:=Bool) (S:=bb) rfl _ _ 155 rfl 1 Tryz.bitsTy rfl CJ.out rfl Ji _ (Flat.bools _) Ji.boolsAt (nk _) (by rw[List.length_replicate,HL.out];omega) kR.out.size ?_; intro v2 w2 hown2 hg2 qH; have mR:=zH hown2; have ek:=zH (kR.out.grown hg2 kR.out.size (λk hk=>(CJ.out.lt k hk).1)); clear hown2 hg2 qH Ji))
 go_ret
 exact⟨_,rfl,mR.out,ek.out⟩
theorem Ra {S S2:Nat->Prop} {A A2:Option Addr} {n c n2 c2:Nat} {xs ys:List Bool} {w:World} (h:RS w S A n c xs) (h2:RS w S2 A2 n2 c2 ys) (hS:∀b,S b->b<w.heap.size) (gL:∀b,S2 b->b<w.heap.size) (hn:n<=137438953472) (hn2:n2<=137438953472) : Calls Tryz.prog 236 #[.slice A n c,.slice A2 n2 c2] w (iP w 4 (bits (ar xs*ar ys))):=by
 have H:=zH h;have H2:=zH h2;have HL:=zH h.len;have nF:=zH h2.len;have HS:=zH hS;clear h h2 hS;go_enter Tryz.func236,Tryz.ntmps236;go_wp2_with fail;go_loopw [5,6] (λsv iv wr=>∃(i:Nat),iv=.int .i64 i/\i<=n2/\Own wr bb w.heap.size 4 sv (bits (ar xs*ar (ys.take i)))/\Below w.heap.size w wr) (λ_ iv _=>n2-(intOf iv).toNat)
 case atStart=>exact⟨0,rfl,Nat.zero_le _,by rw[List.take_zero];show Own _ _ _ _ _ (bits (ar xs*0));rw[Nat.mul_zero,dD];exact Own.nil _ _ _,Below.refl _ _⟩
 case round=>
  obtain⟨i,rfl,hi,ho,hb⟩:=hrel;have eX:(bits (ar xs*ar (ys.take i))).length<=274877906944:=by
   refine Nat.le_trans (iN (k:=n+n2) ?_) (by omega);rw[Nat.pow_add];have e1:ar xs<2^n:=by have:=lv xs;rw[HL.out] at this;exact this
   have e2:ar (ys.take i)<2^n2:=Nat.lt_of_lt_of_le (lq ys i) (Nat.pow_le_pow_right (by omega) hi);exact Nat.mul_lt_mul'' e1 e2
  have HO:=zH ho;have HB:=zH hb;have HSL:=zH eX;obtain⟨A4,n4,c4,rfl,hn4⟩:=ho.slice;clear ho hb hn4 eX;rcases Nat.lt_or_ge i n2 with hlt|hge
  ·have hd:((i:Int)<(n2:Int))=True:=eq_true (by omega);have hwi:IntKind.i64.wrap ((i:Int)+1)=(i:Int)+1:=by rw[IntKind.wrap_i64]<;>omega
   obtain⟨b,o,y,rfl,_,hy,e1⟩:=(H2.out.below HB.out gL).bool_at hlt;have hc2:(i:Int)<=(c2:Int):=by have:=H2.out.cap;omega
   have cA:=eJ ys i;rw[fb hy] at cA;have xU:=zH cA;clear cA hy;cases y with
   | false=>
    have he:bits (ar xs*ar (ys.take (i+1)))=bits (ar xs*ar (ys.take i)):=by rw[xU.out];simp
    have HE:=zH he;clear he;go_wp2_with fail;go_roundw
    case rel=>exact⟨i+1,by go_num,by omega,by rw[HE.out];exact HO.out,HB.out⟩
    case measure=>simp[intOf];omega
   | true=>
    have he:ar (bits (ar xs*ar (ys.take i)))+ar (List.replicate i false++xs)=ar xs*ar (ys.take (i+1)):=by
     rw[bh,mI,E0,List.length_replicate,xU.out,Nat.mul_add];simp[Nat.mul_comm]
    have HE:=zH he;have bw:=Ls (H.out.below HB.out HS.out) (λb hb=>Nat.lt_of_lt_of_le (HS.out b hb) HB.out.size) (by omega) i (by omega);have HC:=zH bw;clear he bw;go_wp2_with fail;refine HC.out.mono ?_;rintro e w2 ⟨v2,rfl,lL,bH⟩;have mR:=zH (lL.base_le HB.out.size);have ic:=zH (HO.out.below bH);have ek:=zH (ak HB.out bH);obtain⟨A5,n5,c5,rfl,hn5⟩:=lL.slice;have bw:=TF (ic.out.rsAll) (mR.out.rsAll) (λ_ h=>h) (λ_ h=>h) (by rw[<-ic.out.rsAll.len];have:=HSL.out;omega) (by rw[hn5,List.length_append,List.length_replicate,HL.out];omega);rw[HE.out] at bw;have HC2:=zH bw;clear lL bH hn5 bw;go_wp2_with fail;refine HC2.out.mono ?_;rintro e w3 ⟨v3,rfl,uw,jF⟩;have CJ:=zH (uw.base_le ek.out.size);have kR:=zH (ak ek.out jF);clear uw jF;go_wp2_with fail;go_roundw
    case rel=>exact⟨i+1,by go_num,by omega,CJ.out,kR.out⟩
    case measure=>simp[intOf];omega
  ·have hd:((i:Int)<(n2:Int))=False:=eq_false (by omega);have dW:ar (bits (ar xs*ar (ys.take i)))=ar xs*ar ys:=by rw[List.take_of_length_le (by rw[nF.out];omega),bh]
   have bw:=iH (HO.out.rsAll) (by rw[<-HO.out.rsAll.len];have:=HSL.out;omega);rw[dW] at bw;have HC:=zH bw;clear bw dW;go_wp2_with fail;refine HC.out.mono ?_;rintro e w2 ⟨v2,rfl,lL,bH⟩;have mR:=zH (lL.base_le HB.out.size);have ek:=zH (ak HB.out bH);clear lL bH;go_wp2_with fail;go_ret
   exact⟨_,rfl,mR.out,ek.out⟩
end Go.Proofs.YtdbpbfglhbiadaaGreatDoor
