/- Ref2 Ref3 Ref4 Ref5 -/
import Derived.Test.YtdbpbfglhbiadaaGreatDoorH17
import Derived.Test.YtdbpbfglhbiadaaGreatDoorH03
set_option maxHeartbeats 4000000
set_option maxRecDepth 100000
namespace Go.Proofs.YtdbpbfglhbiadaaGreatDoor
open Go.RowKit
theorem Jn {S S2:Nat->Prop} {A A2:Option Addr} {n c n2 c2:Nat} {xs ys:List Bool} {w:World} (h:RS w S A n c xs) (h2:RS w S2 A2 n2 c2 ys) : Calls Tryz.prog 129 #[.slice A n c,.slice A2 n2 c2] w (jk w (.int .i64 (jQ (av xs) (av ys)))):=by
 have H:=zH h;have H2:=zH h2;have I1:=h.max;have hm2:=h2.max;have HL:=zH h.len;have ow:=zH h2.len;have hw0:IntKind.i64.wrap ((n:Int)-1)=(n:Int)-1:=by rw[IntKind.wrap_i64]<;>omega
 have fE:IntKind.i64.wrap ((n2:Int)-1)=(n2:Int)-1:=by rw[IntKind.wrap_i64]<;>omega
 clear h h2;go_enter Tryz.func129,Tryz.ntmps129;go_wp2_with fail
 case' inl=>obtain⟨m,hm,hn1,hn2,hmb⟩:∃m:Nat,n2=m/\n<=m/\n2<=m/\m<=9223372036854775807:=⟨n2,rfl,by omega,Nat.le_refl _,by omega⟩
 case' inr=>obtain⟨m,hm,hn1,hn2,hmb⟩:∃m:Nat,n=m/\n<=m/\n2<=m/\m<=9223372036854775807:=⟨n,rfl,Nat.le_refl _,by omega,by omega⟩
 all_goals
  have HN1:=zH hn1;have HN2:=zH hn2;have HM:=zH hm;clear hn1 hn2 hw0 fE;clear hm;go_loopw [5] (λv wr=>∃(k:Nat) (z:Int),k<=m/\v=.int .i64 z/\z+1=k/\av (xs.drop k)=av (ys.drop k)/\wr=w) (λv _=>(intOf v+1).toNat)
  case atStart=>exact⟨m,(m:Int)-1,Nat.le_refl _,by rw[HM.out],by omega,by rw[List.drop_eq_nil_of_le (by rw[HL.out];exact HN1.out),List.drop_eq_nil_of_le (by rw[ow.out];exact HN2.out)],rfl⟩
  case round=>
   obtain⟨k,z,hk,rfl,hz,hd,rfl⟩:=hrel;have HD:=zH hd;clear hd;rcases k with _|k
   ·obtain rfl:z= -1:=by omega
    have he:jQ (av xs) (av ys)=0:=by
     have h1:=HD.out;rw[List.drop_zero,List.drop_zero] at h1;rw[h1,qK]
    have HE:=zH he;clear he hz;go_wp2_with fail;go_ret
    exact⟨gP (by rw[HE.out];rfl),rfl⟩
   ·obtain rfl:z=k:=by omega
    have PS:(0<=(k:Int))=True:=eq_true (by omega);obtain⟨x,hx⟩:∃x,dm xs k=x:=⟨_,rfl⟩;obtain⟨y,hy⟩:∃y,dm ys k=y:=⟨_,rfl⟩;have Xx:Calls Tryz.prog 175 #[.slice A n c,.int .i64 k] wr (jk wr (.bool x)):=by rw[<-hx];exact k8 k H.out
    have Xw:Calls Tryz.prog 175 #[.slice A2 n2 c2,.int .i64 k] wr (jk wr (.bool y)):=by rw[<-hy];exact k8 k H2.out
    have WH:=zH Xx;have HCY:=zH Xw;have HX:=zH hx;have HY:=zH hy;have hwk:IntKind.i64.wrap ((k:Int)-1)=(k:Int)-1:=by rw[IntKind.wrap_i64]<;>omega
    clear Xx Xw hx hy hz;by_cases mZ:x=y
    ·have hn:=LJ HD.out (by rw[HX.out,HY.out,mZ]);have HN:=zH hn;subst mZ;have dx:(x !=x)=false:=by simp
     clear hn;go_wp2_with fail;refine WH.out.mono ?_;rintro e w' ⟨rfl,rfl⟩;go_wp2_with fail;refine HCY.out.mono ?_;rintro e w' ⟨rfl,rfl⟩;go_wp2_with fail;go_roundw
     case rel=>exact⟨k,(k:Int)-1,by omega,by go_num,by omega,HN.out,trivial⟩
     case measure=>simp[intOf]
    ·have dx:(x !=y)=true:=by simpa using mZ
     cases x with
     | true=>
      obtain rfl:y=false:=by cases y<;>simp_all
      have he:jQ (av xs) (av ys)=1:=nZ (yW HD.out.symm HY.out HX.out);have HE:=zH he;clear he mZ;go_wp2_with fail;refine WH.out.mono ?_;rintro e w' ⟨rfl,rfl⟩;go_wp2_with fail;refine HCY.out.mono ?_;rintro e w' ⟨rfl,rfl⟩;go_wp2_with fail;refine(WH.out).mono ?_;rintro e w' ⟨rfl,rfl⟩;go_wp2_with fail;go_ret
      exact⟨gP (by rw[HE.out];rfl),rfl⟩
     | false=>
      obtain rfl:y=true:=by cases y<;>simp_all
      have he:jQ (av xs) (av ys)= -1:=nY (yW HD.out HX.out HY.out);have HE:=zH he;clear he mZ;go_wp2_with fail;refine WH.out.mono ?_;rintro e w' ⟨rfl,rfl⟩;go_wp2_with fail;refine HCY.out.mono ?_;rintro e w' ⟨rfl,rfl⟩;go_wp2_with fail;refine(WH.out).mono ?_;rintro e w' ⟨rfl,rfl⟩;go_wp2_with fail;go_ret
      exact⟨gP (by rw[HE.out];rfl),rfl⟩
theorem Wv {S S2:Nat->Prop} {A A2:Option Addr} {n c n2 c2:Nat} {xs ys:List Bool} {w:World} (h:RS w S A n c xs) (h2:RS w S2 A2 n2 c2 ys) (hS:∀b,S b->b<w.heap.size) (gZ:∀b,S2 b->b<w.heap.size) (hn:n<=549755813888) (hn2:n2<=549755813888) : Calls Tryz.prog 255 #[.slice A n c,.slice A2 n2 c2] w (jf w 4 (bits (av xs+av ys))):=by
 have H:=zH h;have H2:=zH h2;have HL:=zH h.len;have ow:=zH h2.len;obtain⟨m,hm,Mt,aai,hmb⟩:∃m:Nat,(if n<n2 then(n2:Int) else(n:Int))=(m:Int)/\n<=m/\n2<=m/\m<=549755813888:=⟨max n n2,by split<;>omega,by omega,by omega,by omega⟩;have HNM:=zH Mt;have aox:=zH aai;clear h h2 Mt aai;go_enter Tryz.func255,Tryz.ntmps255;go_wp2_with fail;go_loopw [5,6,7] (λov cv iv wr=>∃(i:Nat) (out:List Bool) (cy:Bool),iv=.int .i64 i/\i<=m+1/\cv=.bool cy/\Own wr bi w.heap.size 4 ov out/\out.length=i/\av out+2^i*cy.toNat=av (xs.take i)+av (ys.take i)/\Below w.heap.size w wr) (λ_ _ iv _=>m+1-(intOf iv).toNat)
 case atStart=>exact⟨0,[],false,rfl,Nat.zero_le _,rfl,Own.nil _ _ _,rfl,by simp[av],Below.refl _ _⟩
 case round=>
  obtain⟨i,out,cy,rfl,hi,rfl,ho,mC,hv,hb⟩:=hrel;have HO:=zH ho;have HB:=zH hb;have HV:=zH hv;have BE:=zH mC;obtain⟨A4,n4,c4,rfl,hn4⟩:=ho.slice;clear ho hb hv mC hn4;rcases Nat.lt_or_ge m i with hlt|hge
  ·have hr:=HO.out.rs (S':=λb=>b<wr.heap.size) (λ_ h=>h.elim) (λ_ _ h=>h);have hn4:n4<=1099511627776:=by have:=hr.len;have:=BE.out;omega
   have hi1:i=m+1:=by omega
   have dS:av out=av xs+av ys:=Wq (m:=m) (by rw[HL.out];exact HNM.out) (by rw[ow.out];exact aox.out) (by rw[<-hi1];exact HV.out);have bG:=i6 hr hn4;rw[dS] at bG;have HC:=zH bG;have d0:decide (i<=m)=false:=decide_eq_false (by omega);have d1:((i:Int)<=(m:Int))=False:=eq_false (by omega);clear hr hn4 bG dS hi1 hlt;go_wp2_with fail;refine HC.out.mono ?_;rintro e w2 ⟨v2,rfl,mw,bX⟩;have nA:=zH (mw.base_le HB.out.size);have fu:=zH (au HB.out bX);clear mw bX;go_wp2_with fail;go_ret
   exact⟨_,rfl,nA.out,fu.out⟩
  ·obtain⟨x,hx⟩:∃x,dm xs i=x:=⟨_,rfl⟩;obtain⟨y,hy⟩:∃y,dm ys i=y:=⟨_,rfl⟩;have Xx:Calls Tryz.prog 175 #[.slice A n c,.int .i64 i] wr (jk wr (.bool x)):=by rw[<-hx];exact k8 i (H.out.below HB.out hS)
   have Xw:Calls Tryz.prog 175 #[.slice A2 n2 c2,.int .i64 i] wr (jk wr (.bool y)):=by rw[<-hy];exact k8 i (H2.out.below HB.out gZ)
   have ct:=Wr xs ys out cy i BE.out HV.out;rw[hx,hy] at ct;have bJ:(out.length+1)*(1+1)<=140737488355328:=by have:=BE.out;omega
   have WH:=zH Xx;have HCY:=zH Xw;have zm:=zH ct;have sH:=zH bJ;have hwi:IntKind.i64.wrap ((i:Int)+1)=(i:Int)+1:=by rw[IntKind.wrap_i64]<;>omega
   have d0:decide (i<=m)=true:=decide_eq_true hge;have d1:((i:Int)<=(m:Int))=True:=eq_true (by omega);clear Xx Xw ct bJ hx hy HV;cases x<;>cases y<;>cases cy
   all_goals
    go_wp2_with fail;refine WH.out.mono ?_;rintro e w' ⟨rfl,rfl⟩;go_wp2_with fail;refine HCY.out.mono ?_;rintro e w' ⟨rfl,rfl⟩;go_wp2_with (at_builtin; (first|(refine dH (α:=Bool) (w0:=w) rfl _ _ 155 rfl 1 Tryz.bitsTy rfl HO.out HB.out [.bool true] true 1 rfl rfl 4 (by simp[Value.oneCell']) sH.out ?_)|(refine dH (α:=Bool) (w0:=w) rfl _ _ 155 rfl 1 Tryz.bitsTy rfl HO.out HB.out [.bool false] false 1 rfl rfl 4 (by simp[Value.oneCell']) sH.out ?_)); intro v4 w4 hown4 qw hg4 hl4; have Mk:=zH hown4; have Ev:=zH qw; clear hown4 qw hg4 hl4);go_roundw
    case rel=>exact⟨i+1,_,_,by go_num,by omega,rfl,Mk.out,by have:=BE.out;simp[this],zm.out,Ev.out⟩
    case measure=>simp[intOf];omega
theorem Tb {S S2:Nat->Prop} {A A2:Option Addr} {n c n2 c2:Nat} {xs ys:List Bool} {w:World} (h:RS w S A n c xs) (h2:RS w S2 A2 n2 c2 ys) (hS:∀b,S b->b<w.heap.size) (gZ:∀b,S2 b->b<w.heap.size) (hn:n<=549755813888) (By:av ys<=av xs) : Calls Tryz.prog 212 #[.slice A n c,.slice A2 n2 c2] w (jf w 4 (bits (av xs-av ys))):=by
 have H:=zH h;have H2:=zH h2;have HL:=zH h.len;have HLE:=zH By;clear h h2 By;go_enter Tryz.func212,Tryz.ntmps212;go_wp2_with fail;go_loopw [5,6,7] (λov cv iv wr=>∃(i:Nat) (out:List Bool) (cy:Bool),iv=.int .i64 i/\i<=n/\cv=.bool cy/\Own wr bi w.heap.size 4 ov out/\out.length=i/\av out+av (ys.take i)=av (xs.take i)+2^i*cy.toNat/\Below w.heap.size w wr) (λ_ _ iv _=>n-(intOf iv).toNat)
 case atStart=>exact⟨0,[],false,rfl,Nat.zero_le _,rfl,Own.nil _ _ _,rfl,by simp[av],Below.refl _ _⟩
 case round=>
  obtain⟨i,out,cy,rfl,hi,rfl,ho,mC,hv,hb⟩:=hrel;have HO:=zH ho;have HB:=zH hb;have HV:=zH hv;have BE:=zH mC;obtain⟨A4,n4,c4,rfl,hn4⟩:=ho.slice;clear ho hb hv mC hn4;rcases Nat.lt_or_ge i n with hlt|hge
  ·obtain⟨x,hx⟩:∃x,dm xs i=x:=⟨_,rfl⟩;obtain⟨y,hy⟩:∃y,dm ys i=y:=⟨_,rfl⟩;have Xx:Calls Tryz.prog 175 #[.slice A n c,.int .i64 i] wr (jk wr (.bool x)):=by rw[<-hx];exact k8 i (H.out.below HB.out hS)
   have Xw:Calls Tryz.prog 175 #[.slice A2 n2 c2,.int .i64 i] wr (jk wr (.bool y)):=by rw[<-hy];exact k8 i (H2.out.below HB.out gZ)
   have ct:=S7 xs ys out cy i BE.out HV.out;rw[hx,hy] at ct;have bJ:(out.length+1)*(1+1)<=140737488355328:=by have:=BE.out;omega
   have WH:=zH Xx;have HCY:=zH Xw;have zm:=zH ct;have sH:=zH bJ;have hwi:IntKind.i64.wrap ((i:Int)+1)=(i:Int)+1:=by rw[IntKind.wrap_i64]<;>omega
   have d1:((i:Int)<(n:Int))=True:=eq_true (by omega);clear Xx Xw ct bJ hx hy HV;cases x<;>cases y<;>cases cy
   all_goals
    go_wp2_with fail;refine WH.out.mono ?_;rintro e w' ⟨rfl,rfl⟩;go_wp2_with fail;refine HCY.out.mono ?_;rintro e w' ⟨rfl,rfl⟩;go_wp2_with (at_builtin; (first|(refine dH (α:=Bool) (w0:=w) rfl _ _ 155 rfl 1 Tryz.bitsTy rfl HO.out HB.out [.bool true] true 1 rfl rfl 4 (by simp[Value.oneCell']) sH.out ?_)|(refine dH (α:=Bool) (w0:=w) rfl _ _ 155 rfl 1 Tryz.bitsTy rfl HO.out HB.out [.bool false] false 1 rfl rfl 4 (by simp[Value.oneCell']) sH.out ?_)); intro v4 w4 hown4 qw hg4 hl4; have Mk:=zH hown4; have Ev:=zH qw; clear hown4 qw hg4 hl4);go_roundw
    case rel=>exact⟨i+1,_,_,by go_num,by omega,rfl,Mk.out,by have:=BE.out;simp[this],zm.out,Ev.out⟩
    case measure=>simp[intOf];omega
  ·have hr:=HO.out.rs (S':=λb=>b<wr.heap.size) (λ_ h=>h.elim) (λ_ _ h=>h);have hn4:n4<=1099511627776:=by have:=hr.len;have:=BE.out;omega
   have hi1:i=n:=by omega
   have dS:av out=av xs-av ys:=by
    have e1:xs.length=i:=by rw[HL.out];exact hi1.symm
    refine S6 (c:=cy) HLE.out (by rw[BE.out,e1]) ?_;rw[e1];exact HV.out
   have bG:=i6 hr hn4;rw[dS] at bG;have HC:=zH bG;have d1:((i:Int)<(n:Int))=False:=eq_false (by omega);clear hr hn4 bG dS hi1;go_wp2_with fail;refine HC.out.mono ?_;rintro e w2 ⟨v2,rfl,mw,bX⟩;have nA:=zH (mw.base_le HB.out.size);have fu:=zH (au HB.out bX);clear mw bX;go_wp2_with fail;go_ret
   exact⟨_,rfl,nA.out,fu.out⟩
theorem NG {S:Nat->Prop} {A:Option Addr} {n c:Nat} {xs:List Bool} {w:World} (h:RS w S A n c xs) (hS:∀b,S b->b<w.heap.size) (hn:n<=549755813888) (m:Nat) (hm:m<=549755813888) : Calls Tryz.prog 256 #[.slice A n c,.int .i64 m] w (jf w 4 (List.replicate m false++xs)):=by
 have H:=zH h;have HS:=zH hS;have HL:=zH h.len;clear h hS;obtain⟨i0,hi,l9,gC,jR⟩:=info_parts (show(Tryz.prog.info? 4).map (λi=>(i.zero,i.size,i.bytes))=some (some (.bool false),1,1) by kernel_rfl);have HI:=zH hi;have tZ:=zH l9;have mD:=zH gC;have ot:=zH jR;clear hi l9 gC jR;go_enter Tryz.func256,Tryz.ntmps256;go_wp2_with (first
  | (refine bR (α:=Bool) w rfl _ _ 155 rfl rfl w.heap.size i0 (.bool false) Tryz.underlying155 HI.out tZ.out mD.out rfl .i64 .i64 (m:Int) (m:Int) m rfl rfl rfl rfl (by rw[ot.out];omega) (by unfold maxLen;omega) (Nat.le_refl _) false bi (λ_ h=>h.elim) (λ_ _=>rfl) ?_; intro w3 v7 hg3; have Eu:=zH v7; have lX:=zH ((Below.refl w.heap.size w).grown hg3 (Nat.le_refl _) (λk hk=>by cases hk)); clear v7 hg3)
  | (at_builtin; have Lg:=H.out.below lX.out HS.out; refine fO (α:=Bool) (S:=bi) rfl _ _ 155 rfl 1 Tryz.bitsTy rfl Eu.out rfl Lg _ (Flat.bools _) Lg.boolsAt (oc _) (by rw[List.length_replicate,HL.out];omega) lX.out.size ?_; intro v2 w2 hown2 hg2 sd; have nA:=zH hown2; have fu:=zH (lX.out.grown hg2 lX.out.size (λk hk=>(Eu.out.lt k hk).1)); clear hown2 hg2 sd Lg))
 go_ret
 exact⟨_,rfl,nA.out,fu.out⟩
theorem Uf {S S2:Nat->Prop} {A A2:Option Addr} {n c n2 c2:Nat} {xs ys:List Bool} {w:World} (h:RS w S A n c xs) (h2:RS w S2 A2 n2 c2 ys) (hS:∀b,S b->b<w.heap.size) (gZ:∀b,S2 b->b<w.heap.size) (hn:n<=137438953472) (hn2:n2<=137438953472) : Calls Tryz.prog 236 #[.slice A n c,.slice A2 n2 c2] w (jf w 4 (bits (av xs*av ys))):=by
 have H:=zH h;have H2:=zH h2;have HL:=zH h.len;have ow:=zH h2.len;have HS:=zH hS;clear h h2 hS;go_enter Tryz.func236,Tryz.ntmps236;go_wp2_with fail;go_loopw [5,6] (λsv iv wr=>∃(i:Nat),iv=.int .i64 i/\i<=n2/\Own wr bi w.heap.size 4 sv (bits (av xs*av (ys.take i)))/\Below w.heap.size w wr) (λ_ iv _=>n2-(intOf iv).toNat)
 case atStart=>exact⟨0,rfl,Nat.zero_le _,by rw[List.take_zero];show Own _ _ _ _ _ (bits (av xs*0));rw[Nat.mul_zero,dL];exact Own.nil _ _ _,Below.refl _ _⟩
 case round=>
  obtain⟨i,rfl,hi,ho,hb⟩:=hrel;have fm:(bits (av xs*av (ys.take i))).length<=274877906944:=by
   refine Nat.le_trans (jd (k:=n+n2) ?_) (by omega);rw[Nat.pow_add];have e1:av xs<2^n:=by have:=lP xs;rw[HL.out] at this;exact this
   have e2:av (ys.take i)<2^n2:=Nat.lt_of_lt_of_le (lN ys i) (Nat.pow_le_pow_right (by omega) hi);exact Nat.mul_lt_mul'' e1 e2
  have HO:=zH ho;have HB:=zH hb;have HSL:=zH fm;obtain⟨A4,n4,c4,rfl,hn4⟩:=ho.slice;clear ho hb hn4 fm;rcases Nat.lt_or_ge i n2 with hlt|hge
  ·have hd:((i:Int)<(n2:Int))=True:=eq_true (by omega);have hwi:IntKind.i64.wrap ((i:Int)+1)=(i:Int)+1:=by rw[IntKind.wrap_i64]<;>omega
   obtain⟨b,o,y,rfl,_,hy,e1⟩:=(H2.out.below HB.out gZ).bool_at hlt;have hc2:(i:Int)<=(c2:Int):=by have:=H2.out.cap;omega
   have ct:=eY ys i;rw[ft hy] at ct;have zm:=zH ct;clear ct hy;cases y with
   | false=>
    have he:bits (av xs*av (ys.take (i+1)))=bits (av xs*av (ys.take i)):=by rw[zm.out];simp
    have HE:=zH he;clear he;go_wp2_with fail;go_roundw
    case rel=>exact⟨i+1,by go_num,by omega,by rw[HE.out];exact HO.out,HB.out⟩
    case measure=>simp[intOf];omega
   | true=>
    have he:av (bits (av xs*av (ys.take i)))+av (List.replicate i false++xs)=av xs*av (ys.take (i+1)):=by
     rw[bm,nf,GG,List.length_replicate,zm.out,Nat.mul_add];simp[Nat.mul_comm]
    have HE:=zH he;have bG:=NG (H.out.below HB.out HS.out) (λb hb=>Nat.lt_of_lt_of_le (HS.out b hb) HB.out.size) (by omega) i (by omega);have HC:=zH bG;clear he bG;go_wp2_with fail;refine HC.out.mono ?_;rintro e w2 ⟨v2,rfl,mw,bX⟩;have nA:=zH (mw.base_le HB.out.size);have iG:=zH (HO.out.below bX);have fu:=zH (au HB.out bX);obtain⟨A5,n5,c5,rfl,hn5⟩:=mw.slice;have bG:=Wv (iG.out.rsAll) (nA.out.rsAll) (λ_ h=>h) (λ_ h=>h) (by rw[<-iG.out.rsAll.len];have:=HSL.out;omega) (by rw[hn5,List.length_append,List.length_replicate,HL.out];omega);rw[HE.out] at bG;have HC2:=zH bG;clear mw bX hn5 bG;go_wp2_with fail;refine HC2.out.mono ?_;rintro e w3 ⟨v3,rfl,v7,kx⟩;have Eu:=zH (v7.base_le fu.out.size);have lX:=zH (au fu.out kx);clear v7 kx;go_wp2_with fail;go_roundw
    case rel=>exact⟨i+1,by go_num,by omega,Eu.out,lX.out⟩
    case measure=>simp[intOf];omega
  ·have hd:((i:Int)<(n2:Int))=False:=eq_false (by omega);have eQ:av (bits (av xs*av (ys.take i)))=av xs*av ys:=by rw[List.take_of_length_le (by rw[ow.out];omega),bm]
   have bG:=i6 (HO.out.rsAll) (by rw[<-HO.out.rsAll.len];have:=HSL.out;omega);rw[eQ] at bG;have HC:=zH bG;clear bG eQ;go_wp2_with fail;refine HC.out.mono ?_;rintro e w2 ⟨v2,rfl,mw,bX⟩;have nA:=zH (mw.base_le HB.out.size);have fu:=zH (au HB.out bX);clear mw bX;go_wp2_with fail;go_ret
   exact⟨_,rfl,nA.out,fu.out⟩
end Go.Proofs.YtdbpbfglhbiadaaGreatDoor
