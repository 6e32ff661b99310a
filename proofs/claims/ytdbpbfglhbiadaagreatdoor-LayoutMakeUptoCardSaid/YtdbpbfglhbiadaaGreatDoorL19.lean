/- Ref2 Ref3 Ref4 Ref5 -/
import Derived.Test.YtdbpbfglhbiadaaGreatDoorL17
import Derived.Test.YtdbpbfglhbiadaaGreatDoorL03
set_option maxHeartbeats 8000000
set_option maxRecDepth 100000
namespace Go.Proofs.YtdbpbfglhbiadaaGreatDoor
open Go.RowKit
theorem JH {S S2:Nat→Prop} {A A2:Option Addr} {n c n2 c2:Nat} {xs ys:List Bool} {w:World} (h:RS w S A n c xs) (h2:RS w S2 A2 n2 c2 ys) : Calls Tryz.prog 129 #[.slice A n c,.slice A2 n2 c2] w (gW w (.int .i64 (kP (au xs) (au ys)))):=by
 have H:=zH h;have H2:=zH h2;have Jm:=h.max;have hm2:=h2.max;have HL:=zH h.len;have pG:=zH h2.len;have hw0:IntKind.i64.wrap ((n:Int)-1)=(n:Int)-1:=by rw[IntKind.wrap_i64]<;>omega
 have gl:IntKind.i64.wrap ((n2:Int)-1)=(n2:Int)-1:=by rw[IntKind.wrap_i64]<;>omega
 clear h h2;go_enter Tryz.func129,Tryz.ntmps129;go_wp2_with fail
 case' inl=>obtain⟨m,hm,hn1,hn2,hmb⟩:∃m:Nat,n2=m∧n≤m∧n2≤m∧m≤9223372036854775807:=⟨n2,rfl,by omega,Nat.le_refl _,by omega⟩
 case' inr=>obtain⟨m,hm,hn1,hn2,hmb⟩:∃m:Nat,n=m∧n≤m∧n2≤m∧m≤9223372036854775807:=⟨n,rfl,Nat.le_refl _,by omega,by omega⟩
 all_goals
  have HN1:=zH hn1;have HN2:=zH hn2;have HM:=zH hm;clear hn1 hn2 hw0 gl;clear hm;go_loopw [5] (fun v wr=>∃(k:Nat) (z:Int),k≤m∧v=.int .i64 z∧z+1=k∧au (xs.drop k)=au (ys.drop k)∧wr=w) (fun v _=>(intOf v+1).toNat)
  case atStart=>exact⟨m,(m:Int)-1,Nat.le_refl _,by rw[HM.out],by omega,by rw[List.drop_eq_nil_of_le (by rw[HL.out];exact HN1.out),List.drop_eq_nil_of_le (by rw[pG.out];exact HN2.out)],rfl⟩
  case round=>
   obtain⟨k,z,hk,rfl,hz,hd,rfl⟩:=hrel;have HD:=zH hd;clear hd;rcases k with _|k
   ·obtain rfl:z= -1:=by omega
    have he:kP (au xs) (au ys)=0:=by
     have h1:=HD.out;rw[List.drop_zero,List.drop_zero] at h1;rw[h1,sK]
    have HE:=zH he;clear he hz;go_wp2_with fail;go_ret
    exact⟨iu (by rw[HE.out];rfl),rfl⟩
   ·obtain rfl:z=k:=by omega
    have P0:(0≤(k:Int))=True:=eq_true (by omega);obtain⟨x,hx⟩:∃x,dW xs k=x:=⟨_,rfl⟩;obtain⟨y,hy⟩:∃y,dW ys k=y:=⟨_,rfl⟩;have Xc:Calls Tryz.prog 175 #[.slice A n c,.int .i64 k] wr (gW wr (.bool x)):=by rw[←hx];exact mH k H.out
    have Xb:Calls Tryz.prog 175 #[.slice A2 n2 c2,.int .i64 k] wr (gW wr (.bool y)):=by rw[←hy];exact mH k H2.out
    have Wj:=zH Xc;have HCY:=zH Xb;have HX:=zH hx;have HY:=zH hy;have hwk:IntKind.i64.wrap ((k:Int)-1)=(k:Int)-1:=by rw[IntKind.wrap_i64]<;>omega
    clear Xc Xb hx hy hz;by_cases oD:x=y
    ·have hn:=LV HD.out (by rw[HX.out,HY.out,oD]);have HN:=zH hn;subst oD;have dx:(x !=x)=false:=by simp
     clear hn;go_wp2_with fail;refine Wj.out.mono ?_;rintro e w' ⟨rfl,rfl⟩;go_wp2_with fail;refine HCY.out.mono ?_;rintro e w' ⟨rfl,rfl⟩;go_wp2_with fail;go_roundw
     case rel=>exact⟨k,(k:Int)-1,by omega,by go_num,by omega,HN.out,trivial⟩
     case measure=>simp[intOf]
    ·have dx:(x !=y)=true:=by simpa using oD
     cases x with
     | true=>
      obtain rfl:y=false:=by cases y<;>simp_all
      have he:kP (au xs) (au ys)=1:=pd (AA HD.out.symm HY.out HX.out);have HE:=zH he;clear he oD;go_wp2_with fail;refine Wj.out.mono ?_;rintro e w' ⟨rfl,rfl⟩;go_wp2_with fail;refine HCY.out.mono ?_;rintro e w' ⟨rfl,rfl⟩;go_wp2_with fail;refine(Wj.out).mono ?_;rintro e w' ⟨rfl,rfl⟩;go_wp2_with fail;go_ret
      exact⟨iu (by rw[HE.out];rfl),rfl⟩
     | false=>
      obtain rfl:y=true:=by cases y<;>simp_all
      have he:kP (au xs) (au ys)= -1:=pc (AA HD.out HX.out HY.out);have HE:=zH he;clear he oD;go_wp2_with fail;refine Wj.out.mono ?_;rintro e w' ⟨rfl,rfl⟩;go_wp2_with fail;refine HCY.out.mono ?_;rintro e w' ⟨rfl,rfl⟩;go_wp2_with fail;refine(Wj.out).mono ?_;rintro e w' ⟨rfl,rfl⟩;go_wp2_with fail;go_ret
      exact⟨iu (by rw[HE.out];rfl),rfl⟩
theorem VY {S S2:Nat→Prop} {A A2:Option Addr} {n c n2 c2:Nat} {xs ys:List Bool} {w:World} (h:RS w S A n c xs) (h2:RS w S2 A2 n2 c2 ys) (hS:∀b,S b→b<w.heap.size) (iM:∀b,S2 b→b<w.heap.size) (hn:n≤549755813888) (hn2:n2≤549755813888) : Calls Tryz.prog 255 #[.slice A n c,.slice A2 n2 c2] w (jQ w 4 (bits (au xs+au ys))):=by
 have H:=zH h;have H2:=zH h2;have HL:=zH h.len;have pG:=zH h2.len;obtain⟨m,hm,MC,Z7,hmb⟩:∃m:Nat,(if n<n2 then(n2:Int) else(n:Int))=(m:Int)∧n≤m∧n2≤m∧m≤549755813888:=⟨max n n2,by split<;>omega,by omega,by omega,by omega⟩;have HNM:=zH MC;have ana:=zH Z7;clear h h2 MC Z7;go_enter Tryz.func255,Tryz.ntmps255;go_wp2_with fail;go_loopw [5,6,7] (fun ov cv iv wr=>∃(i:Nat) (out:List Bool) (cy:Bool),iv=.int .i64 i∧i≤m+1∧cv=.bool cy∧Own wr bz w.heap.size 4 ov out∧out.length=i∧au out+2^i*cy.toNat=au (xs.take i)+au (ys.take i)∧Below w.heap.size w wr) (fun _ _ iv _=>m+1-(intOf iv).toNat)
 case atStart=>exact⟨0,[],false,rfl,Nat.zero_le _,rfl,Own.nil _ _ _,rfl,by simp[au],Below.refl _ _⟩
 case round=>
  obtain⟨i,out,cy,rfl,hi,rfl,ho,nU,hv,hb⟩:=hrel;have HO:=zH ho;have HB:=zH hb;have HV:=zH hv;have CI:=zH nU;obtain⟨A4,n4,c4,rfl,hn4⟩:=ho.slice;clear ho hb hv nU hn4;rcases Nat.lt_or_ge m i with hlt|hge
  ·have hr:=HO.out.rs (S':=fun b=>b<wr.heap.size) (fun _ h=>h.elim) (fun _ _ h=>h);have hn4:n4≤1099511627776:=by have:=hr.len;have:=CI.out;omega
   have hi1:i=m+1:=by omega
   have eD:au out=au xs+au ys:=VS (m:=m) (by rw[HL.out];exact HNM.out) (by rw[pG.out];exact ana.out) (by rw[←hi1];exact HV.out);have bT:=jG hr hn4;rw[eD] at bT;have HC:=zH bT;have d0:decide (i≤m)=false:=decide_eq_false (by omega);have d1:((i:Int)≤(m:Int))=False:=eq_false (by omega);clear hr hn4 bT eD hi1 hlt;go_wp2_with fail;refine HC.out.mono ?_;rintro e w2 ⟨v2,rfl,nO,cm⟩;have oT:=zH (nO.base_le HB.out.size);have fg:=zH (ao HB.out cm);clear nO cm;go_wp2_with fail;go_ret
   exact⟨_,rfl,oT.out,fg.out⟩
  ·obtain⟨x,hx⟩:∃x,dW xs i=x:=⟨_,rfl⟩;obtain⟨y,hy⟩:∃y,dW ys i=y:=⟨_,rfl⟩;have Xc:Calls Tryz.prog 175 #[.slice A n c,.int .i64 i] wr (gW wr (.bool x)):=by rw[←hx];exact mH i (H.out.below HB.out hS)
   have Xb:Calls Tryz.prog 175 #[.slice A2 n2 c2,.int .i64 i] wr (gW wr (.bool y)):=by rw[←hy];exact mH i (H2.out.below HB.out iM)
   have dp:=VT xs ys out cy i CI.out HV.out;rw[hx,hy] at dp;have bG:(out.length+1)*(1+1)≤140737488355328:=by have:=CI.out;omega
   have Wj:=zH Xc;have HCY:=zH Xb;have AM:=zH dp;have mL:=zH bG;have hwi:IntKind.i64.wrap ((i:Int)+1)=(i:Int)+1:=by rw[IntKind.wrap_i64]<;>omega
   have d0:decide (i≤m)=true:=decide_eq_true hge;have d1:((i:Int)≤(m:Int))=True:=eq_true (by omega);clear Xc Xb dp bG hx hy HV;cases x<;>cases y<;>cases cy
   all_goals
    go_wp2_with fail;refine Wj.out.mono ?_;rintro e w' ⟨rfl,rfl⟩;go_wp2_with fail;refine HCY.out.mono ?_;rintro e w' ⟨rfl,rfl⟩;go_wp2_with (at_builtin; (first|(refine ey (α:=Bool) (w0:=w) rfl _ _ 155 rfl 1 Tryz.bitsTy rfl HO.out HB.out [.bool true] true 1 rfl rfl 4 (by simp[Value.oneCell']) mL.out ?_)|(refine ey (α:=Bool) (w0:=w) rfl _ _ 155 rfl 1 Tryz.bitsTy rfl HO.out HB.out [.bool false] false 1 rfl rfl 4 (by simp[Value.oneCell']) mL.out ?_)); intro v4 w4 hown4 j7 hg4 hl4; have Fq:=zH hown4; have yz:=zH j7; clear hown4 j7 hg4 hl4);go_roundw
    case rel=>exact⟨i+1,_,_,by go_num,by omega,rfl,Fq.out,by have:=CI.out;simp[this],AM.out,yz.out⟩
    case measure=>simp[intOf];omega
theorem S5 {S S2:Nat→Prop} {A A2:Option Addr} {n c n2 c2:Nat} {xs ys:List Bool} {w:World} (h:RS w S A n c xs) (h2:RS w S2 A2 n2 c2 ys) (hS:∀b,S b→b<w.heap.size) (iM:∀b,S2 b→b<w.heap.size) (hn:n≤549755813888) (yV:au ys≤au xs) : Calls Tryz.prog 212 #[.slice A n c,.slice A2 n2 c2] w (jQ w 4 (bits (au xs-au ys))):=by
 have H:=zH h;have H2:=zH h2;have HL:=zH h.len;have HLE:=zH yV;clear h h2 yV;go_enter Tryz.func212,Tryz.ntmps212;go_wp2_with fail;go_loopw [5,6,7] (fun ov cv iv wr=>∃(i:Nat) (out:List Bool) (cy:Bool),iv=.int .i64 i∧i≤n∧cv=.bool cy∧Own wr bz w.heap.size 4 ov out∧out.length=i∧au out+au (ys.take i)=au (xs.take i)+2^i*cy.toNat∧Below w.heap.size w wr) (fun _ _ iv _=>n-(intOf iv).toNat)
 case atStart=>exact⟨0,[],false,rfl,Nat.zero_le _,rfl,Own.nil _ _ _,rfl,by simp[au],Below.refl _ _⟩
 case round=>
  obtain⟨i,out,cy,rfl,hi,rfl,ho,nU,hv,hb⟩:=hrel;have HO:=zH ho;have HB:=zH hb;have HV:=zH hv;have CI:=zH nU;obtain⟨A4,n4,c4,rfl,hn4⟩:=ho.slice;clear ho hb hv nU hn4;rcases Nat.lt_or_ge i n with hlt|hge
  ·obtain⟨x,hx⟩:∃x,dW xs i=x:=⟨_,rfl⟩;obtain⟨y,hy⟩:∃y,dW ys i=y:=⟨_,rfl⟩;have Xc:Calls Tryz.prog 175 #[.slice A n c,.int .i64 i] wr (gW wr (.bool x)):=by rw[←hx];exact mH i (H.out.below HB.out hS)
   have Xb:Calls Tryz.prog 175 #[.slice A2 n2 c2,.int .i64 i] wr (gW wr (.bool y)):=by rw[←hy];exact mH i (H2.out.below HB.out iM)
   have dp:=SZ xs ys out cy i CI.out HV.out;rw[hx,hy] at dp;have bG:(out.length+1)*(1+1)≤140737488355328:=by have:=CI.out;omega
   have Wj:=zH Xc;have HCY:=zH Xb;have AM:=zH dp;have mL:=zH bG;have hwi:IntKind.i64.wrap ((i:Int)+1)=(i:Int)+1:=by rw[IntKind.wrap_i64]<;>omega
   have d1:((i:Int)<(n:Int))=True:=eq_true (by omega);clear Xc Xb dp bG hx hy HV;cases x<;>cases y<;>cases cy
   all_goals
    go_wp2_with fail;refine Wj.out.mono ?_;rintro e w' ⟨rfl,rfl⟩;go_wp2_with fail;refine HCY.out.mono ?_;rintro e w' ⟨rfl,rfl⟩;go_wp2_with (at_builtin; (first|(refine ey (α:=Bool) (w0:=w) rfl _ _ 155 rfl 1 Tryz.bitsTy rfl HO.out HB.out [.bool true] true 1 rfl rfl 4 (by simp[Value.oneCell']) mL.out ?_)|(refine ey (α:=Bool) (w0:=w) rfl _ _ 155 rfl 1 Tryz.bitsTy rfl HO.out HB.out [.bool false] false 1 rfl rfl 4 (by simp[Value.oneCell']) mL.out ?_)); intro v4 w4 hown4 j7 hg4 hl4; have Fq:=zH hown4; have yz:=zH j7; clear hown4 j7 hg4 hl4);go_roundw
    case rel=>exact⟨i+1,_,_,by go_num,by omega,rfl,Fq.out,by have:=CI.out;simp[this],AM.out,yz.out⟩
    case measure=>simp[intOf];omega
  ·have hr:=HO.out.rs (S':=fun b=>b<wr.heap.size) (fun _ h=>h.elim) (fun _ _ h=>h);have hn4:n4≤1099511627776:=by have:=hr.len;have:=CI.out;omega
   have hi1:i=n:=by omega
   have eD:au out=au xs-au ys:=by
    have e1:xs.length=i:=by rw[HL.out];exact hi1.symm
    refine SY (c:=cy) HLE.out (by rw[CI.out,e1]) ?_;rw[e1];exact HV.out
   have bT:=jG hr hn4;rw[eD] at bT;have HC:=zH bT;have d1:((i:Int)<(n:Int))=False:=eq_false (by omega);clear hr hn4 bT eD hi1;go_wp2_with fail;refine HC.out.mono ?_;rintro e w2 ⟨v2,rfl,nO,cm⟩;have oT:=zH (nO.base_le HB.out.size);have fg:=zH (ao HB.out cm);clear nO cm;go_wp2_with fail;go_ret
   exact⟨_,rfl,oT.out,fg.out⟩
theorem NI {S:Nat→Prop} {A:Option Addr} {n c:Nat} {xs:List Bool} {w:World} (h:RS w S A n c xs) (hS:∀b,S b→b<w.heap.size) (hn:n≤549755813888) (m:Nat) (hm:m≤549755813888) : Calls Tryz.prog 256 #[.slice A n c,.int .i64 m] w (jQ w 4 (List.replicate m false++xs)):=by
 have H:=zH h;have HS:=zH hS;have HL:=zH h.len;clear h hS;obtain⟨i0,hi,kI,fF,iO⟩:=info_parts (show(Tryz.prog.info? 4).map (fun i=>(i.zero,i.size,i.bytes))=some (some (.bool false),1,1) by kernel_rfl);have HI:=zH hi;have qR:=zH kI;have ku:=zH fF;have lC:=zH iO;clear hi kI fF iO;go_enter Tryz.func256,Tryz.ntmps256;go_wp2_with (first
  | (refine ct (α:=Bool) w rfl _ _ 155 rfl rfl w.heap.size i0 (.bool false) Tryz.underlying155 HI.out qR.out ku.out rfl .i64 .i64 (m:Int) (m:Int) m rfl rfl rfl rfl (by rw[lC.out];omega) (by unfold maxLen;omega) (Nat.le_refl _) false bz (fun _ h=>h.elim) (fun _ _=>rfl) ?_; intro w3 xD hg3; have Fs:=zH xD; have mM:=zH ((Below.refl w.heap.size w).grown hg3 (Nat.le_refl _) (fun k hk=>by cases hk)); clear xD hg3)
  | (at_builtin; have Lt:=H.out.below mM.out HS.out; refine gv (α:=Bool) (S:=bz) rfl _ _ 155 rfl 1 Tryz.bitsTy rfl Fs.out rfl Lt _ (Flat.bools _) Lt.boolsAt (pg _) (by rw[List.length_replicate,HL.out];omega) mM.out.size ?_; intro v2 w2 hown2 hg2 ub; have oT:=zH hown2; have fg:=zH (mM.out.grown hg2 mM.out.size (fun k hk=>(Fs.out.lt k hk).1)); clear hown2 hg2 ub Lt))
 go_ret
 exact⟨_,rfl,oT.out,fg.out⟩
theorem TO {S S2:Nat→Prop} {A A2:Option Addr} {n c n2 c2:Nat} {xs ys:List Bool} {w:World} (h:RS w S A n c xs) (h2:RS w S2 A2 n2 c2 ys) (hS:∀b,S b→b<w.heap.size) (iM:∀b,S2 b→b<w.heap.size) (hn:n≤137438953472) (hn2:n2≤137438953472) : Calls Tryz.prog 236 #[.slice A n c,.slice A2 n2 c2] w (jQ w 4 (bits (au xs*au ys))):=by
 have H:=zH h;have H2:=zH h2;have HL:=zH h.len;have pG:=zH h2.len;have HS:=zH hS;clear h h2 hS;go_enter Tryz.func236,Tryz.ntmps236;go_wp2_with fail;go_loopw [5,6] (fun sv iv wr=>∃(i:Nat),iv=.int .i64 i∧i≤n2∧Own wr bz w.heap.size 4 sv (bits (au xs*au (ys.take i)))∧Below w.heap.size w wr) (fun _ iv _=>n2-(intOf iv).toNat)
 case atStart=>exact⟨0,rfl,Nat.zero_le _,by rw[List.take_zero];show Own _ _ _ _ _ (bits (au xs*0));rw[Nat.mul_zero,eA];exact Own.nil _ _ _,Below.refl _ _⟩
 case round=>
  obtain⟨i,rfl,hi,ho,hb⟩:=hrel;have fU:(bits (au xs*au (ys.take i))).length≤274877906944:=by
   refine Nat.le_trans (jO (k:=n+n2) ?_) (by omega);rw[Nat.pow_add];have e1:au xs<2^n:=by have:=m8 xs;rw[HL.out] at this;exact this
   have e2:au (ys.take i)<2^n2:=Nat.lt_of_lt_of_le (m6 ys i) (Nat.pow_le_pow_right (by omega) hi);exact Nat.mul_lt_mul'' e1 e2
  have HO:=zH ho;have HB:=zH hb;have HSL:=zH fU;obtain⟨A4,n4,c4,rfl,hn4⟩:=ho.slice;clear ho hb hn4 fU;rcases Nat.lt_or_ge i n2 with hlt|hge
  ·have hd:((i:Int)<(n2:Int))=True:=eq_true (by omega);have hwi:IntKind.i64.wrap ((i:Int)+1)=(i:Int)+1:=by rw[IntKind.wrap_i64]<;>omega
   obtain⟨b,o,y,rfl,_,hy,e1⟩:=(H2.out.below HB.out iM).bool_at hlt;have hc2:(i:Int)≤(c2:Int):=by have:=H2.out.cap;omega
   have dp:=fC ys i;rw[fY hy] at dp;have AM:=zH dp;clear dp hy;cases y with
   | false=>
    have he:bits (au xs*au (ys.take (i+1)))=bits (au xs*au (ys.take i)):=by rw[AM.out];simp
    have HE:=zH he;clear he;go_wp2_with fail;go_roundw
    case rel=>exact⟨i+1,by go_num,by omega,by rw[HE.out];exact HO.out,HB.out⟩
    case measure=>simp[intOf];omega
   | true=>
    have he:au (bits (au xs*au (ys.take i)))+au (List.replicate i false++xs)=au xs*au (ys.take (i+1)):=by
     rw[bE,oM,Hi,List.length_replicate,AM.out,Nat.mul_add];simp[Nat.mul_comm]
    have HE:=zH he;have bT:=NI (H.out.below HB.out HS.out) (fun b hb=>Nat.lt_of_lt_of_le (HS.out b hb) HB.out.size) (by omega) i (by omega);have HC:=zH bT;clear he bT;go_wp2_with fail;refine HC.out.mono ?_;rintro e w2 ⟨v2,rfl,nO,cm⟩;have oT:=zH (nO.base_le HB.out.size);have jk:=zH (HO.out.below cm);have fg:=zH (ao HB.out cm);obtain⟨A5,n5,c5,rfl,hn5⟩:=nO.slice;have bT:=VY (jk.out.rsAll) (oT.out.rsAll) (fun _ h=>h) (fun _ h=>h) (by rw[←jk.out.rsAll.len];have:=HSL.out;omega) (by rw[hn5,List.length_append,List.length_replicate,HL.out];omega);rw[HE.out] at bT;have HC2:=zH bT;clear nO cm hn5 bT;go_wp2_with fail;refine HC2.out.mono ?_;rintro e w3 ⟨v3,rfl,xD,kR⟩;have Fs:=zH (xD.base_le fg.out.size);have mM:=zH (ao fg.out kR);clear xD kR;go_wp2_with fail;go_roundw
    case rel=>exact⟨i+1,by go_num,by omega,Fs.out,mM.out⟩
    case measure=>simp[intOf];omega
  ·have hd:((i:Int)<(n2:Int))=False:=eq_false (by omega);have eR:au (bits (au xs*au (ys.take i)))=au xs*au ys:=by rw[List.take_of_length_le (by rw[pG.out];omega),bE]
   have bT:=jG (HO.out.rsAll) (by rw[←HO.out.rsAll.len];have:=HSL.out;omega);rw[eR] at bT;have HC:=zH bT;clear bT eR;go_wp2_with fail;refine HC.out.mono ?_;rintro e w2 ⟨v2,rfl,nO,cm⟩;have oT:=zH (nO.base_le HB.out.size);have fg:=zH (ao HB.out cm);clear nO cm;go_wp2_with fail;go_ret
   exact⟨_,rfl,oT.out,fg.out⟩
end Go.Proofs.YtdbpbfglhbiadaaGreatDoor
