/- Ref2 Ref3 Ref4 Ref5 -/
import Derived.Test.YtjlhbfbdcfajfaaGreatDoorW17
import Derived.Test.YtjlhbfbdcfajfaaGreatDoorW03
set_option maxHeartbeats 8000000
set_option maxRecDepth 100000
namespace Go.Proofs.YtjlhbfbdcfajfaaGreatDoor
open Go.RowKit
theorem JB {S S2:Nat→Prop} {A A2:Option Addr} {n c n2 c2:Nat} {xs ys:List Bool} {w:World} (h:RS w S A n c xs) (h2:RS w S2 A2 n2 c2 ys) : Calls Tryz.prog 89 #[.slice A n c,.slice A2 n2 c2] w (gU w (.int .i64 (kM (ar xs) (ar ys)))):=by
 have H:=zH h;have H2:=zH h2;have Jd:=h.max;have hm2:=h2.max;have HL:=zH h.len;have pE:=zH h2.len;have hw0:IntKind.i64.wrap ((n:Int)-1)=(n:Int)-1:=by rw[IntKind.wrap_i64]<;>omega
 have gj:IntKind.i64.wrap ((n2:Int)-1)=(n2:Int)-1:=by rw[IntKind.wrap_i64]<;>omega
 clear h h2;go_enter Tryz.func89,Tryz.ntmps89;go_wp2_with fail
 case' inl=>obtain⟨m,hm,hn1,hn2,hmb⟩:∃m:Nat,n2=m∧n≤m∧n2≤m∧m≤9223372036854775807:=⟨n2,rfl,by omega,Nat.le_refl _,by omega⟩
 case' inr=>obtain⟨m,hm,hn1,hn2,hmb⟩:∃m:Nat,n=m∧n≤m∧n2≤m∧m≤9223372036854775807:=⟨n,rfl,Nat.le_refl _,by omega,by omega⟩
 all_goals
  have HN1:=zH hn1;have HN2:=zH hn2;have HM:=zH hm;clear hn1 hn2 hw0 gj;clear hm;go_loopw [5] (fun v wr=>∃(k:Nat) (z:Int),k≤m∧v=.int .i64 z∧z+1=k∧ar (xs.drop k)=ar (ys.drop k)∧wr=w) (fun v _=>(intOf v+1).toNat)
  case atStart=>exact⟨m,(m:Int)-1,Nat.le_refl _,by rw[HM.out],by omega,by rw[List.drop_eq_nil_of_le (by rw[HL.out];exact HN1.out),List.drop_eq_nil_of_le (by rw[pE.out];exact HN2.out)],rfl⟩
  case round=>
   obtain⟨k,z,hk,rfl,hz,hd,rfl⟩:=hrel;have HD:=zH hd;clear hd;rcases k with _|k
   ·obtain rfl:z= -1:=by omega
    have he:kM (ar xs) (ar ys)=0:=by
     have h1:=HD.out;rw[List.drop_zero,List.drop_zero] at h1;rw[h1,sk]
    have HE:=zH he;clear he hz;go_wp2_with fail;go_ret
    exact⟨iw (by rw[HE.out];rfl),rfl⟩
   ·obtain rfl:z=k:=by omega
    have PF:(0≤(k:Int))=True:=eq_true (by omega);obtain⟨x,hx⟩:∃x,dT xs k=x:=⟨_,rfl⟩;obtain⟨y,hy⟩:∃y,dT ys k=y:=⟨_,rfl⟩;have W8:Calls Tryz.prog 114 #[.slice A n c,.int .i64 k] wr (gU wr (.bool x)):=by rw[←hx];exact mD k H.out
    have W7:Calls Tryz.prog 114 #[.slice A2 n2 c2,.int .i64 k] wr (gU wr (.bool y)):=by rw[←hy];exact mD k H2.out
    have Wa:=zH W8;have HCY:=zH W7;have HX:=zH hx;have HY:=zH hy;have hwk:IntKind.i64.wrap ((k:Int)-1)=(k:Int)-1:=by rw[IntKind.wrap_i64]<;>omega
    clear W8 W7 hx hy hz;by_cases ox:x=y
    ·have hn:=LC HD.out (by rw[HX.out,HY.out,ox]);have HN:=zH hn;subst ox;have dx:(x !=x)=false:=by simp
     clear hn;go_wp2_with fail;refine Wa.out.mono ?_;rintro e w' ⟨rfl,rfl⟩;go_wp2_with fail;refine HCY.out.mono ?_;rintro e w' ⟨rfl,rfl⟩;go_wp2_with fail;go_roundw
     case rel=>exact⟨k,(k:Int)-1,by omega,by go_num,by omega,HN.out,trivial⟩
     case measure=>simp[intOf]
    ·have dx:(x !=y)=true:=by simpa using ox
     cases x with
     | true=>
      obtain rfl:y=false:=by cases y<;>simp_all
      have he:kM (ar xs) (ar ys)=1:=o9 (Ah HD.out.symm HY.out HX.out);have HE:=zH he;clear he ox;go_wp2_with fail;refine Wa.out.mono ?_;rintro e w' ⟨rfl,rfl⟩;go_wp2_with fail;refine HCY.out.mono ?_;rintro e w' ⟨rfl,rfl⟩;go_wp2_with fail;refine(Wa.out).mono ?_;rintro e w' ⟨rfl,rfl⟩;go_wp2_with fail;go_ret
      exact⟨iw (by rw[HE.out];rfl),rfl⟩
     | false=>
      obtain rfl:y=true:=by cases y<;>simp_all
      have he:kM (ar xs) (ar ys)= -1:=o8 (Ah HD.out HX.out HY.out);have HE:=zH he;clear he ox;go_wp2_with fail;refine Wa.out.mono ?_;rintro e w' ⟨rfl,rfl⟩;go_wp2_with fail;refine HCY.out.mono ?_;rintro e w' ⟨rfl,rfl⟩;go_wp2_with fail;refine(Wa.out).mono ?_;rintro e w' ⟨rfl,rfl⟩;go_wp2_with fail;go_ret
      exact⟨iw (by rw[HE.out];rfl),rfl⟩
theorem VV {S S2:Nat→Prop} {A A2:Option Addr} {n c n2 c2:Nat} {xs ys:List Bool} {w:World} (h:RS w S A n c xs) (h2:RS w S2 A2 n2 c2 ys) (hS:∀b,S b→b<w.heap.size) (iN:∀b,S2 b→b<w.heap.size) (hn:n≤549755813888) (hn2:n2≤549755813888) : Calls Tryz.prog 193 #[.slice A n c,.slice A2 n2 c2] w (jR w 4 (bits (ar xs+ar ys))):=by
 have H:=zH h;have H2:=zH h2;have HL:=zH h.len;have pE:=zH h2.len;obtain⟨m,hm,Mn,Zz,hmb⟩:∃m:Nat,(if n<n2 then(n2:Int) else(n:Int))=(m:Int)∧n≤m∧n2≤m∧m≤549755813888:=⟨max n n2,by split<;>omega,by omega,by omega,by omega⟩;have HNM:=zH Mn;have amX:=zH Zz;clear h h2 Mn Zz;go_enter Tryz.func193,Tryz.ntmps193;go_wp2_with fail;go_loopw [5,6,7] (fun ov cv iv wr=>∃(i:Nat) (out:List Bool) (cy:Bool),iv=.int .i64 i∧i≤m+1∧cv=.bool cy∧Own wr bw w.heap.size 4 ov out∧out.length=i∧ar out+2^i*cy.toNat=ar (xs.take i)+ar (ys.take i)∧Below w.heap.size w wr) (fun _ _ iv _=>m+1-(intOf iv).toNat)
 case atStart=>exact⟨0,[],false,rfl,Nat.zero_le _,rfl,Own.nil _ _ _,rfl,by simp[ar],Below.refl _ _⟩
 case round=>
  obtain⟨i,out,cy,rfl,hi,rfl,ho,nS,hv,hb⟩:=hrel;have HO:=zH ho;have HB:=zH hb;have HV:=zH hv;have Cz:=zH nS;obtain⟨A4,n4,c4,rfl,hn4⟩:=ho.slice;clear ho hb hv nS hn4;rcases Nat.lt_or_ge m i with hlt|hge
  ·have hr:=HO.out.rs (S':=fun b=>b<wr.heap.size) (fun _ h=>h.elim) (fun _ _ h=>h);have hn4:n4≤1099511627776:=by have:=hr.len;have:=Cz.out;omega
   have hi1:i=m+1:=by omega
   have eB:ar out=ar xs+ar ys:=VP (m:=m) (by rw[HL.out];exact HNM.out) (by rw[pE.out];exact amX.out) (by rw[←hi1];exact HV.out);have bR:=jI hr hn4;rw[eB] at bR;have HC:=zH bR;have d0:decide (i≤m)=false:=decide_eq_false (by omega);have d1:((i:Int)≤(m:Int))=False:=eq_false (by omega);clear hr hn4 bR eB hi1 hlt;go_wp2_with fail;refine HC.out.mono ?_;rintro e w2 ⟨v2,rfl,nM,cj⟩;have oR:=zH (nM.base_le HB.out.size);have fe:=zH (ak HB.out cj);clear nM cj;go_wp2_with fail;go_ret
   exact⟨_,rfl,oR.out,fe.out⟩
  ·obtain⟨x,hx⟩:∃x,dT xs i=x:=⟨_,rfl⟩;obtain⟨y,hy⟩:∃y,dT ys i=y:=⟨_,rfl⟩;have W8:Calls Tryz.prog 114 #[.slice A n c,.int .i64 i] wr (gU wr (.bool x)):=by rw[←hx];exact mD i (H.out.below HB.out hS)
   have W7:Calls Tryz.prog 114 #[.slice A2 n2 c2,.int .i64 i] wr (gU wr (.bool y)):=by rw[←hy];exact mD i (H2.out.below HB.out iN)
   have dl:=VQ xs ys out cy i Cz.out HV.out;rw[hx,hy] at dl;have bO:(out.length+1)*(1+1)≤140737488355328:=by have:=Cz.out;omega
   have Wa:=zH W8;have HCY:=zH W7;have AF:=zH dl;have mH:=zH bO;have hwi:IntKind.i64.wrap ((i:Int)+1)=(i:Int)+1:=by rw[IntKind.wrap_i64]<;>omega
   have d0:decide (i≤m)=true:=decide_eq_true hge;have d1:((i:Int)≤(m:Int))=True:=eq_true (by omega);clear W8 W7 dl bO hx hy HV;cases x<;>cases y<;>cases cy
   all_goals
    go_wp2_with fail;refine Wa.out.mono ?_;rintro e w' ⟨rfl,rfl⟩;go_wp2_with fail;refine HCY.out.mono ?_;rintro e w' ⟨rfl,rfl⟩;go_wp2_with (at_builtin; (first|(refine em (α:=Bool) (w0:=w) rfl _ _ 120 rfl 1 Tryz.bitsTy rfl HO.out HB.out [.bool true] true 1 rfl rfl 4 (by simp[Value.oneCell']) mH.out ?_)|(refine em (α:=Bool) (w0:=w) rfl _ _ 120 rfl 1 Tryz.bitsTy rfl HO.out HB.out [.bool false] false 1 rfl rfl 4 (by simp[Value.oneCell']) mH.out ?_)); intro v4 w4 hown4 j6 hg4 hl4; have E8:=zH hown4; have yi:=zH j6; clear hown4 j6 hg4 hl4);go_roundw
    case rel=>exact⟨i+1,_,_,by go_num,by omega,rfl,E8.out,by have:=Cz.out;simp[this],AF.out,yi.out⟩
    case measure=>simp[intOf];omega
theorem SU {S S2:Nat→Prop} {A A2:Option Addr} {n c n2 c2:Nat} {xs ys:List Bool} {w:World} (h:RS w S A n c xs) (h2:RS w S2 A2 n2 c2 ys) (hS:∀b,S b→b<w.heap.size) (iN:∀b,S2 b→b<w.heap.size) (hn:n≤549755813888) (yH:ar ys≤ar xs) : Calls Tryz.prog 145 #[.slice A n c,.slice A2 n2 c2] w (jR w 4 (bits (ar xs-ar ys))):=by
 have H:=zH h;have H2:=zH h2;have HL:=zH h.len;have HLE:=zH yH;clear h h2 yH;go_enter Tryz.func145,Tryz.ntmps145;go_wp2_with fail;go_loopw [5,6,7] (fun ov cv iv wr=>∃(i:Nat) (out:List Bool) (cy:Bool),iv=.int .i64 i∧i≤n∧cv=.bool cy∧Own wr bw w.heap.size 4 ov out∧out.length=i∧ar out+ar (ys.take i)=ar (xs.take i)+2^i*cy.toNat∧Below w.heap.size w wr) (fun _ _ iv _=>n-(intOf iv).toNat)
 case atStart=>exact⟨0,[],false,rfl,Nat.zero_le _,rfl,Own.nil _ _ _,rfl,by simp[ar],Below.refl _ _⟩
 case round=>
  obtain⟨i,out,cy,rfl,hi,rfl,ho,nS,hv,hb⟩:=hrel;have HO:=zH ho;have HB:=zH hb;have HV:=zH hv;have Cz:=zH nS;obtain⟨A4,n4,c4,rfl,hn4⟩:=ho.slice;clear ho hb hv nS hn4;rcases Nat.lt_or_ge i n with hlt|hge
  ·obtain⟨x,hx⟩:∃x,dT xs i=x:=⟨_,rfl⟩;obtain⟨y,hy⟩:∃y,dT ys i=y:=⟨_,rfl⟩;have W8:Calls Tryz.prog 114 #[.slice A n c,.int .i64 i] wr (gU wr (.bool x)):=by rw[←hx];exact mD i (H.out.below HB.out hS)
   have W7:Calls Tryz.prog 114 #[.slice A2 n2 c2,.int .i64 i] wr (gU wr (.bool y)):=by rw[←hy];exact mD i (H2.out.below HB.out iN)
   have dl:=SO xs ys out cy i Cz.out HV.out;rw[hx,hy] at dl;have bO:(out.length+1)*(1+1)≤140737488355328:=by have:=Cz.out;omega
   have Wa:=zH W8;have HCY:=zH W7;have AF:=zH dl;have mH:=zH bO;have hwi:IntKind.i64.wrap ((i:Int)+1)=(i:Int)+1:=by rw[IntKind.wrap_i64]<;>omega
   have d1:((i:Int)<(n:Int))=True:=eq_true (by omega);clear W8 W7 dl bO hx hy HV;cases x<;>cases y<;>cases cy
   all_goals
    go_wp2_with fail;refine Wa.out.mono ?_;rintro e w' ⟨rfl,rfl⟩;go_wp2_with fail;refine HCY.out.mono ?_;rintro e w' ⟨rfl,rfl⟩;go_wp2_with (at_builtin; (first|(refine em (α:=Bool) (w0:=w) rfl _ _ 120 rfl 1 Tryz.bitsTy rfl HO.out HB.out [.bool true] true 1 rfl rfl 4 (by simp[Value.oneCell']) mH.out ?_)|(refine em (α:=Bool) (w0:=w) rfl _ _ 120 rfl 1 Tryz.bitsTy rfl HO.out HB.out [.bool false] false 1 rfl rfl 4 (by simp[Value.oneCell']) mH.out ?_)); intro v4 w4 hown4 j6 hg4 hl4; have E8:=zH hown4; have yi:=zH j6; clear hown4 j6 hg4 hl4);go_roundw
    case rel=>exact⟨i+1,_,_,by go_num,by omega,rfl,E8.out,by have:=Cz.out;simp[this],AF.out,yi.out⟩
    case measure=>simp[intOf];omega
  ·have hr:=HO.out.rs (S':=fun b=>b<wr.heap.size) (fun _ h=>h.elim) (fun _ _ h=>h);have hn4:n4≤1099511627776:=by have:=hr.len;have:=Cz.out;omega
   have hi1:i=n:=by omega
   have eB:ar out=ar xs-ar ys:=by
    have e1:xs.length=i:=by rw[HL.out];exact hi1.symm
    refine SN (c:=cy) HLE.out (by rw[Cz.out,e1]) ?_;rw[e1];exact HV.out
   have bR:=jI hr hn4;rw[eB] at bR;have HC:=zH bR;have d1:((i:Int)<(n:Int))=False:=eq_false (by omega);clear hr hn4 bR eB hi1;go_wp2_with fail;refine HC.out.mono ?_;rintro e w2 ⟨v2,rfl,nM,cj⟩;have oR:=zH (nM.base_le HB.out.size);have fe:=zH (ak HB.out cj);clear nM cj;go_wp2_with fail;go_ret
   exact⟨_,rfl,oR.out,fe.out⟩
theorem Ns {S:Nat→Prop} {A:Option Addr} {n c:Nat} {xs:List Bool} {w:World} (h:RS w S A n c xs) (hS:∀b,S b→b<w.heap.size) (hn:n≤549755813888) (m:Nat) (hm:m≤549755813888) : Calls Tryz.prog 194 #[.slice A n c,.int .i64 m] w (jR w 4 (List.replicate m false++xs)):=by
 have H:=zH h;have HS:=zH hS;have HL:=zH h.len;clear h hS;obtain⟨i0,hi,kG,fH,iP⟩:=info_parts (show(Tryz.prog.info? 4).map (fun i=>(i.zero,i.size,i.bytes))=some (some (.bool false),1,1) by kernel_rfl);have HI:=zH hi;have qJ:=zH kG;have kr:=zH fH;have lA:=zH iP;clear hi kG fH iP;go_enter Tryz.func194,Tryz.ntmps194;go_wp2_with (first
  | (refine ck (α:=Bool) w rfl _ _ 120 rfl rfl w.heap.size i0 (.bool false) Tryz.underlying120 HI.out qJ.out kr.out rfl .i64 .i64 (m:Int) (m:Int) m rfl rfl rfl rfl (by rw[lA.out];omega) (by unfold maxLen;omega) (Nat.le_refl _) false bw (fun _ h=>h.elim) (fun _ _=>rfl) ?_; intro w3 xm hg3; have E9:=zH xm; have mI:=zH ((Below.refl w.heap.size w).grown hg3 (Nat.le_refl _) (fun k hk=>by cases hk)); clear xm hg3)
  | (at_builtin; have Le:=H.out.below mI.out HS.out; refine gn (α:=Bool) (S:=bw) rfl _ _ 120 rfl 1 Tryz.bitsTy rfl E9.out rfl Le _ (Flat.bools _) Le.boolsAt (pd _) (by rw[List.length_replicate,HL.out];omega) mI.out.size ?_; intro v2 w2 hown2 hg2 tM; have oR:=zH hown2; have fe:=zH (mI.out.grown hg2 mI.out.size (fun k hk=>(E9.out.lt k hk).1)); clear hown2 hg2 tM Le))
 go_ret
 exact⟨_,rfl,oR.out,fe.out⟩
theorem TK {S S2:Nat→Prop} {A A2:Option Addr} {n c n2 c2:Nat} {xs ys:List Bool} {w:World} (h:RS w S A n c xs) (h2:RS w S2 A2 n2 c2 ys) (hS:∀b,S b→b<w.heap.size) (iN:∀b,S2 b→b<w.heap.size) (hn:n≤137438953472) (hn2:n2≤137438953472) : Calls Tryz.prog 171 #[.slice A n c,.slice A2 n2 c2] w (jR w 4 (bits (ar xs*ar ys))):=by
 have H:=zH h;have H2:=zH h2;have HL:=zH h.len;have pE:=zH h2.len;have HS:=zH hS;clear h h2 hS;go_enter Tryz.func171,Tryz.ntmps171;go_wp2_with fail;go_loopw [5,6] (fun sv iv wr=>∃(i:Nat),iv=.int .i64 i∧i≤n2∧Own wr bw w.heap.size 4 sv (bits (ar xs*ar (ys.take i)))∧Below w.heap.size w wr) (fun _ iv _=>n2-(intOf iv).toNat)
 case atStart=>exact⟨0,rfl,Nat.zero_le _,by rw[List.take_zero];show Own _ _ _ _ _ (bits (ar xs*0));rw[Nat.mul_zero,ey];exact Own.nil _ _ _,Below.refl _ _⟩
 case round=>
  obtain⟨i,rfl,hi,ho,hb⟩:=hrel;have fU:(bits (ar xs*ar (ys.take i))).length≤274877906944:=by
   refine Nat.le_trans (jP (k:=n+n2) ?_) (by omega);rw[Nat.pow_add];have e1:ar xs<2^n:=by have:=m8 xs;rw[HL.out] at this;exact this
   have e2:ar (ys.take i)<2^n2:=Nat.lt_of_lt_of_le (m6 ys i) (Nat.pow_le_pow_right (by omega) hi);exact Nat.mul_lt_mul'' e1 e2
  have HO:=zH ho;have HB:=zH hb;have HSL:=zH fU;obtain⟨A4,n4,c4,rfl,hn4⟩:=ho.slice;clear ho hb hn4 fU;rcases Nat.lt_or_ge i n2 with hlt|hge
  ·have hd:((i:Int)<(n2:Int))=True:=eq_true (by omega);have hwi:IntKind.i64.wrap ((i:Int)+1)=(i:Int)+1:=by rw[IntKind.wrap_i64]<;>omega
   obtain⟨b,o,y,rfl,_,hy,e1⟩:=(H2.out.below HB.out iN).bool_at hlt;have hc2:(i:Int)≤(c2:Int):=by have:=H2.out.cap;omega
   have dl:=fF ys i;rw[fY hy] at dl;have AF:=zH dl;clear dl hy;cases y with
   | false=>
    have he:bits (ar xs*ar (ys.take (i+1)))=bits (ar xs*ar (ys.take i)):=by rw[AF.out];simp
    have HE:=zH he;clear he;go_wp2_with fail;go_roundw
    case rel=>exact⟨i+1,by go_num,by omega,by rw[HE.out];exact HO.out,HB.out⟩
    case measure=>simp[intOf];omega
   | true=>
    have he:ar (bits (ar xs*ar (ys.take i)))+ar (List.replicate i false++xs)=ar xs*ar (ys.take (i+1)):=by
     rw[bE,oK,G1,List.length_replicate,AF.out,Nat.mul_add];simp[Nat.mul_comm]
    have HE:=zH he;have bR:=Ns (H.out.below HB.out HS.out) (fun b hb=>Nat.lt_of_lt_of_le (HS.out b hb) HB.out.size) (by omega) i (by omega);have HC:=zH bR;clear he bR;go_wp2_with fail;refine HC.out.mono ?_;rintro e w2 ⟨v2,rfl,nM,cj⟩;have oR:=zH (nM.base_le HB.out.size);have jm:=zH (HO.out.below cj);have fe:=zH (ak HB.out cj);obtain⟨A5,n5,c5,rfl,hn5⟩:=nM.slice;have bR:=VV (jm.out.rsAll) (oR.out.rsAll) (fun _ h=>h) (fun _ h=>h) (by rw[←jm.out.rsAll.len];have:=HSL.out;omega) (by rw[hn5,List.length_append,List.length_replicate,HL.out];omega);rw[HE.out] at bR;have HC2:=zH bR;clear nM cj hn5 bR;go_wp2_with fail;refine HC2.out.mono ?_;rintro e w3 ⟨v3,rfl,xm,kP⟩;have E9:=zH (xm.base_le fe.out.size);have mI:=zH (ak fe.out kP);clear xm kP;go_wp2_with fail;go_roundw
    case rel=>exact⟨i+1,by go_num,by omega,E9.out,mI.out⟩
    case measure=>simp[intOf];omega
  ·have hd:((i:Int)<(n2:Int))=False:=eq_false (by omega);have dM:ar (bits (ar xs*ar (ys.take i)))=ar xs*ar ys:=by rw[List.take_of_length_le (by rw[pE.out];omega),bE]
   have bR:=jI (HO.out.rsAll) (by rw[←HO.out.rsAll.len];have:=HSL.out;omega);rw[dM] at bR;have HC:=zH bR;clear bR dM;go_wp2_with fail;refine HC.out.mono ?_;rintro e w2 ⟨v2,rfl,nM,cj⟩;have oR:=zH (nM.base_le HB.out.size);have fe:=zH (ak HB.out cj);clear nM cj;go_wp2_with fail;go_ret
   exact⟨_,rfl,oR.out,fe.out⟩
end Go.Proofs.YtjlhbfbdcfajfaaGreatDoor
