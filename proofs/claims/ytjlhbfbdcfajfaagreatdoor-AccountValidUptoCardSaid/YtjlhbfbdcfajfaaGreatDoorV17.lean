/- Ref2 Ref3 Ref4 Ref5 -/
import Derived.Test.YtjlhbfbdcfajfaaGreatDoorV15
import Derived.Test.YtjlhbfbdcfajfaaGreatDoorV03
set_option maxHeartbeats 8000000
set_option maxRecDepth 100000
namespace Go.Proofs.YtjlhbfbdcfajfaaGreatDoor
open Go.RowKit
theorem Ik {S S2:Nat→Prop} {A A2:Option Addr} {n c n2 c2:Nat} {xs ys:List Bool} {w:World} (h:RS w S A n c xs) (h2:RS w S2 A2 n2 c2 ys) : Calls Tryz.prog 89 #[.slice A n c,.slice A2 n2 c2] w (gL w (.int .i64 (kA (ar xs) (ar ys)))):=by
 have H:=zH h;have H2:=zH h2;have Hq:=h.max;have hm2:=h2.max;have HL:=zH h.len;have o0:=zH h2.len;have hw0:IntKind.i64.wrap ((n:Int)-1)=(n:Int)-1:=by rw[IntKind.wrap_i64]<;>omega
 have fX:IntKind.i64.wrap ((n2:Int)-1)=(n2:Int)-1:=by rw[IntKind.wrap_i64]<;>omega
 clear h h2;go_enter Tryz.func89,Tryz.ntmps89;go_wp2_with fail
 case' inl=>obtain⟨m,hm,hn1,hn2,hmb⟩:∃m:Nat,n2=m∧n≤m∧n2≤m∧m≤9223372036854775807:=⟨n2,rfl,by omega,Nat.le_refl _,by omega⟩
 case' inr=>obtain⟨m,hm,hn1,hn2,hmb⟩:∃m:Nat,n=m∧n≤m∧n2≤m∧m≤9223372036854775807:=⟨n,rfl,Nat.le_refl _,by omega,by omega⟩
 all_goals
  have HN1:=zH hn1;have HN2:=zH hn2;have HM:=zH hm;clear hn1 hn2 hw0 fX;clear hm;go_loopw [5] (fun v wr=>∃(k:Nat) (z:Int),k≤m∧v=.int .i64 z∧z+1=k∧ar (xs.drop k)=ar (ys.drop k)∧wr=w) (fun v _=>(intOf v+1).toNat)
  case atStart=>exact⟨m,(m:Int)-1,Nat.le_refl _,by rw[HM.out],by omega,by rw[List.drop_eq_nil_of_le (by rw[HL.out];exact HN1.out),List.drop_eq_nil_of_le (by rw[o0.out];exact HN2.out)],rfl⟩
  case round=>
   obtain⟨k,z,hk,rfl,hz,hd,rfl⟩:=hrel;have HD:=zH hd;clear hd;rcases k with _|k
   ·obtain rfl:z= -1:=by omega
    have he:kA (ar xs) (ar ys)=0:=by
     have h1:=HD.out;rw[List.drop_zero,List.drop_zero] at h1;rw[h1,rj]
    have HE:=zH he;clear he hz;go_wp2_with fail;go_ret
    exact⟨hZ (by rw[HE.out];rfl),rfl⟩
   ·obtain rfl:z=k:=by omega
    have NX:(0≤(k:Int))=True:=eq_true (by omega);obtain⟨x,hx⟩:∃x,dM xs k=x:=⟨_,rfl⟩;obtain⟨y,hy⟩:∃y,dM ys k=y:=⟨_,rfl⟩;have UX:Calls Tryz.prog 114 #[.slice A n c,.int .i64 k] wr (gL wr (.bool x)):=by rw[←hx];exact lY k H.out
    have UW:Calls Tryz.prog 114 #[.slice A2 n2 c2,.int .i64 k] wr (gL wr (.bool y)):=by rw[←hy];exact lY k H2.out
    have Ug:=zH UX;have YP:=zH UW;have HX:=zH hx;have HY:=zH hy;have hwk:IntKind.i64.wrap ((k:Int)-1)=(k:Int)-1:=by rw[IntKind.wrap_i64]<;>omega
    clear UX UW hx hy hz;by_cases nW:x=y
    ·have hn:=Ki HD.out (by rw[HX.out,HY.out,nW]);have HN:=zH hn;subst nW;have dx:(x !=x)=false:=by simp
     clear hn;go_wp2_with fail;refine Ug.out.mono ?_;rintro e w' ⟨rfl,rfl⟩;go_wp2_with fail;refine YP.out.mono ?_;rintro e w' ⟨rfl,rfl⟩;go_wp2_with fail;go_roundw
     case rel=>exact⟨k,(k:Int)-1,by omega,by go_num,by omega,HN.out,trivial⟩
     case measure=>simp[intOf]
    ·have dx:(x !=y)=true:=by simpa using nW
     cases x with
     | true=>
      obtain rfl:y=false:=by cases y<;>simp_all
      have he:kA (ar xs) (ar ys)=1:=oJ (yR HD.out.symm HY.out HX.out);have HE:=zH he;clear he nW;go_wp2_with fail;refine Ug.out.mono ?_;rintro e w' ⟨rfl,rfl⟩;go_wp2_with fail;refine YP.out.mono ?_;rintro e w' ⟨rfl,rfl⟩;go_wp2_with fail;refine(Ug.out).mono ?_;rintro e w' ⟨rfl,rfl⟩;go_wp2_with fail;go_ret
      exact⟨hZ (by rw[HE.out];rfl),rfl⟩
     | false=>
      obtain rfl:y=true:=by cases y<;>simp_all
      have he:kA (ar xs) (ar ys)= -1:=oI (yR HD.out HX.out HY.out);have HE:=zH he;clear he nW;go_wp2_with fail;refine Ug.out.mono ?_;rintro e w' ⟨rfl,rfl⟩;go_wp2_with fail;refine YP.out.mono ?_;rintro e w' ⟨rfl,rfl⟩;go_wp2_with fail;refine(Ug.out).mono ?_;rintro e w' ⟨rfl,rfl⟩;go_wp2_with fail;go_ret
      exact⟨hZ (by rw[HE.out];rfl),rfl⟩
theorem TU {S S2:Nat→Prop} {A A2:Option Addr} {n c n2 c2:Nat} {xs ys:List Bool} {w:World} (h:RS w S A n c xs) (h2:RS w S2 A2 n2 c2 ys) (hS:∀b,S b→b<w.heap.size) (iC:∀b,S2 b→b<w.heap.size) (hn:n≤549755813888) (hn2:n2≤549755813888) : Calls Tryz.prog 193 #[.slice A n c,.slice A2 n2 c2] w (jF w 4 (bits (ar xs+ar ys))):=by
 have H:=zH h;have H2:=zH h2;have HL:=zH h.len;have o0:=zH h2.len;obtain⟨m,hm,KX,Xc,hmb⟩:∃m:Nat,(if n<n2 then(n2:Int) else(n:Int))=(m:Int)∧n≤m∧n2≤m∧m≤549755813888:=⟨max n n2,by split<;>omega,by omega,by omega,by omega⟩;have HNM:=zH KX;have ajs:=zH Xc;clear h h2 KX Xc;go_enter Tryz.func193,Tryz.ntmps193;go_wp2_with fail;go_loopw [5,6,7] (fun ov cv iv wr=>∃(i:Nat) (out:List Bool) (cy:Bool),iv=.int .i64 i∧i≤m+1∧cv=.bool cy∧Own wr bq w.heap.size 4 ov out∧out.length=i∧ar out+2^i*cy.toNat=ar (xs.take i)+ar (ys.take i)∧Below w.heap.size w wr) (fun _ _ iv _=>m+1-(intOf iv).toNat)
 case atStart=>exact⟨0,[],false,rfl,Nat.zero_le _,rfl,Own.nil _ _ _,rfl,by simp[ar],Below.refl _ _⟩
 case round=>
  obtain⟨i,out,cy,rfl,hi,rfl,ho,nr,hv,hb⟩:=hrel;have HO:=zH ho;have HB:=zH hb;have HV:=zH hv;have Bj:=zH nr;obtain⟨A4,n4,c4,rfl,hn4⟩:=ho.slice;clear ho hb hv nr hn4;rcases Nat.lt_or_ge m i with hlt|hge
  ·have hr:=HO.out.rs (S':=fun b=>b<wr.heap.size) (fun _ h=>h.elim) (fun _ _ h=>h);have hn4:n4≤1099511627776:=by have:=hr.len;have:=Bj.out;omega
   have hi1:i=m+1:=by omega
   have et:ar out=ar xs+ar ys:=TO (m:=m) (by rw[HL.out];exact HNM.out) (by rw[o0.out];exact ajs.out) (by rw[←hi1];exact HV.out);have bO:=jw hr hn4;rw[et] at bO;have HC:=zH bO;have d0:decide (i≤m)=false:=decide_eq_false (by omega);have d1:((i:Int)≤(m:Int))=False:=eq_false (by omega);clear hr hn4 bO et hi1 hlt;go_wp2_with fail;refine HC.out.mono ?_;rintro e w2 ⟨v2,rfl,nh,bZ⟩;have ot:=zH (nh.base_le HB.out.size);have eP:=zH (ak HB.out bZ);clear nh bZ;go_wp2_with fail;go_ret
   exact⟨_,rfl,ot.out,eP.out⟩
  ·obtain⟨x,hx⟩:∃x,dM xs i=x:=⟨_,rfl⟩;obtain⟨y,hy⟩:∃y,dM ys i=y:=⟨_,rfl⟩;have UX:Calls Tryz.prog 114 #[.slice A n c,.int .i64 i] wr (gL wr (.bool x)):=by rw[←hx];exact lY i (H.out.below HB.out hS)
   have UW:Calls Tryz.prog 114 #[.slice A2 n2 c2,.int .i64 i] wr (gL wr (.bool y)):=by rw[←hy];exact lY i (H2.out.below HB.out iC)
   have db:=TP xs ys out cy i Bj.out HV.out;rw[hx,hy] at db;have bM:(out.length+1)*(1+1)≤140737488355328:=by have:=Bj.out;omega
   have Ug:=zH UX;have YP:=zH UW;have zh:=zH db;have mf:=zH bM;have hwi:IntKind.i64.wrap ((i:Int)+1)=(i:Int)+1:=by rw[IntKind.wrap_i64]<;>omega
   have d0:decide (i≤m)=true:=decide_eq_true hge;have d1:((i:Int)≤(m:Int))=True:=eq_true (by omega);clear UX UW db bM hx hy HV;cases x<;>cases y<;>cases cy
   all_goals
    go_wp2_with fail;refine Ug.out.mono ?_;rintro e w' ⟨rfl,rfl⟩;go_wp2_with fail;refine YP.out.mono ?_;rintro e w' ⟨rfl,rfl⟩;go_wp2_with (at_builtin; (first|(refine dY (α:=Bool) (w0:=w) rfl _ _ 120 rfl 1 Tryz.bitsTy rfl HO.out HB.out [.bool true] true 1 rfl rfl 4 (by simp[Value.oneCell']) mf.out ?_)|(refine dY (α:=Bool) (w0:=w) rfl _ _ 120 rfl 1 Tryz.bitsTy rfl HO.out HB.out [.bool false] false 1 rfl rfl 4 (by simp[Value.oneCell']) mf.out ?_)); intro v4 w4 hown4 jT hg4 hl4; have DW:=zH hown4; have xh:=zH jT; clear hown4 jT hg4 hl4);go_roundw
    case rel=>exact⟨i+1,_,_,by go_num,by omega,rfl,DW.out,by have:=Bj.out;simp[this],zh.out,xh.out⟩
    case measure=>simp[intOf];omega
theorem Qy {S S2:Nat→Prop} {A A2:Option Addr} {n c n2 c2:Nat} {xs ys:List Bool} {w:World} (h:RS w S A n c xs) (h2:RS w S2 A2 n2 c2 ys) (hS:∀b,S b→b<w.heap.size) (iC:∀b,S2 b→b<w.heap.size) (hn:n≤549755813888) (xG:ar ys≤ar xs) : Calls Tryz.prog 145 #[.slice A n c,.slice A2 n2 c2] w (jF w 4 (bits (ar xs-ar ys))):=by
 have H:=zH h;have H2:=zH h2;have HL:=zH h.len;have HLE:=zH xG;clear h h2 xG;go_enter Tryz.func145,Tryz.ntmps145;go_wp2_with fail;go_loopw [5,6,7] (fun ov cv iv wr=>∃(i:Nat) (out:List Bool) (cy:Bool),iv=.int .i64 i∧i≤n∧cv=.bool cy∧Own wr bq w.heap.size 4 ov out∧out.length=i∧ar out+ar (ys.take i)=ar (xs.take i)+2^i*cy.toNat∧Below w.heap.size w wr) (fun _ _ iv _=>n-(intOf iv).toNat)
 case atStart=>exact⟨0,[],false,rfl,Nat.zero_le _,rfl,Own.nil _ _ _,rfl,by simp[ar],Below.refl _ _⟩
 case round=>
  obtain⟨i,out,cy,rfl,hi,rfl,ho,nr,hv,hb⟩:=hrel;have HO:=zH ho;have HB:=zH hb;have HV:=zH hv;have Bj:=zH nr;obtain⟨A4,n4,c4,rfl,hn4⟩:=ho.slice;clear ho hb hv nr hn4;rcases Nat.lt_or_ge i n with hlt|hge
  ·obtain⟨x,hx⟩:∃x,dM xs i=x:=⟨_,rfl⟩;obtain⟨y,hy⟩:∃y,dM ys i=y:=⟨_,rfl⟩;have UX:Calls Tryz.prog 114 #[.slice A n c,.int .i64 i] wr (gL wr (.bool x)):=by rw[←hx];exact lY i (H.out.below HB.out hS)
   have UW:Calls Tryz.prog 114 #[.slice A2 n2 c2,.int .i64 i] wr (gL wr (.bool y)):=by rw[←hy];exact lY i (H2.out.below HB.out iC)
   have db:=Qv xs ys out cy i Bj.out HV.out;rw[hx,hy] at db;have bM:(out.length+1)*(1+1)≤140737488355328:=by have:=Bj.out;omega
   have Ug:=zH UX;have YP:=zH UW;have zh:=zH db;have mf:=zH bM;have hwi:IntKind.i64.wrap ((i:Int)+1)=(i:Int)+1:=by rw[IntKind.wrap_i64]<;>omega
   have d1:((i:Int)<(n:Int))=True:=eq_true (by omega);clear UX UW db bM hx hy HV;cases x<;>cases y<;>cases cy
   all_goals
    go_wp2_with fail;refine Ug.out.mono ?_;rintro e w' ⟨rfl,rfl⟩;go_wp2_with fail;refine YP.out.mono ?_;rintro e w' ⟨rfl,rfl⟩;go_wp2_with (at_builtin; (first|(refine dY (α:=Bool) (w0:=w) rfl _ _ 120 rfl 1 Tryz.bitsTy rfl HO.out HB.out [.bool true] true 1 rfl rfl 4 (by simp[Value.oneCell']) mf.out ?_)|(refine dY (α:=Bool) (w0:=w) rfl _ _ 120 rfl 1 Tryz.bitsTy rfl HO.out HB.out [.bool false] false 1 rfl rfl 4 (by simp[Value.oneCell']) mf.out ?_)); intro v4 w4 hown4 jT hg4 hl4; have DW:=zH hown4; have xh:=zH jT; clear hown4 jT hg4 hl4);go_roundw
    case rel=>exact⟨i+1,_,_,by go_num,by omega,rfl,DW.out,by have:=Bj.out;simp[this],zh.out,xh.out⟩
    case measure=>simp[intOf];omega
  ·have hr:=HO.out.rs (S':=fun b=>b<wr.heap.size) (fun _ h=>h.elim) (fun _ _ h=>h);have hn4:n4≤1099511627776:=by have:=hr.len;have:=Bj.out;omega
   have hi1:i=n:=by omega
   have et:ar out=ar xs-ar ys:=by
    have e1:xs.length=i:=by rw[HL.out];exact hi1.symm
    refine Qu (c:=cy) HLE.out (by rw[Bj.out,e1]) ?_;rw[e1];exact HV.out
   have bO:=jw hr hn4;rw[et] at bO;have HC:=zH bO;have d1:((i:Int)<(n:Int))=False:=eq_false (by omega);clear hr hn4 bO et hi1;go_wp2_with fail;refine HC.out.mono ?_;rintro e w2 ⟨v2,rfl,nh,bZ⟩;have ot:=zH (nh.base_le HB.out.size);have eP:=zH (ak HB.out bZ);clear nh bZ;go_wp2_with fail;go_ret
   exact⟨_,rfl,ot.out,eP.out⟩
theorem L4 {S:Nat→Prop} {A:Option Addr} {n c:Nat} {xs:List Bool} {w:World} (h:RS w S A n c xs) (hS:∀b,S b→b<w.heap.size) (hn:n≤549755813888) (m:Nat) (hm:m≤549755813888) : Calls Tryz.prog 194 #[.slice A n c,.int .i64 m] w (jF w 4 (List.replicate m false++xs)):=by
 have H:=zH h;have HS:=zH hS;have HL:=zH h.len;clear h hS;obtain⟨i0,hi,kr,fu,iE⟩:=info_parts (show(Tryz.prog.info? 4).map (fun i=>(i.zero,i.size,i.bytes))=some (some (.bool false),1,1) by kernel_rfl);have HI:=zH hi;have pY:=zH kr;have ka:=zH fu;have k8:=zH iE;clear hi kr fu iE;go_enter Tryz.func194,Tryz.ntmps194;go_wp2_with (first
  | (refine cf (α:=Bool) w rfl _ _ 120 rfl rfl w.heap.size i0 (.bool false) Tryz.underlying120 HI.out pY.out ka.out rfl .i64 .i64 (m:Int) (m:Int) m rfl rfl rfl rfl (by rw[k8.out];omega) (by unfold maxLen;omega) (Nat.le_refl _) false bq (fun _ h=>h.elim) (fun _ _=>rfl) ?_; intro w3 wi hg3; have DX:=zH wi; have mg:=zH ((Below.refl w.heap.size w).grown hg3 (Nat.le_refl _) (fun k hk=>by cases hk)); clear wi hg3)
  | (at_builtin; have JV:=H.out.below mg.out HS.out; refine gb (α:=Bool) (S:=bq) rfl _ _ 120 rfl 1 Tryz.bitsTy rfl DX.out rfl JV _ (Flat.bools _) JV.boolsAt (oL _) (by rw[List.length_replicate,HL.out];omega) mg.out.size ?_; intro v2 w2 hown2 hg2 sR; have ot:=zH hown2; have eP:=zH (mg.out.grown hg2 mg.out.size (fun k hk=>(DX.out.lt k hk).1)); clear hown2 hg2 sR JV))
 go_ret
 exact⟨_,rfl,ot.out,eP.out⟩
theorem Rn {S S2:Nat→Prop} {A A2:Option Addr} {n c n2 c2:Nat} {xs ys:List Bool} {w:World} (h:RS w S A n c xs) (h2:RS w S2 A2 n2 c2 ys) (hS:∀b,S b→b<w.heap.size) (iC:∀b,S2 b→b<w.heap.size) (hn:n≤137438953472) (hn2:n2≤137438953472) : Calls Tryz.prog 171 #[.slice A n c,.slice A2 n2 c2] w (jF w 4 (bits (ar xs*ar ys))):=by
 have H:=zH h;have H2:=zH h2;have HL:=zH h.len;have o0:=zH h2.len;have HS:=zH hS;clear h h2 hS;go_enter Tryz.func171,Tryz.ntmps171;go_wp2_with fail;go_loopw [5,6] (fun sv iv wr=>∃(i:Nat),iv=.int .i64 i∧i≤n2∧Own wr bq w.heap.size 4 sv (bits (ar xs*ar (ys.take i)))∧Below w.heap.size w wr) (fun _ iv _=>n2-(intOf iv).toNat)
 case atStart=>exact⟨0,rfl,Nat.zero_le _,by rw[List.take_zero];show Own _ _ _ _ _ (bits (ar xs*0));rw[Nat.mul_zero,eh];exact Own.nil _ _ _,Below.refl _ _⟩
 case round=>
  obtain⟨i,rfl,hi,ho,hb⟩:=hrel;have fJ:(bits (ar xs*ar (ys.take i))).length≤274877906944:=by
   refine Nat.le_trans (jD (k:=n+n2) ?_) (by omega);rw[Nat.pow_add];have e1:ar xs<2^n:=by have:=mL xs;rw[HL.out] at this;exact this
   have e2:ar (ys.take i)<2^n2:=Nat.lt_of_lt_of_le (mJ ys i) (Nat.pow_le_pow_right (by omega) hi);exact Nat.mul_lt_mul'' e1 e2
  have HO:=zH ho;have HB:=zH hb;have Zz:=zH fJ;obtain⟨A4,n4,c4,rfl,hn4⟩:=ho.slice;clear ho hb hn4 fJ;rcases Nat.lt_or_ge i n2 with hlt|hge
  ·have hd:((i:Int)<(n2:Int))=True:=eq_true (by omega);have hwi:IntKind.i64.wrap ((i:Int)+1)=(i:Int)+1:=by rw[IntKind.wrap_i64]<;>omega
   obtain⟨b,o,y,rfl,_,hy,e1⟩:=(H2.out.below HB.out iC).bool_at hlt;have hc2:(i:Int)≤(c2:Int):=by have:=H2.out.cap;omega
   have db:=fq ys i;rw[fN hy] at db;have zh:=zH db;clear db hy;cases y with
   | false=>
    have he:bits (ar xs*ar (ys.take (i+1)))=bits (ar xs*ar (ys.take i)):=by rw[zh.out];simp
    have HE:=zH he;clear he;go_wp2_with fail;go_roundw
    case rel=>exact⟨i+1,by go_num,by omega,by rw[HE.out];exact HO.out,HB.out⟩
    case measure=>simp[intOf];omega
   | true=>
    have he:ar (bits (ar xs*ar (ys.take i)))+ar (List.replicate i false++xs)=ar xs*ar (ys.take (i+1)):=by
     rw[bB,oh,FN,List.length_replicate,zh.out,Nat.mul_add];simp[Nat.mul_comm]
    have HE:=zH he;have bO:=L4 (H.out.below HB.out HS.out) (fun b hb=>Nat.lt_of_lt_of_le (HS.out b hb) HB.out.size) (by omega) i (by omega);have HC:=zH bO;clear he bO;go_wp2_with fail;refine HC.out.mono ?_;rintro e w2 ⟨v2,rfl,nh,bZ⟩;have ot:=zH (nh.base_le HB.out.size);have ja:=zH (HO.out.below bZ);have eP:=zH (ak HB.out bZ);obtain⟨A5,n5,c5,rfl,hn5⟩:=nh.slice;have bO:=TU (ja.out.rsAll) (ot.out.rsAll) (fun _ h=>h) (fun _ h=>h) (by rw[←ja.out.rsAll.len];have:=Zz.out;omega) (by rw[hn5,List.length_append,List.length_replicate,HL.out];omega);rw[HE.out] at bO;have HC2:=zH bO;clear nh bZ hn5 bO;go_wp2_with fail;refine HC2.out.mono ?_;rintro e w3 ⟨v3,rfl,wi,kD⟩;have DX:=zH (wi.base_le eP.out.size);have mg:=zH (ak eP.out kD);clear wi kD;go_wp2_with fail;go_roundw
    case rel=>exact⟨i+1,by go_num,by omega,DX.out,mg.out⟩
    case measure=>simp[intOf];omega
  ·have hd:((i:Int)<(n2:Int))=False:=eq_false (by omega);have dS:ar (bits (ar xs*ar (ys.take i)))=ar xs*ar ys:=by rw[List.take_of_length_le (by rw[o0.out];omega),bB]
   have bO:=jw (HO.out.rsAll) (by rw[←HO.out.rsAll.len];have:=Zz.out;omega);rw[dS] at bO;have HC:=zH bO;clear bO dS;go_wp2_with fail;refine HC.out.mono ?_;rintro e w2 ⟨v2,rfl,nh,bZ⟩;have ot:=zH (nh.base_le HB.out.size);have eP:=zH (ak HB.out bZ);clear nh bZ;go_wp2_with fail;go_ret
   exact⟨_,rfl,ot.out,eP.out⟩
end Go.Proofs.YtjlhbfbdcfajfaaGreatDoor
