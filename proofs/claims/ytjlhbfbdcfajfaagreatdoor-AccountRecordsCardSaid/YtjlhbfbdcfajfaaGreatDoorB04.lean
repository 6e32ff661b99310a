/- NatM3 Nat5 NatM4 Nat6 Nat7 -/
import Derived.Test.YtjlhbfbdcfajfaaGreatDoorB03
import Derived.Outline
namespace Go.Proofs.YtjlhbfbdcfajfaaGreatDoor
open Go.RowKit
theorem Ug {p pi pj c x y z s a q v B:Nat} (hp:p=pi*pj) (hs:x*y+z+c=s) (h:v+p*c=a+pi*(x*q)) : (v+p*(s%B))+p*B*(s/B)=(a+p*z)+pi*(x*(q+pj*y)):=by
 have e:p*(s%B)+p*B*(s/B)=p*s:=by
  rw[Nat.mul_assoc,←Nat.mul_add,Nat.mod_add_div]
 have e2:p*s=p*(x*y)+p*z+p*c:=by rw[←hs,Nat.mul_add,Nat.mul_add]
 have e3:pi*(x*(q+pj*y))=pi*(x*q)+p*(x*y):=by rw[hp];grind
 omega
theorem Qm {x y z c:Nat} (hx:x<4294967296) (hy:y<4294967296) (hz:z<4294967296) (hc:c<4294967296):x*y≤18446744065119617025∧x*y+z+c<18446744073709551616:=by
 have:x*y≤4294967295*4294967295:=Nat.mul_le_mul (by omega) (by omega);omega
theorem VF {l:List (BitVec 32)} {k:Nat} (h:k<l.length):l[k]?=some (l.getD k 0#32):=by
 rw[List.getD_eq_getElem?_getD,List.getElem?_eq_getElem h];rfl
theorem Own.limb {w:World} {base g n c:Nat} {e:TypeId} {xs:List (BitVec 32)} (h:Own w aA base e (.slice (some ⟨g,0,none⟩) n c) xs) {k:Nat} (hk:k<xs.length):w.cell? ⟨g,k,none⟩=some (.int .u32 ((xs.getD k 0#32).toNat:Int))∧w.frozen? ⟨g,k,none⟩=false:=by
 obtain⟨g',u,rP,_,_,hu,ef,qf⟩:=h.get1 rfl (VF hk);injection rP with rP
 injection rP with rP
 subst rP;have hu':[u]=[WU (xs.getD k 0#32)]:=hu;injection hu' with hu'
 subst hu';exact⟨ef,qf⟩
theorem Own.setLimb {w:World} {base g n c:Nat} {e:TypeId} {xs:List (BitVec 32)} (h:Own w aA base e (.slice (some ⟨g,0,none⟩) n c) xs) (k:Nat) (z:BitVec 32):Own (w.setCell ⟨g,k,none⟩ (.int .u32 (z.toNat:Int))) aA base e (.slice (some ⟨g,0,none⟩) n c) (xs.set k z):=
 (h.stored (k:=k) (u:=.int .u32 (z.toNat:Int)) (x:=z) rfl rfl).1
set_option maxHeartbeats 2000000 in
theorem Iz {S S2:Nat→Prop} {A A2:Option Addr} {n c n2 c2:Nat} {xs ys:List (BitVec 32)} {w:World} (h:RS w S A n c xs) (h2:RS w S2 A2 n2 c2 ys) (hS:∀b,S b→b<w.heap.size) (eF:∀b,S2 b→b<w.heap.size) (hn:n≤1073741824) (hn2:n2≤1073741824) : Calls Tryz.prog 167 #[.slice A n c,.slice A2 n2 c2] w (od w 98 (fC (val xs*val ys))):=by
 obtain⟨i0,hi,kR,eQ,jE⟩:=info_parts Tryz.u32Info;have HI:=zH hi;have xE:=zH kR;have fy:=zH eQ;have iL:=zH jE;have H:=zH h;have H2:=zH h2;have HL:=zH h.len;have ua:=zH h2.len;have Fu:=zH (jl xs);have Ft:=zH (jl ys);clear h h2 hi kR eQ jE;go_enter Tryz.func167,Tryz.ntmps167;go_wp2_with fail;refine(js H.out).mono ?_;rintro e w' ⟨A3,n3,c3,rfl,hr,rfl⟩;have hl3:n3≤1073741824:=by have:=ej xs;have:=hr.len;have:=HL.out;omega
 have HR:=zH hr;clear hr;go_wp2_with fail;refine(js H2.out).mono ?_;rintro e w' ⟨A4,n4,c4,rfl,hr,rfl⟩;have hl4:n4≤1073741824:=by have:=ej ys;have:=hr.len;have:=ua.out;omega
 have px:=zH hr;clear hr;obtain⟨la,dT⟩:∃l,eO xs=l:=⟨_,rfl⟩;obtain⟨lb,qB⟩:∃l,eO ys=l:=⟨_,rfl⟩;rw[dT] at HR Fu;rw[qB] at px Ft;have vt:=zH HR.out.len;have Ic:=zH px.out.len;clear dT qB;have Cn:(n3:Int)+(n4:Int)=((n3+n4:Nat):Int):=by omega
 obtain⟨M,hM⟩:∃M,n3+n4=M:=⟨_,rfl⟩;rw[hM] at Cn;have hMb:M≤2147483648:=by omega
 have HM:=zH hM;clear hM;go_wp2_with (refine dh (α:=BitVec 32) _ rfl _ _ _ rfl rfl w.heap.size i0 (.int .u32 0) Tryz.underlying26 HI.out xE.out fy.out rfl .i64 .i64 (M:Int) (M:Int) M rfl rfl rfl rfl (by rw[iL.out];omega) (by unfold maxLen;omega) (Nat.le_refl _) 0#32 aA (fun _ h=>h.elim) (fun _ _=>rfl) ?_; intro w1 zF hg1; have jd:=zH zF; have bS:=zH ((Below.refl w.heap.size w).grown hg1 (Nat.le_refl _) (fun k hk=>by cases hk)); clear zF hg1);obtain⟨g,hg⟩:∃g,w.heap.size=g:=⟨_,rfl⟩;rw[hg] at jd;rw[hg];have HG:=zH hg;clear hg Cn;go_loopw [24] (fun i wr=>∃(k:Nat) (zs:List (BitVec 32)),k≤n3∧i=.int .i64 k∧zs.length=M∧val (zs.take (k+n4))=val (la.take k)*val lb∧Own wr aA g 98 (.slice (some ⟨g,0,none⟩) M M) zs∧Below w.heap.size w wr)
  (fun i _=>n3-(intOf i).toNat)
 case atStart=>exact⟨0,List.replicate M 0#32,by omega,rfl,by simp,by rw[List.take_replicate,wH];simp[val],jd.out,bS.out⟩
 case round=>
  clear jd bS;obtain⟨k,zs,hk,rfl,L9,mV,ho,hb⟩:=hrel;have jd:=zH ho;have bS:=zH hb;have zJ:=zH L9;have qQ:=zH mV;clear ho hb L9 mV;by_cases bn:k<n3
  ·have iF:(k:Int)<(n3:Int):=by omega
   obtain⟨b,o,x0,rfl,yR,hx,e1⟩:=(HR.out.below bS.out hS).limb_at bn;have hxg:(la.getD k 0#32).toNat=x0.toNat:=by rw[List.getD_eq_getElem?_getD,hx];rfl
   have sR:=x0.isLt;have hxw:IntKind.u64.wrap (x0.toNat:Int)=(x0.toNat:Int):=by rw[IntKind.wrap_u64];omega
   have HXG:=zH hxg;clear hxg hx;go_wp2_with fail;obtain⟨wd,rfl⟩:∃wd:World,wd=wr:=⟨_,rfl⟩;go_loopw [8,31] (fun cv j wr=>∃(q cr:Nat) (ts:List (BitVec 32)),q≤n4∧j=.int .i64 q∧cv=.int .u64 cr∧cr<4294967296∧ts.length=M∧ts.drop (k+q)=zs.drop (k+q)∧val (ts.take (k+q))+4294967296^(k+q)*cr=val (zs.take (k+q))+4294967296^k*(x0.toNat*val (lb.take q))∧Own wr aA g 98 (.slice (some ⟨g,0,none⟩) M M) ts∧Below w.heap.size w wr)
    (fun _ j _=>n4-(intOf j).toNat)
   case atStart=>exact⟨0,0,zs,by omega,rfl,rfl,by omega,zJ.out,rfl,by simp[val],jd.out,bS.out⟩
   case round=>
    clear jd bS;obtain⟨q,cr,ts,hq,rfl,rfl,hcr,Pj,hdr,aay,ho,hb⟩:=hrel;have eX:=zH ho;have bX:=zH hb;have PG:=zH Pj;have HDR:=zH hdr;have abt:=zH aay;clear ho hb Pj hdr aay;by_cases dK:q<n4
    ·have hq4:(q:Int)<(n4:Int):=by omega
     obtain⟨b2,o2,y0,rfl,YX,hy,e2⟩:=(px.out.below bX.out eF).limb_at dK;have hyg:(lb.getD q 0#32).toNat=y0.toNat:=by rw[List.getD_eq_getElem?_getD,hy];rfl
     have Ma:=y0.isLt;have hyw:IntKind.u64.wrap (y0.toNat:Int)=(y0.toNat:Int):=by rw[IntKind.wrap_u64];omega
     have arC:(k:Int)+(q:Int)=((k+q:Nat):Int):=by omega
     have adp:k+q<M:=by have:=HM.out;omega
     obtain⟨ef,qf⟩:=eX.out.limb (k:=k+q) (by rw[PG.out];exact adp);have JB:(zs.getD (k+q) 0#32)=ts.getD (k+q) 0#32:=by
      have h1:=congrArg (·[0]?) HDR.out;simp only[List.getElem?_drop,Nat.add_zero] at h1;rw[List.getD_eq_getElem?_getD,List.getD_eq_getElem?_getD,h1]
     have e3:=cz zs (k+q);have e4:=cz lb q;rw[hyg] at e4;rw[JB] at e3;obtain⟨z0,kR⟩:∃z0,ts.getD (k+q) 0#32=z0:=⟨_,rfl⟩;rw[kR] at ef e3;have ap9:=z0.isLt;have hzw:IntKind.u64.wrap (z0.toNat:Int)=(z0.toNat:Int):=by rw[IntKind.wrap_u64];omega
     obtain⟨bd,bY⟩:=Qm sR Ma ap9 hcr;obtain⟨s,hs⟩:∃s,x0.toNat*y0.toNat+z0.toNat+cr=s:=⟨_,rfl⟩;have h3:=Ug (B:=4294967296) (p:=4294967296^(k+q)) (pi:=4294967296^k) (pj:=4294967296^q) (by rw[Nat.pow_add]) hs abt.out;rw[←e3,←e4] at h3;obtain⟨p,hp⟩:∃p,x0.toNat*y0.toNat=p:=⟨_,rfl⟩;have hpi:(x0.toNat:Int)*(y0.toNat:Int)=(p:Int):=by rw[←hp];exact(Int.natCast_mul _ _).symm
     rw[hp] at bd bY hs;have jF:(p:Int)+(z0.toNat:Int)+(cr:Int)=(s:Int):=by omega
     have xO:(p:Int)+(z0.toNat:Int)<18446744073709551616:=by omega
     have Si:s<18446744073709551616:=by omega
     have GV:=oA s;have hsd:(s:Int)/4294967296=((s/4294967296:Nat):Int):=rfl;obtain⟨z,hz⟩:∃z,BitVec.ofNat 32 s=z:=⟨_,rfl⟩;obtain⟨Zd,Vd⟩:∃Zd,s/4294967296=Zd:=⟨_,rfl⟩;have eh:=iP s;rw[hz] at GV eh;rw[Vd] at hsd h3;rw[←eh] at h3;have yQ:Zd<4294967296:=by omega
     obtain⟨r,hr⟩:∃r,k+q=r:=⟨_,rfl⟩;rw[hr] at arC adp ef qf;have hrM:(r:Int)<(M:Int):=by omega
     have HH3:=zH h3;have kU:=zH hr;clear hyg e3 e4 hs hp hz Vd eh kR JB hy h3 hr bY;go_wp2_with fail;go_roundw
     case rel=>
      have CO:k+(q+1)=r+1:=by have:=kU.out;omega
      refine⟨q+1,Zd,ts.set r z,by omega,by go_num,rfl,yQ,by rw[List.length_set];exact PG.out,?_,?_,eX.out.setLimb r z,bX.out.setCell (by have:=HG.out;simp;omega) _⟩
      ·rw[CO,List.drop_set_of_lt (by omega),←kU.out,←List.drop_drop,HDR.out,List.drop_drop]
      ·rw[CO,jr z (by rw[PG.out];exact adp),←kU.out,Nat.pow_succ];exact HH3.out
     case measure=>simp[intOf];omega
    ·have NE:q=n4:=by omega
     have hkM:(k:Int)+(n4:Int)=((k+n4:Nat):Int):=by omega
     obtain⟨r,hr⟩:∃r,k+n4=r:=⟨_,rfl⟩;have hrM:r<M:=by have:=HM.out;omega
     obtain⟨ef,qf⟩:=eX.out.limb (k:=r) (by rw[PG.out];exact hrM);have JF:(r:Int)<(M:Int):=by omega
     rw[hr] at hkM;have GV:=oA cr;obtain⟨z,hz⟩:∃z,BitVec.ofNat 32 cr=z:=⟨_,rfl⟩;have eh:=iP cr;rw[hz] at GV eh;have GR:z.toNat=cr:=by omega
     have mU:val ((ts.set r z).take (r+1))=val (la.take (k+1))*val lb:=by
      have h1:=abt.out;rw[NE,hr,dU lb _ (by rw[Ic.out];exact Nat.le_refl _)] at h1;have h2:=qQ.out;rw[hr] at h2;rw[h2] at h1;have h4:=cz la k;rw[HXG.out] at h4;rw[jr z (by rw[PG.out];exact hrM),GR,h1,h4,Nat.add_mul,Nat.mul_assoc]
     have E0:=zH mU;have kU:=zH hr;clear mU NE hr GR eh hz hcr;go_wp2_with fail;go_roundw
     case rel=>
      refine⟨k+1,ts.set r z,by omega,by go_num,by rw[List.length_set];exact PG.out,?_,eX.out.setLimb r z,bX.out.setCell (by have:=HG.out;simp;omega) _⟩;have CO:k+1+n4=r+1:=by have:=kU.out;omega
      rw[CO];exact E0.out
     case measure=>simp[intOf];omega
  ·have fI:k=n3:=by omega
   have cJ:val zs=val xs*val ys:=by
    have h1:=qQ.out;rw[fI,dU _ _ (by rw[zJ.out];have:=HM.out;omega),dU la _ (by rw[vt.out];exact Nat.le_refl _),Fu.out,Ft.out] at h1;exact h1
   have ja:=zH cJ;clear cJ fI;go_wp2_with fail;refine(pX jd.out.rsAll (by omega)).mono ?_;rintro e w2 ⟨v,rfl,ho,hb⟩;rw[ja.out] at ho;have HO:=zH (ho.base_le bS.out.size);have HB:=zH (ae bS.out hb);clear ho hb;go_wp2_with fail;go_ret
   exact⟨_,rfl,HO.out,HB.out⟩
theorem Kr (a x:Nat) (hx:x<4294967296):a*4294967296||| x=a*4294967296+x:=by
 have:a*4294967296=a <<< 32:=by rw[Nat.shiftLeft_eq]
 rw[this,Nat.shiftLeft_add_eq_or_of_lt (by simpa using hx)]
theorem qR {l:List (BitVec 32)} {k:Nat} {x:BitVec 32} (hx:l[k]?=some x):val (l.drop k)=x.toNat+4294967296*val (l.drop (k+1)):=by
 obtain⟨hk,e⟩:=List.getElem?_eq_some_iff.1 hx;rw[List.drop_eq_getElem_cons hk,e,val]
theorem wO {l:List (BitVec 32)} {k:Nat} (x:BitVec 32) (h:k<l.length):(l.set k x).drop k=x::l.drop (k+1):=by
 rw[List.drop_eq_getElem_cons (by simpa using h),List.getElem_set_self,List.drop_set_of_lt (by omega)]
theorem MS {a r d x Q V B:Nat} (hx:r*B+a=x) (h:Q*d+r=V):(x/d+B*Q)*d+x%d=a+B*V:=by
 have e:=Nat.div_add_mod x d;have e1:(x/d+B*Q)*d=d*(x/d)+B*(Q*d):=by grind
 have e2:B*V=B*(Q*d)+r*B:=by rw[←h];grind
 omega
theorem TA {a r d x:Nat} (hr:r<d) (ha:a<4294967296) (hx:r*4294967296+a=x):x/d<4294967296:=by
 apply Nat.div_lt_of_lt_mul;have:(r+1)*4294967296≤d*4294967296:=Nat.mul_le_mul_right _ (by omega);omega
theorem Hj {q d r v:Nat} (h:q*d+r=v) (hr:r<d):q=v/d∧r=v%d:=by
 subst h;constructor
 ·rw[Nat.mul_comm,Nat.mul_add_div (by omega),Nat.div_eq_of_lt hr];rfl
 ·rw[Nat.mul_comm,Nat.mul_add_mod,Nat.mod_eq_of_lt hr]
theorem aco (c a s:Nat) (hc:c<2^s):c||| a*2^s=c+a*2^s:=by
 have:a*2^s=a <<< s:=by rw[Nat.shiftLeft_eq]
 rw[this,Nat.or_comm,←Nat.shiftLeft_add_eq_or_of_lt hc,Nat.add_comm]
theorem KA (x s:Nat) (hs:s≤32):x*2^s%4294967296=x%2^(32-s)*2^s:=by
 have e:4294967296=2^(32-s)*2^s:=by
  have:32-s+s=32:=by omega
  rw[←Nat.pow_add,this]
 rw[e,Nat.mul_mod_mul_right]
theorem Yc {c x s:Nat} (hc:c<2^s) (hs:s≤32):c||| x*2^s%4294967296=c+x*2^s%4294967296:=by
 rw[KA x s hs];exact aco _ _ _ hc
theorem Yd {x s:Nat} (hx:x<4294967296):x*2^s/4294967296<2^s:=by
 apply Nat.div_lt_of_lt_mul;have:=Nat.two_pow_pos s;exact Nat.mul_lt_mul_of_lt_of_le hx (Nat.le_refl _) this
theorem left_step {v p c x y A B:Nat} (h:v+p*c=A*y):(v+p*(c+x*y%B))+p*B*(x*y/B)=(A+p*x)*y:=by
 have e:p*(x*y%B)+p*B*(x*y/B)=p*(x*y):=by
  rw[Nat.mul_assoc,←Nat.mul_add,Nat.mod_add_div]
 rw[Nat.add_mul,←h,Nat.mul_add,Nat.mul_assoc p x y];omega
theorem Kj {x y r s:Nat} (hs:s≤32):((x+4294967296*(y+4294967296*r))/2^s)%4294967296=((x+4294967296*y)/2^s)%4294967296:=by
 have e:4294967296=2^s*2^(32-s):=by
  have:s+(32-s)=32:=by omega
  rw[←Nat.pow_add,this]
 have h1:x+4294967296*(y+4294967296*r)=(x+4294967296*y)+2^s*(2^(32-s)*r*4294967296):=by
  have:4294967296*(4294967296*r)=2^s*(2^(32-s)*r*4294967296):=by
   conv=>lhs;rw[←Nat.mul_assoc,Nat.mul_comm 4294967296 4294967296,Nat.mul_assoc]
   have:4294967296*r=2^s*(2^(32-s)*r):=by rw[←Nat.mul_assoc,←e]
   rw[this]
   grind
  rw[Nat.mul_add,this];omega
 rw[h1,Nat.add_mul_div_left _ _ (Nat.two_pow_pos s),Nat.add_mul_mod_self_right]
theorem Ui (Q k:Nat):Q%4294967296^(k+1)=Q%4294967296^k+4294967296^k*(Q/4294967296^k%4294967296):=by
 rw[Nat.pow_succ,Nat.mod_mul]
theorem Y5 (l:List (BitVec 32)) (k:Nat):val l/4294967296^k=val (l.drop k):=by
 rcases Nat.lt_or_ge k l.length with h|h
 ·have h1:=iN l k (by omega);have h2:=iU (l.take k);have hl:(l.take k).length=k:=by simp;omega
  rw[hl] at h2;rw[h1,Nat.add_comm,Nat.mul_add_div (by omega),Nat.div_eq_of_lt h2];rfl
 ·rw[List.drop_eq_nil_of_le h];apply Nat.div_eq_of_lt;exact Nat.lt_of_lt_of_le (iU l) (Nat.pow_le_pow_right (by omega) h)
theorem wI (l:List (BitVec 32)) (k:Nat):val (l.drop k)=(l.getD k 0#32).toNat+4294967296*val (l.drop (k+1)):=by
 rcases Nat.lt_or_ge k l.length with h|h
 ·have hx:l[k]?=some (l.getD k 0#32):=by rw[List.getD_eq_getElem?_getD,List.getElem?_eq_getElem h];rfl
  exact qR hx
 ·rw[List.drop_eq_nil_of_le h,List.drop_eq_nil_of_le (by omega),List.getD_eq_getElem?_getD,List.getElem?_eq_none h];simp[val]
theorem right_step (l:List (BitVec 32)) (k s:Nat) (hs:s≤32):val l/2^s/4294967296^k%4294967296=(((l.getD k 0#32).toNat+4294967296*(l.getD (k+1) 0#32).toNat)/2^s)%4294967296:=by
 rw[Nat.div_div_eq_div_mul,Nat.mul_comm,←Nat.div_div_eq_div_mul,Y5,wI,wI l (k+1),Kj hs]
def LK (w:World) (v n d:Nat) (en:Ending) (w':World):Prop:=
 ∃(s:Value) (qs:List (BitVec 32)),en=.returned (.tuple #[s,.int .u64 ((v%d:Nat):Int)])∧Own w' aA w.heap.size 98 s qs∧val qs=v/d∧qs.length=n∧Below w.heap.size w w'
theorem acp (a x:Nat) (ha:a<4294967296) (hx:x<4294967296):bits .or .u64 ((a:Int)*4294967296) (x:Int)=((a*4294967296+x:Nat):Int):=by
 have e:(a:Int)*4294967296=((a*4294967296:Nat):Int):=by omega
 rw[e,u64_or_nat _ _ (by omega) (by omega),Kr _ _ hx]
set_option maxHeartbeats 1000000 in
theorem Gy {S:Nat→Prop} {A:Option Addr} {n c:Nat} {xs:List (BitVec 32)} {w:World} (d:Nat) (h:RS w S A n c xs) (hS:∀b,S b→b<w.heap.size) (hn:n≤1073741824) (hd:0<d) (hd2:d<4294967296) : Calls Tryz.prog 130 #[.slice A n c,.int .u64 d] w (LK w (val xs) n d):=by
 obtain⟨i0,hi,kR,eQ,jE⟩:=info_parts Tryz.u32Info;have HI:=zH hi;have xE:=zH kR;have fy:=zH eQ;have iL:=zH jE;have H:=zH h;have HL:=zH h.len;clear h hi kR eQ jE;go_enter Tryz.func130,Tryz.ntmps130;go_wp2_with (refine dh (α:=BitVec 32) _ rfl _ _ _ rfl rfl w.heap.size i0 (.int .u32 0) Tryz.underlying26 HI.out xE.out fy.out rfl .i64 .i64 (n:Int) (n:Int) n rfl rfl rfl rfl (by rw[iL.out];omega) (by unfold maxLen;omega) (Nat.le_refl _) 0#32 aA (fun _ h=>h.elim) (fun _ _=>rfl) ?_; intro w1 zF hg1; have jd:=zH zF; have bS:=zH ((Below.refl w.heap.size w).grown hg1 (Nat.le_refl _) (fun k hk=>by cases hk)); clear zF hg1);obtain⟨g,hg⟩:∃g,w.heap.size=g:=⟨_,rfl⟩;rw[hg] at jd;rw[hg];have HG:=zH hg;clear hg;go_loopw [7,8] (fun rv i wr=>∃(k r:Nat) (z:Int) (qs:List (BitVec 32)),k≤n∧i=.int .i64 z∧z+1=k∧rv=.int .u64 r∧r<d∧qs.length=n∧val (qs.drop k)*d+r=val (xs.drop k)∧Own wr aA g 98 (.slice (some ⟨g,0,none⟩) n n) qs∧Below w.heap.size w wr)
  (fun _ i _=>(intOf i+1).toNat)
 case atStart=>exact⟨n,0,(n:Int)-1,List.replicate n 0#32,Nat.le_refl _,rfl,by omega,rfl,hd,by simp,by rw[List.drop_eq_nil_of_le (by simp),List.drop_eq_nil_of_le (by rw[HL.out];exact Nat.le_refl _)];simp[val],jd.out,bS.out⟩
 case round=>
  clear jd bS;obtain⟨k,r,z,qs,hk,rfl,hz,rfl,hr,Ea,mV,ho,hb⟩:=hrel;have jd:=zH ho;have bS:=zH hb;have Fw:=zH Ea;have qQ:=zH mV;clear ho hb Ea mV;rcases k with _|k
  ·obtain rfl:z= -1:=by omega
   have hdm:=Hj (qQ.out) hr;rw[List.drop_zero,List.drop_zero] at hdm;have HD:=zH hdm;clear hdm hz;go_wp2_with fail;go_ret2
   exact⟨_,qs,by rw[←HD.out.2];rfl,by rw[HG.out];exact jd.out,HD.out.1,Fw.out,bS.out⟩
  ·obtain rfl:z=k:=by omega
   have fI:(k:Int)<(n:Int):=by omega
   obtain⟨b,o,a,rfl,_,hx,e1⟩:=(H.out.below bS.out hS).limb_at (k:=k) (by omega);have Pr:=a.isLt;have JD:=qR hx;obtain⟨ef,qf⟩:=jd.out.limb (k:=k) (by rw[Fw.out];omega);obtain⟨x,rh⟩:∃x,r*4294967296+a.toNat=x:=⟨_,rfl⟩;have hs:=MS (B:=4294967296) rh qQ.out;rw[←JD] at hs;have Ea:=TA hr Pr rh;have Fi:=acp r a.toNat (by omega) Pr;rw[rh] at Fi;have hxb:x<18446744073709551616:=by omega
   obtain⟨q,hq⟩:∃q,x/d=q:=⟨_,rfl⟩;obtain⟨r',qN⟩:∃r',x%d=r':=⟨_,rfl⟩;have CN:r'<d:=by rw[←qN];exact Nat.mod_lt _ hd
   rw[hq] at hs Ea;rw[qN] at hs;have hqd:(x:Int).tdiv (d:Int)=(q:Int):=by rw[←hq];rfl
   have FQ:(x:Int).tmod (d:Int)=(r':Int):=by rw[←qN];rfl
   have aiI:(x:Int)/(d:Int)=(q:Int):=by rw[←hq];rfl
   have UN:(x:Int)%(d:Int)=(r':Int):=by rw[←qN];rfl
   have haw:IntKind.u64.wrap (a.toNat:Int)=(a.toNat:Int):=by rw[IntKind.wrap_u64];omega
   have GV:=oA q;obtain⟨zq,Ur⟩:∃z,BitVec.ofNat 32 q=z:=⟨_,rfl⟩;have eh:=iP q;rw[Ur] at GV eh;have tv:zq.toNat=q:=by omega
   have mU:val ((qs.set k zq).drop k)*d+r'=val (xs.drop k):=by
    rw[wO zq (by rw[Fw.out];omega),val,tv];exact hs
   have hd0:((d:Int)==0)=false:=by rw[beq_eq_false_iff_ne];omega
   have E0:=zH mU;clear hs hx JD rh hq qN Ur eh tv mU hz;go_wp2_with fail;go_roundw
   case rel=>exact⟨k,r',(k:Int)-1,qs.set k zq,by omega,by go_num,by omega,rfl,CN,by rw[List.length_set];exact Fw.out,E0.out,jd.out.setLimb k zq,bS.out.setCell (by have:=HG.out;simp;omega) _⟩
   case measure=>simp[intOf]
def abd (w:World) (v n:Nat) (en:Ending) (w':World):Prop:=
 ∃(s:Value) (zs:List (BitVec 32)),en=.returned s∧Own w' aA w.heap.size 98 s zs∧val zs=v∧zs.length=n∧Below w.heap.size w w'
theorem Ep (M k:Nat):(List.replicate M 0#32).getD k 0#32=0#32:=by
 rw[List.getD_eq_getElem?_getD,List.getElem?_replicate];split<;>rfl
theorem wM {l:List (BitVec 32)} {k:Nat} (z:BitVec 32) (h:k<l.length):(l.set k z).getD k 0#32=z:=by
 rw[List.getD_eq_getElem?_getD,List.getElem?_set_self h];rfl
theorem Xq {l:List (BitVec 32)} {k:Nat} (z:BitVec 32):(l.set k z).getD (k+1) 0#32=l.getD (k+1) 0#32:=by
 rw[List.getD_eq_getElem?_getD,List.getD_eq_getElem?_getD,List.getElem?_set_ne (by omega)]
theorem FB {l:List (BitVec 32)} {k:Nat} (z:BitVec 32):(l.set (k+1) z).take (k+1)=l.take (k+1):=by
 rw[List.take_set,List.set_eq_of_length_le (by simp;omega)]
set_option maxHeartbeats 1000000 in
theorem Pb {S:Nat→Prop} {A:Option Addr} {n c:Nat} {xs:List (BitVec 32)} {w:World} (sh:Nat) (h:RS w S A n c xs) (hS:∀b,S b→b<w.heap.size) (hn:n≤1073741824) (hs:sh<32) : Calls Tryz.prog 163 #[.slice A n c,.int .i64 sh] w (abd w (val xs*2^sh) (n+1)):=by
 obtain⟨i0,hi,kR,eQ,jE⟩:=info_parts Tryz.u32Info;have HI:=zH hi;have xE:=zH kR;have fy:=zH eQ;have iL:=zH jE;have H:=zH h;have HL:=zH h.len;clear h hi kR eQ jE;have Cn:(n:Int)+1=((n+1:Nat):Int):=by omega
 obtain⟨M,hM⟩:∃M,n+1=M:=⟨_,rfl⟩;rw[hM] at Cn;rw[hM];have hMb:M≤1073741825:=by omega
 have HM:=zH hM;clear hM;go_enter Tryz.func163,Tryz.ntmps163;go_wp2_with (refine dh (α:=BitVec 32) _ rfl _ _ _ rfl rfl w.heap.size i0 (.int .u32 0) Tryz.underlying26 HI.out xE.out fy.out rfl .i64 .i64 (M:Int) (M:Int) M rfl rfl rfl rfl (by rw[iL.out];omega) (by unfold maxLen;omega) (Nat.le_refl _) 0#32 aA (fun _ h=>h.elim) (fun _ _=>rfl) ?_; intro w1 zF hg1; have jd:=zH zF; have bS:=zH ((Below.refl w.heap.size w).grown hg1 (Nat.le_refl _) (fun k hk=>by cases hk)); clear zF hg1);obtain⟨g,hg⟩:∃g,w.heap.size=g:=⟨_,rfl⟩;rw[hg] at jd;rw[hg];have HG:=zH hg;clear hg Cn;go_loopw [15] (fun i wr=>∃(k:Nat) (zs:List (BitVec 32)),k≤n∧i=.int .i64 k∧zs.length=M∧(zs.getD k 0#32).toNat<2^sh∧val (zs.take k)+4294967296^k*(zs.getD k 0#32).toNat=val (xs.take k)*2^sh∧Own wr aA g 98 (.slice (some ⟨g,0,none⟩) M M) zs∧Below w.heap.size w wr)
  (fun i _=>n-(intOf i).toNat)
 case atStart=>
  have hp:=Nat.two_pow_pos sh;refine⟨0,List.replicate M 0#32,by omega,rfl,by simp,?_,?_,jd.out,bS.out⟩
  ·rw[Ep];exact hp
  ·rw[Ep];simp[val]
 case round=>
  clear jd bS;obtain⟨k,zs,hk,rfl,L9,yQ,mV,ho,hb⟩:=hrel;have jd:=zH ho;have bS:=zH hb;have zJ:=zH L9;have qQ:=zH mV;have HCL:=zH yQ;clear ho hb L9 mV yQ;by_cases bn:k<n
  ·have fI:(k:Int)<(n:Int):=by omega
   have hkM:(k:Int)<(M:Int):=by have:=HM.out;omega
   have aB5:(k:Int)+1<(M:Int):=by have:=HM.out;omega
   obtain⟨b,o,x,rfl,_,hx,e1⟩:=(H.out.below bS.out hS).limb_at bn;have sR:=x.isLt;obtain⟨ef,qf⟩:=jd.out.limb (k:=k) (by rw[zJ.out];have:=HM.out;omega);obtain⟨c0,Ld⟩:∃c0,zs.getD k 0#32=c0:=⟨_,rfl⟩;rw[Ld] at ef qQ HCL;obtain⟨v,hv⟩:∃v,x.toNat*2^sh=v:=⟨_,rfl⟩;have h2p:2^sh≤2^31:=Nat.pow_le_pow_right (by omega) (by omega);have Ph:v<18446744073709551616:=by
    have:x.toNat*2^sh≤4294967295*2^31:=Nat.mul_le_mul (by omega) h2p;omega
   have hvw:IntKind.u64.wrap ((x.toNat:Int)*2^sh)=(v:Int):=by
    have:(x.toNat:Int)*2^sh=(v:Int):=by rw[←hv,Int.natCast_mul,Int.natCast_pow];rfl
    rw[this,IntKind.wrap_u64];omega
   have hxw:IntKind.u64.wrap (x.toNat:Int)=(x.toNat:Int):=by rw[IntKind.wrap_u64];omega
   have h1:=oA v;obtain⟨z1,eQ⟩:∃z,BitVec.ofNat 32 v=z:=⟨_,rfl⟩;have acB:=iP v;rw[eQ] at h1 acB;have Fi:=XD c0 z1;obtain⟨z2,jE⟩:∃z,c0||| z1=z:=⟨_,rfl⟩;have ah4:z2.toNat=c0.toNat+v%4294967296:=by
    rw[←jE,BitVec.toNat_or,acB,←hv];exact Yc HCL.out (by omega)
   rw[jE] at Fi;have Bt:(v:Int)/4294967296=((v/4294967296:Nat):Int):=rfl;have h3:=oA (v/4294967296);obtain⟨z3,xN⟩:∃z,BitVec.ofNat 32 (v/4294967296)=z:=⟨_,rfl⟩;have acz:=iP (v/4294967296);rw[xN] at h3 acz;have hl3:v/4294967296<2^sh:=by rw[←hv];exact Yd sR
   have acA:z3.toNat=v/4294967296:=by rw[acz,Nat.mod_eq_of_lt (by omega)]
   have db:=left_step (B:=4294967296) (x:=x.toNat) qQ.out;rw[hv] at db;have JD:=rG hx;have KZ:k<zs.length:=by rw[zJ.out];have:=HM.out;omega
   have adq:k+1<(zs.set k z2).length:=by rw[List.length_set,zJ.out];have:=HM.out;omega
   have mU:val (((zs.set k z2).set (k+1) z3).take (k+1))+4294967296^(k+1)*(((zs.set k z2).set (k+1) z3).getD (k+1) 0#32).toNat=val (xs.take (k+1))*2^sh:=by
    rw[FB,jr z2 KZ,wM z3 adq,ah4,acA,JD,Nat.pow_succ];exact db
   have hnl:(((zs.set k z2).set (k+1) z3).getD (k+1) 0#32).toNat<2^sh:=by rw[wM z3 adq,acA];exact hl3
   obtain⟨vd,Yl⟩:∃vd,v/4294967296=vd:=⟨_,rfl⟩;rw[Yl] at Bt h3;clear Yl;have QV:=jd.out.setLimb k z2;obtain⟨asc,aCg⟩:=QV.limb (k:=k+1) adq;have hO3:=QV.setLimb (k+1) z3;have fN:=zH hO3;have E0:=zH mU;have HNL:=zH hnl;clear hv h2p eQ acB jE ah4 xN acz hl3 acA db JD KZ mU hnl QV hO3 hx Ld;go_wp2_with fail;go_roundw
   case rel=>
    refine⟨k+1,_,by omega,by go_num,by rw[List.length_set,List.length_set];exact zJ.out,HNL.out,E0.out,fN.out,(bS.out.setCell (by have:=HG.out;simp;omega) _).setCell (by have:=HG.out;simp;omega) _⟩
   case measure=>simp[intOf];omega
  ·have fI:k=n:=by omega
   have cJ:val zs=val xs*2^sh:=by
    have h1:=qQ.out;rw[fI,←cz,dU _ _ (by rw[zJ.out];have:=HM.out;omega),dU xs _ (by rw[HL.out];exact Nat.le_refl _)] at h1;exact h1
   have ja:=zH cJ;clear cJ fI;go_wp2_with fail;go_ret
   exact⟨_,zs,rfl,by rw[HG.out];exact jd.out,ja.out,zJ.out,bS.out⟩
theorem ahS (x y:Nat) (hx:x<4294967296) (hy:y<4294967296):bits .or .u64 (x:Int) ((y:Int)*4294967296)=((x+4294967296*y:Nat):Int):=by
 have e:(y:Int)*4294967296=((y*4294967296:Nat):Int):=by omega
 rw[e,u64_or_nat _ _ (by omega) (by omega),Nat.or_comm,Kr _ _ hx];congr 1;omega
set_option maxHeartbeats 1000000 in
theorem TC {S:Nat→Prop} {A:Option Addr} {n c:Nat} {xs:List (BitVec 32)} {w:World} (sh:Nat) (h:RS w S A n c xs) (hS:∀b,S b→b<w.heap.size) (hn:n≤1073741824) (hs:sh<32) : Calls Tryz.prog 165 #[.slice A n c,.int .i64 sh] w (abd w (val xs/2^sh) n):=by
 obtain⟨i0,hi,kR,eQ,jE⟩:=info_parts Tryz.u32Info;have HI:=zH hi;have xE:=zH kR;have fy:=zH eQ;have iL:=zH jE;have H:=zH h;have HL:=zH h.len;clear h hi kR eQ jE;go_enter Tryz.func165,Tryz.ntmps165;go_wp2_with (refine dh (α:=BitVec 32) _ rfl _ _ _ rfl rfl w.heap.size i0 (.int .u32 0) Tryz.underlying26 HI.out xE.out fy.out rfl .i64 .i64 (n:Int) (n:Int) n rfl rfl rfl rfl (by rw[iL.out];omega) (by unfold maxLen;omega) (Nat.le_refl _) 0#32 aA (fun _ h=>h.elim) (fun _ _=>rfl) ?_; intro w1 zF hg1; have jd:=zH zF; have bS:=zH ((Below.refl w.heap.size w).grown hg1 (Nat.le_refl _) (fun k hk=>by cases hk)); clear zF hg1);obtain⟨g,hg⟩:∃g,w.heap.size=g:=⟨_,rfl⟩;rw[hg] at jd;rw[hg];have HG:=zH hg;clear hg;go_loopw [6,12] (fun _ i wr=>∃(k:Nat) (zs:List (BitVec 32)),k≤n∧i=.int .i64 k∧zs.length=n∧val (zs.take k)=val xs/2^sh%4294967296^k∧Own wr aA g 98 (.slice (some ⟨g,0,none⟩) n n) zs∧Below w.heap.size w wr)
  (fun _ i _=>n-(intOf i).toNat)
 case atStart=>exact⟨0,List.replicate n 0#32,by omega,rfl,by simp,by simp[val,Nat.mod_one],jd.out,bS.out⟩
 case round=>
  clear jd bS;obtain⟨k,zs,hk,rfl,L9,mV,ho,hb⟩:=hrel;have jd:=zH ho;have bS:=zH hb;have zJ:=zH L9;have qQ:=zH mV;clear ho hb L9 mV;by_cases bn:k<n
  ·have fI:(k:Int)<(n:Int):=by omega
   have db:=right_step xs k sh (by omega);obtain⟨x,hx⟩:∃x,(xs.getD k 0#32).toNat=x:=⟨_,rfl⟩;obtain⟨y,hy⟩:∃y,(xs.getD (k+1) 0#32).toNat=y:=⟨_,rfl⟩;have sR:x<4294967296:=by rw[←hx];exact ic k
   have Ma:y<4294967296:=by rw[←hy];exact ic (k+1)
   rw[hx,hy] at db;have Fi:=ahS x y sR Ma;obtain⟨s,xO⟩:∃s,x+4294967296*y=s:=⟨_,rfl⟩;rw[xO] at Fi db;have Fg:s<18446744073709551616:=by omega
   obtain⟨t,ht⟩:∃t,s/2^sh=t:=⟨_,rfl⟩;have htd:(s:Int)/2^sh=(t:Int):=by rw[←ht,Int.natCast_ediv,Int.natCast_pow];rfl
   rw[ht] at db;have h1:=oA t;obtain⟨z,hz⟩:∃z,BitVec.ofNat 32 t=z:=⟨_,rfl⟩;have tv:=iP t;rw[hz] at h1 tv;rw[←tv] at db;obtain⟨ef,qf⟩:=jd.out.limb (k:=k) (by rw[zJ.out];exact bn);have mU:val ((zs.set k z).take (k+1))=val xs/2^sh%4294967296^(k+1):=by
    rw[jr z (by rw[zJ.out];exact bn),qQ.out,Ui,db]
   have dy:(k:Int)+1=((k+1:Nat):Int):=by omega
   obtain⟨k1,adt⟩:∃k1,k+1=k1:=⟨_,rfl⟩;rw[adt] at dy hy mU;have HX:=zH hx;have HY:=zH hy;have E0:=zH mU;have oW:=zH adt;clear db hx hy xO ht hz tv mU adt;go_wp2_with fail;refine(qY k (H.out.below bS.out hS)).mono ?_;rintro e w' ⟨rfl,rfl⟩;rw[HX.out];go_wp2_with fail;refine(qY k1 (H.out.below bS.out hS)).mono ?_;rintro e w' ⟨rfl,rfl⟩;rw[HY.out];clear dy;go_wp2_with fail;go_roundw
   case rel=>
    exact⟨k+1,zs.set k z,by omega,by go_num,by rw[List.length_set];exact zJ.out,by rw[oW.out];exact E0.out,jd.out.setLimb k z,bS.out.setCell (by have:=HG.out;simp;omega) _⟩
   case measure=>simp[intOf];omega
  ·have fI:k=n:=by omega
   have cJ:val zs=val xs/2^sh:=by
    have h1:=qQ.out;rw[fI,dU _ _ (by rw[zJ.out];exact Nat.le_refl _),Nat.mod_eq_of_lt] at h1
    ·exact h1
    ·have h2:=iU xs;rw[HL.out] at h2;exact Nat.lt_of_le_of_lt (Nat.div_le_self _ _) h2
   have ja:=zH cJ;clear cJ fI;go_wp2_with fail;go_ret
   exact⟨_,zs,rfl,by rw[HG.out];exact jd.out,ja.out,zJ.out,bS.out⟩
end Go.Proofs.YtjlhbfbdcfajfaaGreatDoor
