/- Nat1 NatM4 NatD NatL Elec RefD -/
import Derived.Test.YtdbpbfglhbiadaaGreatDoorH01
import Derived.Test.YtdbpbfglhbiadaaGreatDoorChecked
set_option maxHeartbeats 4000000
set_option maxRecDepth 100000
namespace Go.Proofs.YtdbpbfglhbiadaaGreatDoor
open Go.RowKit
theorem Tryz.natTy:fS Tryz.prog 26 172 1 4:=fS.mk' (z:=.int .u32 0) Tryz.underlying26 (by kernel_rfl) rfl (by omega)
theorem Flat.limbs {w:World} {S:Nat->Prop} (l:List (BitVec 32)):Flat w S (l.map R1) l:=by
 have:∀(k:List (BitVec 32)),Flat w S (k.reverse.map R1) k.reverse:=by
  intro k;induction k with
  | nil=>exact .nil
  | cons x k ih=>
   rw[List.reverse_cons,List.map_append];exact .snoc ih rfl
 simpa using this l.reverse
theorem RS.limb_at {w:World} {S:Nat->Prop} {A:Option Addr} {n c:Nat} {xs:List (BitVec 32)} (h:RS w S A n c xs) {k:Nat} (hk:k<n) : ∃b o x,A=some ⟨b,o,none⟩/\S b/\xs[k]?=some x/\w.cell? ⟨b,o+k,none⟩=some (.int .u32 (x.toNat:Int)):=by
 obtain⟨b,o,x,cs,e,hb,hx,hr,hc⟩:=h.at_ hk;have jo:cs=[R1 x]:=hr;subst jo;exact⟨b,o,x,e,hb,hx,by simpa[aA.sz,R1] using hc 0 _ rfl⟩
theorem RS.limbsAt {w:World} {S:Nat->Prop} {ad:Addr} {n c:Nat} {bs:List (BitVec 32)} (h:RS w S (some ad) n c bs):cf w ad (bs.map R1):=by
 obtain⟨h1,h2,_,h3⟩:=h;intro j u hj;rw[List.getElem?_map,Option.map_eq_some_iff] at hj;obtain⟨x,hx,rfl⟩:=hj;obtain⟨b,o,e,_,he⟩:=h3 (by have:=nO hx;omega);injection e with e
 subst e;obtain⟨cs,hr,hc⟩:=he j x hx;have jo:cs=[R1 x]:=hr;subst jo;have:=hc 0 _ rfl;rw[gf] at this;simpa[aA.sz] using this
def an1 {α:Type} [aA α] (w:World) (S:Nat->Prop) (xs:List α) (e:Ending) (w':World):Prop:=∃A n c,e=.returned (.slice A n c)/\RS w S A n c xs/\w=w'
def bi (_:Nat):Prop:=False
def jf {α:Type} [aA α] (w:World) (e:TypeId) (xs:List α) (en:Ending) (w':World):Prop:=
 ∃v',en=.returned v'/\Own w' bi w.heap.size e v' xs/\Below w.heap.size w w'
theorem Own.empty {α:Type} [aA α] (w:World) (e:TypeId):Own (w.alloc (.cells #[] e)) bi w.heap.size e (.slice (some ⟨w.heap.size,0,none⟩) 0 0) ([]:List α):=
 ⟨[],⟨by simp,.inr ⟨w.heap.size,0,#[],rfl,Nat.le_refl _,heap_alloc_new _ _,Nat.le_refl _,Nat.zero_le _,by simp,by simp⟩⟩,.nil,λ_ h=>h.elim⟩
theorem Own.base_le {α:Type} [aA α] {w:World} {S:Nat->Prop} {base base':Nat} {e:TypeId} {v:Value} {xs:List α} (h:Own w S base e v xs) (hb:base'<=base):Own w S base' e v xs:=by
 obtain⟨cs,⟨h0,h1⟩,h2,h3⟩:=h;refine⟨cs,⟨h0,?_⟩,h2,h3⟩;rcases h1 with h1|⟨g,cap,cur,q1,q2,q3⟩
 ·exact .inl h1
 ·exact .inr ⟨g,cap,cur,q1,Nat.le_trans hb q2,q3⟩
theorem E4 {l:List (BitVec 32)} {k:Nat} {x:BitVec 32} (hx:l[k]?=some x):cM (l.take (k+1))=if x=0#32 then cM (l.take k) else l.take (k+1):=by
 rw[iQ hx];split
 ·rename_i h;rw[h];exact tK _
 ·rename_i h;exact E5 h
theorem eH {S:Nat->Prop} {A:Option Addr} {n c:Nat} {xs:List (BitVec 32)} {w:World} (h:RS w S A n c xs) : Calls Tryz.prog 170 #[.slice A n c] w (an1 w S (cM xs)):=by
 have H:=zH h;have afJ:=h.max;have kw:=h.cap;have HL:=zH h.len;clear h;go_enter Tryz.func170,Tryz.ntmps170;go_wp2_with fail
 go_loop [3] (λv=>∃k:Nat,k<=n/\v=.int .i64 k/\cM (xs.take k)=cM xs) (λv=>(intOf v).toNat)
 case atStart=>exact⟨n,Nat.le_refl _,rfl,by rw[List.take_of_length_le (by rw[HL.out];exact Nat.le_refl _)]⟩
 case round=>
  obtain⟨k,hk,rfl,ht⟩:=hrel;have HT:=zH ht;clear ht;rcases k with _|k
  ·go_wp2_with fail;go_ret
   have:cM xs=[]:=by rw[<-HT.out];rfl
   rw[this];exact⟨_,_,_,rfl,RS.nil _ _,rfl⟩
  ·obtain⟨b,o,x,rfl,_,hx,e1⟩:=H.out.limb_at (k:=k) (by omega);have hs:=E4 hx;have pz:(k:Int)<(n:Int):=by omega
   by_cases h0:x=0#32
   ·have hb:((x.toNat:Int)==0)=true:=by rw[h0];rfl
    rw[if_pos h0,HT.out] at hs;have HS:=zH hs;clear hs h0 hx;go_wp2_with fail;go_round
    case rel=>exact⟨k,by omega,by go_num,HS.out.symm⟩
    case measure=>simp[intOf]
   ·have hb:((x.toNat:Int)==0)=false:=by
     rw[beq_eq_false_iff_ne];intro h;exact h0 (lQ.2 (by omega))
    rw[if_neg h0,HT.out] at hs;have HS:=zH hs;have Sr:(k:Int)+1<=(c:Int):=by omega
    clear hs h0 hx;go_wp2_with fail;go_ret
    refine⟨_,_,_,rfl,?_,rfl⟩;rw[HS.out];exact H.out.take hk
theorem ze {S:Nat->Prop} {A:Option Addr} {n c:Nat} {bs:List (BitVec 32)} {w:World} (h:RS w S A n c bs) (hl:n<=1099511627776) : Calls Tryz.prog 222 #[.slice A n c] w (jf w 172 bs):=by
 have H:=zH h;clear h;have hq:=Lib.run_eql_slice_nil w 26 172 A n c 0 0 Tryz.underlying26;go_enter Tryz.func222,Tryz.ntmps222;cases A with
 | none=>
  go_wp2_with fail;go_ret
  have hn:n=0:=by
   rcases Nat.eq_zero_or_pos n with h|h
   ·exact h
   ·obtain⟨_,_,e,_⟩:=H.out.2.2.2 h;cases e
  have hb:bs=[]:=List.eq_nil_of_length_eq_zero (H.out.len.trans hn);subst hb;exact⟨_,rfl,Own.nil _ _ _,Below.refl _ _⟩
 | some ad=>
  have hca:cf (w.alloc (.cells #[] 172)) ad (bs.map R1):=by
   intro j u hj;have h0:=H.out.limbsAt j u hj;exact(World.cell?_alloc_lt w _ _ (World.block_lt_of_cell? w _ h0)).trans h0
  have HC:=zH hca;have HL:=zH H.out.len;clear hca;go_wp2_with (at_builtin; refine fP (α:=BitVec 32) rfl _ _ 26 rfl 4 Tryz.natTy rfl (Own.empty w 172) ad n c _ bs rfl HL.out.symm (Flat.limbs bs) HC.out (by simp[Value.oneCell',R1]) (by have:=HL.out;simp;omega) (by simp) ?_; intro v2 w2 hown2 hg2 sd; have nA:=zH hown2; have fu:=zH (((Below.refl w.heap.size w).alloc (Nat.le_refl _) (.cells #[] 172)).grown hg2 (by simp) (λk hk=>by injection hk with hk;exact Nat.le_of_eq hk)); clear hown2 hg2 sd);go_ret
  exact⟨_,rfl,nA.out,fu.out⟩
theorem jz {S:Nat->Prop} {A:Option Addr} {n c:Nat} {xs:List (BitVec 32)} {w:World} (h:RS w S A n c xs) (hl:n<=1099511627776) : Calls Tryz.prog 220 #[.slice A n c] w (jf w 172 (cJ (val xs))):=by
 have H:=zH h;have HL:=zH h.len;clear h;go_enter Tryz.func220,Tryz.ntmps220;go_wp2_with fail;refine(eH H.out).mono ?_;rintro e w' ⟨A1,n1,c1,rfl,hr,rfl⟩;have hn1:n1<=1099511627776:=by
  have:=bI xs;have:=hr.len;have:=HL.out;omega
 have HR:=zH hr;clear hr;go_wp2_with fail;refine(ze HR.out hn1).mono ?_;rintro e w2 ⟨v,rfl,ho,hb⟩;have HO:=zH ho;have HB:=zH hb;clear ho hb;go_wp2_with fail;go_ret
 exact⟨_,rfl,by rw[du];exact HO.out,HB.out⟩
theorem j4 {S:Nat->Prop} {A:Option Addr} {n c:Nat} {xs:List (BitVec 32)} {w:World} (i:Nat) (h:RS w S A n c xs) : Calls Tryz.prog 250 #[.slice A n c,.int .i64 i] w (jk w (.int .u64 ((xs.getD i 0#32).toNat:Int))):=by
 have H:=zH h;have HL:=zH h.len;clear h;by_cases hi:i<n
 ·obtain⟨b,o,x,rfl,_,hx,e1⟩:=H.out.limb_at hi;have hg:xs.getD i 0#32=x:=by rw[List.getD_eq_getElem?_getD,hx];rfl
  have hlt:=x.isLt;have hw:IntKind.u64.wrap (x.toNat:Int)=(x.toNat:Int):=by rw[IntKind.wrap_u64];omega
  rw[hg];have hii:(i:Int)<(n:Int):=by omega
  clear hg hx hlt;go_enter Tryz.func250,Tryz.ntmps250;go_wp2_with fail;go_ret
  exact⟨rfl,rfl⟩
 ·have hg:xs.getD i 0#32=0#32:=by rw[List.getD_eq_getElem?_getD,List.getElem?_eq_none (by rw[HL.out];omega)];rfl
  rw[hg];have hii:¬(i:Int)<(n:Int):=by omega
  clear hg;go_enter Tryz.func250,Tryz.ntmps250;go_wp2_with fail;go_ret
  exact⟨rfl,rfl⟩
theorem Cn (a x:Nat) (hx:x<4294967296):a*4294967296||| x=a*4294967296+x:=by
 have:a*4294967296=a <<< 32:=by rw[Nat.shiftLeft_eq]
 rw[this,Nat.shiftLeft_add_eq_or_of_lt (by simpa using hx)]
theorem jW {l:List (BitVec 32)} {k:Nat} {x:BitVec 32} (hx:l[k]?=some x):val (l.drop k)=x.toNat+4294967296*val (l.drop (k+1)):=by
 obtain⟨hk,e⟩:=List.getElem?_eq_some_iff.1 hx;rw[List.drop_eq_getElem_cons hk,e,val]
theorem oK {l:List (BitVec 32)} {k:Nat} (x:BitVec 32) (h:k<l.length):(l.set k x).drop k=x::l.drop (k+1):=by
 rw[List.drop_eq_getElem_cons (by simpa using h),List.getElem_set_self,List.drop_set_of_lt (by omega)]
theorem Fl {a r d x Q V B:Nat} (hx:r*B+a=x) (h:Q*d+r=V):(x/d+B*Q)*d+x%d=a+B*V:=by
 have e:=Nat.div_add_mod x d;have e1:(x/d+B*Q)*d=d*(x/d)+B*(Q*d):=by grind
 have e2:B*V=B*(Q*d)+r*B:=by rw[<-h];grind
 omega
theorem NF {a r d x:Nat} (hr:r<d) (ha:a<4294967296) (hx:r*4294967296+a=x):x/d<4294967296:=by
 apply Nat.div_lt_of_lt_mul;have:(r+1)*4294967296<=d*4294967296:=Nat.mul_le_mul_right _ (by omega);omega
theorem yX {q d r v:Nat} (h:q*d+r=v) (hr:r<d):q=v/d/\r=v%d:=by
 subst h;constructor
 ·rw[Nat.mul_comm,Nat.mul_add_div (by omega),Nat.div_eq_of_lt hr];rfl
 ·rw[Nat.mul_comm,Nat.mul_add_mod,Nat.mod_eq_of_lt hr]
theorem Zb (c a s:Nat) (hc:c<2^s):c||| a*2^s=c+a*2^s:=by
 have:a*2^s=a <<< s:=by rw[Nat.shiftLeft_eq]
 rw[this,Nat.or_comm,<-Nat.shiftLeft_add_eq_or_of_lt hc,Nat.add_comm]
theorem Cv (x s:Nat) (hs:s<=32):x*2^s%4294967296=x%2^(32-s)*2^s:=by
 have e:4294967296=2^(32-s)*2^s:=by
  have:32-s+s=32:=by omega
  rw[<-Nat.pow_add,this]
 rw[e,Nat.mul_mod_mul_right]
theorem UH {c x s:Nat} (hc:c<2^s) (hs:s<=32):c||| x*2^s%4294967296=c+x*2^s%4294967296:=by
 rw[Cv x s hs];exact Zb _ _ _ hc
theorem UI {x s:Nat} (hx:x<4294967296):x*2^s/4294967296<2^s:=by
 apply Nat.div_lt_of_lt_mul;have:=Nat.two_pow_pos s;exact Nat.mul_lt_mul_of_lt_of_le hx (Nat.le_refl _) this
theorem left_step {v p c x y A B:Nat} (h:v+p*c=A*y):(v+p*(c+x*y%B))+p*B*(x*y/B)=(A+p*x)*y:=by
 have e:p*(x*y%B)+p*B*(x*y/B)=p*(x*y):=by
  rw[Nat.mul_assoc,<-Nat.mul_add,Nat.mod_add_div]
 rw[Nat.add_mul,<-h,Nat.mul_add,Nat.mul_assoc p x y];omega
theorem Cc {x y r s:Nat} (hs:s<=32):((x+4294967296*(y+4294967296*r))/2^s)%4294967296=((x+4294967296*y)/2^s)%4294967296:=by
 have e:4294967296=2^s*2^(32-s):=by
  have:s+(32-s)=32:=by omega
  rw[<-Nat.pow_add,this]
 have h1:x+4294967296*(y+4294967296*r)=(x+4294967296*y)+2^s*(2^(32-s)*r*4294967296):=by
  have:4294967296*(4294967296*r)=2^s*(2^(32-s)*r*4294967296):=by
   conv=>lhs;rw[<-Nat.mul_assoc,Nat.mul_comm 4294967296 4294967296,Nat.mul_assoc]
   have:4294967296*r=2^s*(2^(32-s)*r):=by rw[<-Nat.mul_assoc,<-e]
   rw[this]
   grind
  rw[Nat.mul_add,this];omega
 rw[h1,Nat.add_mul_div_left _ _ (Nat.two_pow_pos s),Nat.add_mul_mod_self_right]
theorem OJ (Q k:Nat):Q%4294967296^(k+1)=Q%4294967296^k+4294967296^k*(Q/4294967296^k%4294967296):=by
 rw[Nat.pow_succ,Nat.mod_mul]
theorem VL (l:List (BitVec 32)) (k:Nat):val l/4294967296^k=val (l.drop k):=by
 rcases Nat.lt_or_ge k l.length with h|h
 ·have h1:=dY l k (by omega);have h2:=dT (l.take k);have hl:(l.take k).length=k:=by simp;omega
  rw[hl] at h2;rw[h1,Nat.add_comm,Nat.mul_add_div (by omega),Nat.div_eq_of_lt h2];rfl
 ·rw[List.drop_eq_nil_of_le h];apply Nat.div_eq_of_lt;exact Nat.lt_of_lt_of_le (dT l) (Nat.pow_le_pow_right (by omega) h)
theorem oC (l:List (BitVec 32)) (k:Nat):val (l.drop k)=(l.getD k 0#32).toNat+4294967296*val (l.drop (k+1)):=by
 rcases Nat.lt_or_ge k l.length with h|h
 ·have hx:l[k]?=some (l.getD k 0#32):=by rw[List.getD_eq_getElem?_getD,List.getElem?_eq_getElem h];rfl
  exact jW hx
 ·rw[List.drop_eq_nil_of_le h,List.drop_eq_nil_of_le (by omega),List.getD_eq_getElem?_getD,List.getElem?_eq_none h];simp[val]
theorem right_step (l:List (BitVec 32)) (k s:Nat) (hs:s<=32):val l/2^s/4294967296^k%4294967296=(((l.getD k 0#32).toNat+4294967296*(l.getD (k+1) 0#32).toNat)/2^s)%4294967296:=by
 rw[Nat.div_div_eq_div_mul,Nat.mul_comm,<-Nat.div_div_eq_div_mul,VL,oC,oC l (k+1),Cc hs]
section
variable {P B U V T h v2 u2 ul vl q r:Nat}
theorem Dk (hU:U=P*(T*B+u2)+ul) (Sj:ul<P) (qZ:u2<B) (hV:V=P*(h*B+v2)+vl) (hh:0<h):U/V<=T/h:=by
 rw[Nat.le_div_iff_mul_le hh];rcases Nat.lt_or_ge T (U/V*h) with hc|hc
 ·exfalso
  have h1:U/V*V<=U:=Nat.div_mul_le_self U V;have h2:(T+1)*(P*B)<=U/V*h*(P*B):=Nat.mul_le_mul_right _ hc;have h3:U/V*h*(P*B)<=U/V*V:=by
   rw[Nat.mul_assoc];apply Nat.mul_le_mul_left;rw[hV];have:h*(P*B)=P*(h*B):=by grind
   rw[this,Nat.mul_add];omega
  have h4:U<(T+1)*(P*B):=by
   have e:(T+1)*(P*B)=P*(T*B)+P*B:=by grind
   have e2:P*(T*B+u2)=P*(T*B)+P*u2:=by grind
   have e3:P*u2+P<=P*B:=by
    rw[<-Nat.mul_succ];exact Nat.mul_le_mul_left _ qZ
   omega
  omega
 ·exact hc
theorem Lz (hU:U=P*(T*B+u2)+ul) (Sj:ul<P) (hV:V=P*(h*B+v2)+vl) (hq:q*h+r=T) (ht:r*B+u2<q*v2):U/V<q:=by
 apply Nat.div_lt_of_lt_mul;have h1:P*(T*B+u2+1)<=P*(q*(h*B+v2)):=by
  apply Nat.mul_le_mul_left;have e:q*(h*B+v2)=q*h*B+q*v2:=by grind
  have e2:T*B=q*h*B+r*B:=by rw[<-hq,Nat.add_mul]
  omega
 have h2:P*(q*(h*B+v2))<=V*q:=by
  have e:V*q=P*(q*(h*B+v2))+vl*q:=by rw[hV];grind
  omega
 have e3:P*(T*B+u2+1)=P*(T*B+u2)+P:=by grind
 omega
theorem pf (hU:U=P*(T*B+u2)+ul) (hV:V=P*(h*B+v2)+vl) (Bu:vl<P) (hh:0<h) (hq:q*h+r=T) (hqB:q<B) (ht:q*v2<=r*B+u2):q<=U/V+1:=by
 have h1:q*V<=U+q*vl:=by
  have e:q*V=P*(q*(h*B+v2))+q*vl:=by rw[hV];grind
  have e2:q*(h*B+v2)<=T*B+u2:=by
   have e3:q*(h*B+v2)=q*h*B+q*v2:=by grind
   have e4:T*B=q*h*B+r*B:=by rw[<-hq,Nat.add_mul]
   omega
  have:=Nat.mul_le_mul_left P e2;omega
 have h2:q*vl<V:=by
  have e:q*vl<=B*P:=Nat.mul_le_mul (by omega) (by omega);have e2:P*B<=P*(h*B+v2):=Nat.mul_le_mul_left _ (by have:=Nat.le_mul_of_pos_left B hh;omega);have e3:q*vl<B*P\/q*vl=B*P:=by omega
  rcases e3 with e3|e3
  ·have:B*P=P*B:=Nat.mul_comm _ _;omega
  ·have hP:0<P:=by omega
   have:q*vl<B*P:=Nat.mul_lt_mul_of_lt_of_le hqB (by omega) hP;omega
 have hV0:0<V:=by omega
 rcases Nat.lt_or_ge (U/V+1) q with hc|hc
 ·exfalso
  have h3:U<V*(U/V+1):=by
   have:=Nat.lt_mul_div_succ U hV0;exact this
  have h4:V*(U/V+1)+V<=q*V:=by
   have:(U/V+1+1)*V<=q*V:=Nat.mul_le_mul_right _ hc;have e:(U/V+1+1)*V=V*(U/V+1)+V:=by grind
   omega
  omega
 ·exact hc
theorem wv (hq:q*h+r=T) (hT:T<(h+1)*B) (hr:B<=r) (j6:v2<B):q<B/\q*v2<=r*B+u2:=by
 have h1:q<B:=by
  rcases Nat.lt_or_ge q B with hc|hc
  ·exact hc
  ·exfalso
   have:B*h<=q*h:=Nat.mul_le_mul_right _ hc;have e:(h+1)*B=B*h+B:=by grind
   omega
 refine⟨h1,?_⟩;have e1:q*v2<=B*B:=Nat.mul_le_mul (by omega) (by omega);have e2:B*B<=r*B:=Nat.mul_le_mul_right _ hr;omega
theorem Ly (hU:U=P*(T*B+u2)+ul) (hV:V=P*(h*B+v2)+vl) (Bu:vl<P) (j6:v2<B) (hlt:U<V*B):T<(h+1)*B:=by
 rcases Nat.lt_or_ge T ((h+1)*B) with hc|hc
 ·exact hc
 ·exfalso
  have h1:P*((h+1)*B*B)<=P*(T*B+u2):=Nat.mul_le_mul_left _ (by have:=Nat.mul_le_mul_right B hc;omega);have h2:V<P*((h+1)*B):=by
   have e:P*((h+1)*B)=P*(h*B)+P*B:=by grind
   have e2:P*(h*B+v2)=P*(h*B)+P*v2:=by grind
   have e3:P*v2+P<=P*B:=by rw[<-Nat.mul_succ];exact Nat.mul_le_mul_left _ j6
   omega
  have h3:V*B<=P*((h+1)*B)*B:=Nat.mul_le_mul_right _ (by omega);have e:P*((h+1)*B)*B=P*((h+1)*B*B):=by grind
  omega
end
theorem KS {q c b x y p s P v vx vy B:Nat} (hB:B=4294967296) (hx:x<B) (hp:q*y+c=p) (hs:B+x-p%B-b=s) (hb:b<=1) (h:v+q*vy=vx+P*(c+b)) : (v+P*(s%B))+q*(vy+P*y)=(vx+P*x)+P*B*(p/B+(1-s/B)):=by
 have hm:=Nat.mod_lt p (show 0<B by omega);have e1:B*(p/B)+p%B=p:=Nat.div_add_mod p B;have e2:B*(s/B)+s%B=s:=Nat.div_add_mod s B;have hd:s/B<=1:=by
  have:s/B<2:=Nat.div_lt_of_lt_mul (by omega);omega
 obtain⟨m,h1⟩:∃m,p%B=m:=⟨_,rfl⟩;obtain⟨c',h2⟩:∃m,p/B=m:=⟨_,rfl⟩;obtain⟨t,h3⟩:∃m,s%B=m:=⟨_,rfl⟩;obtain⟨d,h4⟩:∃m,s/B=m:=⟨_,rfl⟩;rw[h1,h2] at e1;rw[h3,h4] at e2;rw[h1] at hs hm;rw[h4] at hd;rw[h2,h3,h4];obtain⟨g,hg⟩:∃g,1-d=g:=⟨_,rfl⟩;have e3:B*d+B*g=B:=by rw[<-Nat.mul_add,<-hg,show d+(1-d)=1 by omega,Nat.mul_one]
 have core:t+q*y+c+b=x+B*(c'+g):=by
  rw[Nat.mul_add];omega
 rw[hg];have arv:P*(t+q*y+c+b)=P*(x+B*(c'+g)):=by rw[core]
 grind
theorem OH {U V U' W q b:Nat} (hV:0<V) (hU':U'<W) (mC:U/V<=q) (tS:q<=U/V+1) (hb:b<=1) (h:U'+q*V=U+W*(0+b)) : (b=0->q=U/V/\U'=U%V)/\(0<b->q=U/V+1/\U'+V=W+U%V):=by
 have e1:V*(U/V)+U%V=U:=Nat.div_add_mod U V;have hm:=Nat.mod_lt U hV;obtain⟨d,hd⟩:∃d,U/V=d:=⟨_,rfl⟩;obtain⟨r,hr⟩:∃d,U%V=d:=⟨_,rfl⟩;rw[hd,hr] at e1;rw[hr] at hm;rw[hd] at mC tS;rw[hd,hr];rw[Nat.zero_add] at h;have ec:V*d=d*V:=Nat.mul_comm _ _;have es:(d+1)*V=d*V+V:=by rw[Nat.add_mul,Nat.one_mul]
 refine⟨λh0=>?_,λh0=>?_⟩
 ·subst h0;rw[Nat.mul_zero] at h;rcases Nat.lt_or_ge d q with hc|hc
  ·have:q=d+1:=by omega
   subst this;omega
  ·have:q=d:=by omega
   subst this;exact⟨rfl,by omega⟩
 ·have ci:b=1:=by omega
  subst ci;rw[Nat.mul_one] at h;rcases Nat.lt_or_ge d q with hc|hc
  ·have:q=d+1:=by omega
   subst this;exact⟨rfl,by omega⟩
  ·have:q=d:=by omega
   subst this;omega
theorem Eg {U' U'' V W R c:Nat} (hU:U''<W) (h:U''+W*c=U'+V) (he:U'+V=W+R) (hc:c<=1):U''=R:=by
 rcases Nat.lt_or_ge 0 c with h0|h0
 ·have:c=1:=by omega
  subst this;omega
 ·have:c=0:=by omega
  subst this;omega
theorem uG (us:List (BitVec 32)) (j m:Nat) (h:j+m<=us.length):val us=val (us.take j)+4294967296^j*(val ((us.drop j).take m)+4294967296^m*val (us.drop (j+m))):=by
 rw[dY us j (by omega),dY (us.drop j) m (by rw[List.length_drop];omega),List.drop_drop]
theorem Yh {us:List (BitVec 32)} {j n V:Nat} (hj:j+(n+1)<=us.length) (gY:val (us.drop (j+1))<V):val ((us.drop j).take (n+1))<V*4294967296:=by
 have e1:=jW (l:=us) (k:=j) (x:=us[j]'(by omega)) (List.getElem?_eq_getElem (by omega));have hx:=(us[j]'(by omega)).isLt;have e2:=dY (us.drop j) (n+1) (by rw[List.length_drop];omega);omega
theorem FO {us pF:List (BitVec 32)} {j n V:Nat} (hj:j+(n+1)<=us.length) (hV:V<4294967296^n) (gY:val (us.drop (j+1))<V) (bJ:pF.length=us.length) (h1:pF.take j=us.take j) (h2:pF.drop (j+(n+1))=us.drop (j+(n+1))) (hw:val ((pF.drop j).take (n+1))=val ((us.drop j).take (n+1))%V) : val ((us.drop j).take (n+1))<V*4294967296/\val (pF.drop j)<V/\val us=val pF+4294967296^j*(V*(val ((us.drop j).take (n+1))/V)):=by
 have e1:=jW (l:=us) (k:=j) (x:=us[j]'(by omega)) (List.getElem?_eq_getElem (by omega));have hx:=(us[j]'(by omega)).isLt;have e2:=dY (us.drop j) (n+1) (by rw[List.length_drop];omega);have e3:=dY (pF.drop j) (n+1) (by rw[List.length_drop];omega);rw[List.drop_drop] at e2 e3;rw[h2] at e3;have e4:=uG us j (n+1) hj;have e5:=uG pF j (n+1) (by omega);rw[h1,h2] at e5;obtain⟨U,hU⟩:∃U,val ((us.drop j).take (n+1))=U:=⟨_,rfl⟩;obtain⟨R,hR⟩:∃U,val (us.drop (j+(n+1)))=U:=⟨_,rfl⟩;rw[hU] at hw e2 e4;rw[hR] at e2 e3 e4 e5;rw[hw] at e3 e5;rw[hU];have hlt:val (us.drop j)<V*4294967296:=by omega
 have hVB:V*4294967296<=4294967296^(n+1):=by rw[Nat.pow_succ];exact Nat.mul_le_mul_right _ (by omega)
 have hR0:R=0:=by
  rcases Nat.eq_zero_or_pos R with h0|h0
  ·exact h0
  ·have:=Nat.mul_le_mul_left (4294967296^(n+1)) h0;omega
 subst hR0;rw[Nat.mul_zero] at e2 e3 e4 e5;have hm:=Nat.mod_lt U (show 0<V by omega);have hdm:V*(U/V)+U%V=U:=Nat.div_add_mod U V;refine⟨by omega,by omega,?_⟩;rw[e4,e5];obtain⟨d,hd⟩:∃d,U/V=d:=⟨_,rfl⟩;obtain⟨r,hr⟩:∃d,U%V=d:=⟨_,rfl⟩;rw[hd,hr] at hdm;rw[hd,hr];rw[<-hdm]
 grind
theorem Ha {us pF:List (BitVec 32)} {j i:Nat} (z:BitVec 32) (hi:j+i<pF.length) (h1:pF.take j=us.take j) (h2:pF.drop (j+i)=us.drop (j+i)) : (pF.set (j+i) z).take j=us.take j/\(pF.set (j+i) z).drop (j+(i+1))=us.drop (j+(i+1))/\ val (((pF.set (j+i) z).drop j).take (i+1))=val ((pF.drop j).take i)+4294967296^i*z.toNat/\pF.getD (j+i) 0#32=us.getD (j+i) 0#32:=by
 refine⟨by rw[List.take_set_of_le (by omega),h1],?_,?_,?_⟩
 ·rw[List.drop_set_of_lt (by omega)];have h3:=congrArg (List.drop 1) h2
  rwa [List.drop_drop,List.drop_drop] at h3
 ·rw[List.drop_set,if_neg (by omega),show j+i-j=i by omega];exact eG z (by rw[List.length_drop];omega)
 ·have:(pF.drop (j+i))[0]?=(us.drop (j+i))[0]?:=by rw[h2]
  rw[List.getElem?_drop,List.getElem?_drop,Nat.add_zero] at this;rw[List.getD_eq_getElem?_getD,List.getD_eq_getElem?_getD,this]
structure aa where
 title:ByteArray
 dots:Int
 blank:Int
 marked:Int
 prec:List ByteArray
 cont:List ae
 styl:List aj
 scan:Int
 batch:Int
 risk:Raw
 cell:Int
 seed:ByteArray
def aa.zero:aa:=⟨⟨#[]⟩,0,0,0,[],[],[],0,0,⟨false,[],[]⟩,0,⟨#[]⟩⟩
def LI (e:aa) (vP vC vS vN vD:Value):List Value:=
 [.string e.title,.int .i64 e.dots,.int .i64 e.blank,.int .i64 e.marked,vP,vC,vS,.int .i64 e.scan,.int .i64 e.batch,.bool e.risk.neg,vN,vD,.int .i64 e.cell,.string e.seed]
instance:aA aa where
 sz:=14
 rep w S cs x:=∃A n c A2 n2 c2 A3 n3 c3 A4 n4 c4 A5 n5 c5,cs=LI x (.slice A n c) (.slice A2 n2 c2) (.slice A3 n3 c3) (.slice A4 n4 c4) (.slice A5 n5 c5)
  /\RS w S A n c x.prec/\RS w S A2 n2 c2 x.cont/\RS w S A3 n3 c3 x.styl/\RS w S A4 n4 c4 x.risk.num/\RS w S A5 n5 c5 x.risk.den
 len h:=by obtain⟨A,n,c,A2,n2,c2,A3,n3,c3,A4,n4,c4,A5,n5,c5,rfl,_⟩:=h;rfl
 keep h hS hk:=by
  obtain⟨A,n,c,A2,n2,c2,A3,n3,c3,A4,n4,c4,A5,n5,c5,rfl,h1,h2,h3,h4,h5⟩:=h;exact⟨A,n,c,A2,n2,c2,A3,n3,c3,A4,n4,c4,A5,n5,c5,rfl,h1.keep hS hk,h2.keep hS hk,h3.keep hS hk,h4.keep hS hk,h5.keep hS hk⟩
structure ak where
 kind:ByteArray
 name:ByteArray
 fields:List ai
 line:Int
instance:aA ak where
 sz:=4
 rep w S cs x:=∃A n c,cs=[.string x.kind,.string x.name,.slice A n c,.int .i64 x.line]/\RS w S A n c x.fields
 len h:=by obtain⟨A,n,c,rfl,_⟩:=h;rfl
 keep h hS hk:=by
  obtain⟨A,n,c,rfl,h1⟩:=h;exact⟨A,n,c,rfl,h1.keep hS hk⟩
structure aF where
 title:ByteArray
 blocks:List ak
instance:aA aF where
 sz:=2
 rep w S cs x:=∃A n c,cs=[.string x.title,.slice A n c]/\RS w S A n c x.blocks
 len h:=by obtain⟨A,n,c,rfl,_⟩:=h;rfl
 keep h hS hk:=by
  obtain⟨A,n,c,rfl,h1⟩:=h;exact⟨A,n,c,rfl,h1.keep hS hk⟩
structure cE where
 e:aa
 names:ByteArray->Option (List ByteArray)
 vals:List aJ
def cE.of (b:cE) (k:ByteArray):List ByteArray:=(b.names k).getD []
def aX:ByteArray:=⟨#[115,99,97,110,110,101,114,115]⟩
def af:ByteArray:=⟨#[112,114,101,99,105,110,99,116,115]⟩
def aG:ByteArray:=⟨#[115,116,121,108,101]⟩
def bP:ByteArray:=⟨#[97,117,100,105,116]⟩
def bB:ByteArray:=⟨#[112,114,105,118,97,99,121]⟩
def iK:ByteArray:=⟨#[100,111,116,115]⟩
def fJ:ByteArray:=⟨#[99,111,117,110,116]⟩
def fL:ByteArray:=⟨#[98,97,116,99,104]⟩
def eA:ByteArray:=⟨#[110,97,109,101,115]⟩
def fK:ByteArray:=⟨#[99,97,110,100,105,100,97,116,101,115]⟩
def gB:ByteArray:=⟨#[114,97,110,107,115]⟩
def il:ByteArray:=⟨#[116,105,101,115]⟩
def ck:ByteArray:=⟨#[111,118,101,114,118,111,116,101]⟩
def im:ByteArray:=⟨#[115,107,105,112]⟩
def iL:ByteArray:=⟨#[99,101,108,108]⟩
def ay:ByteArray:=⟨#[99,111,110,116,101,115,116,115]⟩
def aJ.s (v:aJ) (k:ByteArray):List ByteArray:=(v.lst k).getD []
def dK (nm:ByteArray) (v:aJ):ae:=⟨nm,v.s fK,v.n bg,v.n bH,v.n gB,v.n aH,v.n il,v.n ck,v.n im⟩
def bb (kind nm:ByteArray) (v:aJ) (b:cE):cE:=
 if kind=bZ then { b with e:={ b.e with dots:=v.n iK,blank:=v.n cF,marked:=v.n bO } }
 else if kind=aX then { b with e:={ b.e with scan:=v.n fJ,batch:=v.n fL } }
 else if kind=af then { b with e:={ b.e with prec:=v.s eA } }
 else if kind=ar then { b with e:={ b.e with cont:=b.e.cont++[dK nm v] } }
 else if kind=aG then { b with e:={ b.e with styl:=b.e.styl++[⟨nm,[],[]⟩] },vals:=b.vals++[v] }
 else if kind=bP then { b with e:={ b.e with risk:=v.risk,seed:=v.seed } }
 else if kind=bB then { b with e:={ b.e with cell:=v.n iL } }
 else b
def dU (kind:ByteArray):List ai->aJ->dG×aJ
 | [],v=>(⟨0,0⟩,v)
 | f::l,v=>if(bV kind f v).1≠0 then(⟨(bV kind f v).1,f.line⟩,(bV kind f v).2) else dU kind l (bV kind f v).2
def cE.named (b:cE) (kind nm:ByteArray):cE:={ b with names:=setF b.names kind (b.of kind++[nm]) }
def fN (x:ak) (b:cE):dG×cE:=
 if fg x.kind x.name (b.of x.kind)≠0 then(⟨fg x.kind x.name (b.of x.kind),x.line⟩,b)
 else if(dU x.kind x.fields aJ.zero).1.no≠0 then((dU x.kind x.fields aJ.zero).1,b.named x.kind x.name)
 else if(ek x.kind x.line (dU x.kind x.fields aJ.zero).2).no≠0 then(ek x.kind x.line (dU x.kind x.fields aJ.zero).2,b.named x.kind x.name)
 else(⟨0,0⟩,bb x.kind x.name (dU x.kind x.fields aJ.zero).2 (b.named x.kind x.name))
def cA:List ak->cE->dG×cE
 | [],b=>(⟨0,0⟩,b)
 | x::l,b=>if(fN x b).1.no≠0 then fN x b else cA l (fN x b).2
def cR (prec:List ByteArray) (line:Int):List ByteArray->List Bool->List Int->Except dG (List Bool×List Int)
 | [],used,cY=>.ok (used,cY)
 | s::l,used,cY=>
  if Lib.idxOfS prec s<0 then .error ⟨2,line⟩
  else if used.getD (Lib.idxOfS prec s).toNat false=true then .error ⟨3,line⟩
  else cR prec line l (used.set (Lib.idxOfS prec s).toNat true) (cY++[Lib.idxOfS prec s])
def bh (nm:ByteArray):List ae->Nat->Int
 | [],_=>-1
 | c::l,i=>if c.name=nm then(i:Int) else bh nm l (i+1)
def dC (cont:List ae) (line:Int):List ByteArray->List Int->Except dG (List Int)
 | [],cY=>.ok cY
 | s::l,cY=>if bh s cont 0<0 then .error ⟨2,line⟩ else dC cont line l (cY++[bh s cont 0])
def dV (prec:List ByteArray) (cont:List ae):List aJ->List aj->List Bool->List aj->Except dG (List aj)
 | v::vs,s::ss,used,done=>
  match cR prec (v.l af) (v.s af) used [] with
  | .error e=>.error e
  | .ok (mJ,ps)=>
   match dC cont (v.l ay) (v.s ay) [] with
   | .error e=>.error e
   | .ok cs=>dV prec cont vs ss mJ (done++[⟨s.name,ps,cs⟩])
 | _,_,used,done=>if used.contains false then .error ⟨6,0⟩ else .ok done
def oE (b:cE):Except dG (List aj):=dV b.e.prec b.e.cont b.vals b.e.styl (List.replicate b.e.prec.length false) []
def cE.start (title:ByteArray):cE:=⟨{ aa.zero with title:=title },λ_=>none,[]⟩
def bj (s:aF):aa×dG:=
 if da s.title 0 60=false then(aa.zero,⟨8,0⟩)
 else if(cA s.blocks (cE.start s.title)).1.no≠0 then(aa.zero,(cA s.blocks (cE.start s.title)).1)
 else if et.any (λk=>decide ((cA s.blocks (cE.start s.title)).2.of k=[])) then(aa.zero,⟨6,0⟩)
 else match oE (cA s.blocks (cE.start s.title)).2 with
  | .error e=>(aa.zero,e)
  | .ok l=>({ (cA s.blocks (cE.start s.title)).2.e with styl:=l },⟨0,0⟩)
def ga (k:ByteArray) (n:Int):ai:=⟨k,[tj n],0⟩
def jj (k:ByteArray) (n:Int):ai:=⟨k,[iY k n],0⟩
def eI (c:ae):ak:=
 ⟨ar,c.name,[jj bg c.method,ga bH c.seats,ga gB c.ranks]++(if c.method=2 then[ga aH c.digits] else[])++[jj il c.ties,jj ck c.over,jj im c.skip,⟨fK,c.cands,0⟩],0⟩
def eT (prec conts:List ByteArray) (s:aj):ak:=⟨aG,s.name,[⟨af,db s.prec prec,0⟩,⟨ay,db s.cont conts,0⟩],0⟩
def dt (e:aa):aF:=
 ⟨e.title,[⟨bZ,⟨#[]⟩,[ga iK e.dots,ga cF e.blank,ga bO e.marked],0⟩,⟨aX,⟨#[]⟩,[ga fJ e.scan,ga fL e.batch],0⟩,⟨af,⟨#[]⟩,[⟨eA,e.prec,0⟩],0⟩]
  ++e.cont.map eI++e.styl.map (eT e.prec (e.cont.map (·.name)))
  ++[⟨bP,⟨#[]⟩,[⟨dZ,[⟨(ib e.risk.q).toArray⟩],0⟩,⟨gJ,[e.seed],0⟩],0⟩,⟨bB,⟨#[]⟩,[ga iL e.cell],0⟩]⟩
def gw {α:Type} (f:α->α->Bool):List α->List α->Bool
 | [],[]=>true
 | x::l,y::m=>f x y&&gw f l m
 | _,_=>false
def gd (a b:aa):Bool:=
 decide (a.title=b.title)&&(decide (a.dots=b.dots)&&(decide (a.blank=b.blank)&&(decide (a.marked=b.marked)&&(decide (a.prec=b.prec)&&(gw aU a.cont b.cont&&(gw be a.styl b.styl
  &&(decide (a.scan=b.scan)&&(decide (a.batch=b.batch)&&(decide (m8 a.risk.q b.risk.flip.q=0)&&(decide (a.cell=b.cell)&&decide (a.seed=b.seed)))))))))))
def gy (e:aa):Bool:=decide ((bj (dt e)).2.no=0)&&(e.risk.valid&&gd (bj (dt e)).1 e)
def dc (l:List ByteArray) (s:ByteArray):Bool:=decide (0<=Lib.idxOfS l s)
def dG.note (f:dG) (no line:Int):dG:=if f.no=0/\no≠0 then⟨no,line⟩ else f
def mT (s:ByteArray):Bool:=decide (1<=(s.size:Int))&&(decide ((s.size:Int)<=24)&&fY s.data.toList)
def jM (l:List UInt8):Bool:=l.all digitB&&(decide (1<=l.length)&&(decide (l.length<=6)&&(decide (l.length=1)||!(l.head?==some 48))))
def cP (n:Int) (c:UInt8):Int:=10*n+(c.toNat:Int)-48
def cW (l:List UInt8):Int×Bool:=((l.take 6).foldl cP 0,jM l)
def iu (l:List UInt8):Bool:=decide (l≠[])&&(((l.head?.map fl).getD false)&&decide ((l.takeWhile jm).length=l.length))
def bf (l:List ByteArray):ByteArray:=if l.length≠1 then⟨#[]⟩ else l.getD 0 ⟨#[]⟩
def cZ (l:List ByteArray):Int:=if l.length≠1 then 7 else 0
def lm (l:List ByteArray):Int:=(cW (bf l).data.toList).1
def qY (l:List ByteArray) (low high:Int):Int:=
 if l.length≠1 then 7 else if(cW (bf l).data.toList).2=false then 5 else if lm l<low\/high<lm l then 4 else 0
def jT (l words:List ByteArray):Int:=Lib.idxOfS words (bf l)+1
def pk (l words:List ByteArray):Int:=if l.length≠1 then 7 else if Lib.idxOfS words (bf l)<0 then 2 else 0
def dR (l:List UInt8):Int×Raw:=
 if iJ l=false\/((cW (dy l)).2&&(cW (dw l)).2)=false then(5,⟨false,[],[]⟩)
 else if(cW (dw l)).1=0\/1000*(cW (dy l)).1<(cW (dw l)).1\/(cW (dw l)).1<2*(cW (dy l)).1 then(4,⟨false,[],[]⟩)
 else(0,(dN false (cW (dy l)).1.toNat (cW (dw l)).1.toNat).raw)
def jZ (l:List ByteArray):Int:=if l.length≠1 then 7 else(dR (bf l).data.toList).1
def mN (l:List ByteArray):Int:=if l.length≠1 then 7 else if bf l≠⟨#[]⟩/\mT (bf l)=false then 8 else 0
def gg:List ByteArray:=[⟨#[105,114,118]⟩,⟨#[109,101,101,107]⟩,⟨#[103,114,101,103,111,114,121]⟩]
def kF:List ByteArray:=[⟨#[98,97,99,107,119,97,114,100,115]⟩,⟨#[102,111,114,119,97,114,100,115]⟩,⟨#[108,111,116]⟩]
def kH:List ByteArray:=[⟨#[115,116,111,112]⟩,⟨#[115,107,105,112]⟩]
def kG:List ByteArray:=[⟨#[99,108,111,115,101]⟩,⟨#[115,116,111,112]⟩,⟨#[116,119,111]⟩]
def kg (c:ae) (f:ai):ae×Int:=
 if f.key=bg then({ c with method:=jT f.vals gg },pk f.vals gg)
 else if f.key=bH then({ c with seats:=lm f.vals },qY f.vals 1 5)
 else if f.key=gB then({ c with ranks:=lm f.vals },qY f.vals 1 7)
 else if f.key=aH then({ c with digits:=lm f.vals },qY f.vals 1 6)
 else if f.key=il then({ c with ties:=jT f.vals kF },pk f.vals kF)
 else if f.key=ck then({ c with over:=jT f.vals kH },pk f.vals kH)
 else if f.key=im then({ c with skip:=jT f.vals kG },pk f.vals kG)
 else({ c with cands:=f.vals },dl f.vals 7)
def cG (kind key:ByteArray):List UInt8:=kind.data.toList++32::key.data.toList
def gT (kind:ByteArray) (e:aa) (f:ai):aa×Int:=
 if cG kind f.key=cG bZ iK then({ e with dots:=lm f.vals },qY f.vals 2 7)
 else if cG kind f.key=cG bZ cF then({ e with blank:=lm f.vals },qY f.vals 1 100)
 else if cG kind f.key=cG bZ bO then({ e with marked:=lm f.vals },qY f.vals 1 100)
 else if cG kind f.key=cG aX fJ then({ e with scan:=lm f.vals },qY f.vals 1 6)
 else if cG kind f.key=cG aX fL then({ e with batch:=lm f.vals },qY f.vals 1 16)
 else if cG kind f.key=cG af eA then({ e with prec:=f.vals },dl f.vals 12)
 else if cG kind f.key=cG bP dZ then({ e with risk:=(dR (bf f.vals).data.toList).2 },jZ f.vals)
 else if cG kind f.key=cG bP gJ then({ e with seed:=bf f.vals },mN f.vals)
 else if cG kind f.key=cG bB iL then({ e with cell:=lm f.vals },qY f.vals 1 400)
 else(e,0)
structure eD where
 e:aa
 seen:List ByteArray
 lines:List (Int×Int)
 names:List (List ByteArray×List ByteArray)
 f:dG
def eD.note (t:eD) (no line:Int):eD:={ t with f:=t.f.note no line }
def ij (kind:ByteArray):Bool:=decide (kind=ar)||decide (kind=aG)
def jq (t:eD) (kind nm:ByteArray):Int:=
 if aO kind=[] then 2
 else if ij kind=true/\nm=⟨#[]⟩ then 6
 else if ij kind=true/\(iu nm.data.toList=false\/24<nm.size) then 8
 else if ij kind=true/\((kind=ar/\(t.e.cont.any λc=>decide (c.name=nm))=true)\/(kind=aG/\(t.e.styl.any λc=>decide (c.name=nm))=true)) then 3
 else if(kind=ar/\4<=t.e.cont.length)\/(kind=aG/\6<=t.e.styl.length) then 7
 else if ij kind=false/\nm≠⟨#[]⟩ then 2
 else if ij kind=false/\dc t.seen kind=true then 3
 else 0
structure em where
 e:aa
 f:dG
 known:List ByteArray
 c:ae
 n0:List ByteArray
 n1:List ByteArray
 l0:Int
 l1:Int
 digits:Int
 seats:Int
def ae.zero:ae:=⟨⟨#[]⟩,[],0,0,0,0,0,0,0⟩
def eK (kind:ByteArray) (x:em) (f:ai):em:=
 let f2:=(x.f.note (if dc (aO kind) f.key=true then 0 else 2) f.line).note (if dc x.known f.key=true then 3 else 0) f.line
 let y:={ x with f:=f2,known:=x.known++[f.key] }
 if f2.no≠0 then y
 else if kind=ar then
  { y with c:=(kg x.c f).1,f:=f2.note (kg x.c f).2 f.line,digits:=if f.key=aH then f.line else x.digits,seats:=if f.key=bH then f.line else x.seats }
 else if kind=aG/\f.key=af then { y with n0:=f.vals,l0:=f.line,f:=f2.note (dl f.vals 12) f.line }
 else if kind=aG then { y with n1:=f.vals,l1:=f.line,f:=f2.note (dl f.vals 4) f.line }
 else { y with e:=(gT kind x.e f).1,f:=f2.note (gT kind x.e f).2 f.line }
def dj (kind:ByteArray):List ai->em->em
 | [],x=>x
 | f::l,x=>if x.f.no≠0 then x else dj kind l (eK kind x f)
def fx (known:List ByteArray) (method line:Int):List ByteArray->dG->dG
 | [],f=>f
 | k::l,f=>if f.no≠0 then f else fx known method line l (f.note (if dc known k=true\/(k=aH/\method≠2) then 0 else 6) line)
def sk (t:eD) (x:ak) (y:em):eD:=
 let f:=fx y.known y.c.method x.line (aO x.kind) y.f
 let s:={ t with e:=y.e,f:=f,seen:=t.seen++[x.kind] }
 if f.no≠0 then s
 else if x.kind=ar then
  { s with e:={ y.e with cont:=y.e.cont++[{ y.c with name:=x.name }] },f:=(f.note (if dc y.known aH=true/\y.c.method≠2 then 5 else 0) y.digits).note (if y.c.method=1/\1<y.c.seats then 4 else 0) y.seats }
 else if x.kind=aG then
  { s with e:={ y.e with styl:=y.e.styl++[⟨x.name,[],[]⟩] },names:=t.names++[(y.n0,y.n1)],lines:=t.lines++[(y.l0,y.l1)] }
 else if x.kind=bZ/\y.e.marked<y.e.blank then s.note 4 x.line
 else s
def em.start (t:eD) (x:ak):em:=⟨t.e,t.f.note (jq t x.kind x.name) x.line,[],ae.zero,[],[],0,0,0,0⟩
def fM (t:eD) (x:ak):eD:=sk t x (dj x.kind x.fields (em.start t x))
def cz:List ak->eD->eD
 | [],t=>t
 | x::l,t=>if t.f.no≠0 then t else cz l (fM t x)
def o0 (names:List ByteArray) (line:Int):List ByteArray->List Int->Except dG (List Int)
 | [],cY=>.ok cY
 | s::l,cY=>if Lib.idxOfS names s<0 then .error ⟨2,line⟩ else o0 names line l (cY++[Lib.idxOfS names s])
def iW (prec conts:List ByteArray):List (List ByteArray×List ByteArray)->List (Int×Int)->List aj->List Bool->List aj->Except dG (List aj)
 | v::vs,ln::lns,s::ss,used,done=>
  match cR prec ln.1 v.1 used [] with
  | .error e=>.error e
  | .ok (mJ,ps)=>
   match o0 conts ln.2 v.2 [] with
   | .error e=>.error e
   | .ok cs=>iW prec conts vs lns ss mJ (done++[⟨s.name,ps,cs⟩])
 | _,_,_,used,done=>if used.contains false then .error ⟨6,0⟩ else .ok done
def j3 (t:eD):Except dG (List aj):=iW t.e.prec (t.e.cont.map (·.name)) t.names t.lines t.e.styl (List.replicate t.e.prec.length false) []
def eD.start (title:ByteArray):eD:=⟨{ aa.zero with title:=title },[],[],[],(⟨0,0⟩:dG).note (if 60<title.size\/fY title.data.toList=false then 8 else 0) 0⟩
def ik:List ByteArray:=[bZ,aX,af,ar,aG,bP,bB]
def bY (s:aF):eD:=
 let t:=cz s.blocks (eD.start s.title)
 { t with f:=ik.foldl (λf k=>f.note (if dc t.seen k=true then 0 else 6) 0) t.f }
def eJ (s:aF):aa×dG:=
 if(bY s).f.no≠0 then(aa.zero,(bY s).f)
 else match j3 (bY s) with
  | .error e=>(aa.zero,e)
  | .ok l=>({ (bY s).e with styl:=l },⟨0,0⟩)
def DD (n:Int):ByteArray:=if n<0\/999999<n then⟨#[]⟩ else⟨(bq n.toNat).toArray⟩
def oz (n:Int) (l:List ByteArray):ByteArray:=if n<1\/(l.length:Int)<n then⟨#[]⟩ else l.getD (n.toNat-1) ⟨#[]⟩
def dJ (k:ByteArray) (n:Int):ai:=⟨k,[DD n],0⟩
def fB (k:ByteArray) (n:Int) (l:List ByteArray):ai:=⟨k,[oz n l],0⟩
def dE (c:ae):ak:=
 ⟨ar,c.name,[fB bg c.method gg,dJ bH c.seats,dJ gB c.ranks]++(if c.method=2 then[dJ aH c.digits] else[])++[fB il c.ties kF,fB ck c.over kH,fB im c.skip kG,⟨fK,c.cands,0⟩],0⟩
def dp (e:aa):aF:=
 ⟨e.title,[⟨bZ,⟨#[]⟩,[dJ iK e.dots,dJ cF e.blank,dJ bO e.marked],0⟩,⟨aX,⟨#[]⟩,[dJ fJ e.scan,dJ fL e.batch],0⟩,⟨af,⟨#[]⟩,[⟨eA,e.prec,0⟩],0⟩]
  ++e.cont.map dE++e.styl.map (eT e.prec (e.cont.map (·.name)))
  ++[⟨bP,⟨#[]⟩,[⟨dZ,[⟨(ib e.risk.q).toArray⟩],0⟩,⟨gJ,[e.seed],0⟩],0⟩,⟨bB,⟨#[]⟩,[dJ iL e.cell],0⟩]⟩
def jL (e:aa):Bool:=
 decide (e.prec.length<=12)&&(decide (e.cont.length<=4)&&(decide (e.styl.length<=6)&&(decide (e.risk.num.length<=1)&&(decide (e.risk.den.length<=1)
  &&(e.cont.all (λc=>decide (c.cands.length<=7))&&e.styl.all (λs=>decide (s.prec.length<=12)&&decide (s.cont.length<=4)))))))
def EJ (a b:aa):Bool:=
 decide (a.title=b.title)&&(decide (a.dots=b.dots)&&(decide (a.blank=b.blank)&&(decide (a.marked=b.marked)&&(decide (a.scan=b.scan)&&(decide (a.batch=b.batch)&&(decide (a.cell=b.cell)&&(decide (a.seed=b.seed)
  &&(decide (a.risk.neg=b.risk.neg)&&(decide (a.risk.num=b.risk.num)&&(decide (a.risk.den=b.risk.den)&&(decide (a.prec=b.prec)&&(gw aU a.cont b.cont&&gw be a.styl b.styl))))))))))))
def fH (e:aa):Bool:=jL e&&(decide ((eJ (dp e)).2.no=0)&&EJ (eJ (dp e)).1 e)
end Go.Proofs.YtdbpbfglhbiadaaGreatDoor
