/- Nat1 NatM4 NatD NatL Elec -/
import Derived.Test.YtichkplomldgiaaGreatDoorJ01
import Derived.Test.YtichkplomldgiaaGreatDoorChecked
set_option maxHeartbeats 4000000
set_option maxRecDepth 100000
namespace Go.Proofs.YtichkplomldgiaaGreatDoor
open Go.RowKit
theorem Tryz.natTy:dO Tryz.prog 26 138 1 4:=dO.mk' (z:=.int .u32 0) Tryz.underlying26 (by kernel_rfl) rfl (by omega)
theorem Flat.limbs {w:World} {S:Nat->Prop} (l:List (BitVec 32)):Flat w S (l.map FI) l:=by
 have:∀(k:List (BitVec 32)),Flat w S (k.reverse.map FI) k.reverse:=by
  intro k;induction k with
  | nil=>exact .nil
  | cons x k ih=>
   rw[List.reverse_cons,List.map_append];exact .snoc ih rfl
 simpa using this l.reverse
theorem RS.limb_at {w:World} {S:Nat->Prop} {A:Option Addr} {n c:Nat} {xs:List (BitVec 32)} (h:RS w S A n c xs) {k:Nat} (hk:k<n) : ∃b o x,A=some ⟨b,o,none⟩/\S b/\xs[k]?=some x/\w.cell? ⟨b,o+k,none⟩=some (.int .u32 (x.toNat:Int)):=by
 obtain⟨b,o,x,cs,e,hb,hx,hr,hc⟩:=h.at_ hk;have fa:cs=[FI x]:=hr;subst fa;exact⟨b,o,x,e,hb,hx,by simpa[ak.sz,FI] using hc 0 _ rfl⟩
theorem RS.limbsAt {w:World} {S:Nat->Prop} {ad:Addr} {n c:Nat} {bs:List (BitVec 32)} (h:RS w S (some ad) n c bs):bb w ad (bs.map FI):=by
 obtain⟨h1,h2,_,h3⟩:=h;intro j u hj;rw[List.getElem?_map,Option.map_eq_some_iff] at hj;obtain⟨x,hx,rfl⟩:=hj;obtain⟨b,o,e,_,he⟩:=h3 (by have:=ji hx;omega);injection e with e
 subst e;obtain⟨cs,hr,hc⟩:=he j x hx;have fa:cs=[FI x]:=hr;subst fa;have:=hc 0 _ rfl;rw[dz] at this;simpa[ak.sz] using this
def Xo {α:Type} [ak α] (w:World) (S:Nat->Prop) (xs:List α) (e:Ending) (w':World):Prop:=∃A n c,e=.returned (.slice A n c)/\RS w S A n c xs/\w=w'
def ba (_:Nat):Prop:=False
def lE {α:Type} [ak α] (w:World) (e:TypeId) (xs:List α) (en:Ending) (w':World):Prop:=
 ∃v',en=.returned v'/\Own w' ba w.heap.size e v' xs/\Below w.heap.size w w'
theorem Own.empty {α:Type} [ak α] (w:World) (e:TypeId):Own (w.alloc (.cells #[] e)) ba w.heap.size e (.slice (some ⟨w.heap.size,0,none⟩) 0 0) ([]:List α):=
 ⟨[],⟨by simp,.inr ⟨w.heap.size,0,#[],rfl,Nat.le_refl _,heap_alloc_new _ _,Nat.le_refl _,Nat.zero_le _,by simp,by simp⟩⟩,.nil,λ_ h=>h.elim⟩
theorem Own.base_le {α:Type} [ak α] {w:World} {S:Nat->Prop} {base Kr:Nat} {e:TypeId} {v:Value} {xs:List α} (h:Own w S base e v xs) (hb:Kr<=base):Own w S Kr e v xs:=by
 obtain⟨cs,⟨h0,h1⟩,h2,h3⟩:=h;refine⟨cs,⟨h0,?_⟩,h2,h3⟩;rcases h1 with h1|⟨g,cap,cur,q1,q2,q3⟩
 ·exact .inl h1
 ·exact .inr ⟨g,cap,cur,q1,Nat.le_trans hb q2,q3⟩
theorem vi {l:List (BitVec 32)} {k:Nat} {x:BitVec 32} (hx:l[k]?=some x):bA (l.take (k+1))=if x=0#32 then bA (l.take k) else l.take (k+1):=by
 rw[kX hx];split
 ·rename_i h;rw[h];exact lX _
 ·rename_i h;exact vj h
theorem cy {S:Nat->Prop} {A:Option Addr} {n c:Nat} {xs:List (BitVec 32)} {w:World} (h:RS w S A n c xs) : Calls Tryz.prog 200 #[.slice A n c] w (Xo w S (bA xs)):=by
 have H:=zH h;have hmax:=h.max;have hcap:=h.cap;have HL:=zH h.len;clear h;go_enter Tryz.func200,Tryz.ntmps200;go_wp2_with fail
 go_loop [3] (λv=>∃k:Nat,k<=n/\v=.int .i64 k/\bA (xs.take k)=bA xs) (λv=>(intOf v).toNat)
 case atStart=>exact⟨n,Nat.le_refl _,rfl,by rw[List.take_of_length_le (by rw[HL.out];exact Nat.le_refl _)]⟩
 case round=>
  obtain⟨k,hk,rfl,ht⟩:=hrel;have HT:=zH ht;clear ht;rcases k with _|k
  ·go_wp2_with fail;go_ret
   have:bA xs=[]:=by rw[<-HT.out];rfl
   rw[this];exact⟨_,_,_,rfl,RS.nil _ _,rfl⟩
  ·obtain⟨b,o,x,rfl,_,hx,e1⟩:=H.out.limb_at (k:=k) (by omega);have hs:=vi hx;have oV:(k:Int)<(n:Int):=by omega
   by_cases h0:x=0#32
   ·have hb:((x.toNat:Int)==0)=true:=by rw[h0];rfl
    rw[if_pos h0,HT.out] at hs;have HS:=zH hs;clear hs h0 hx;go_wp2_with fail;go_round
    case rel=>exact⟨k,by omega,by go_num,HS.out.symm⟩
    case measure=>simp[intOf]
   ·have hb:((x.toNat:Int)==0)=false:=by
     rw[beq_eq_false_iff_ne];intro h;exact h0 (hJ.2 (by omega))
    rw[if_neg h0,HT.out] at hs;have HS:=zH hs;have Vw:(k:Int)+1<=(c:Int):=by omega
    clear hs h0 hx;go_wp2_with fail;go_ret
    refine⟨_,_,_,rfl,?_,rfl⟩;rw[HS.out];exact H.out.take hk
theorem qm {S:Nat->Prop} {A:Option Addr} {n c:Nat} {bs:List (BitVec 32)} {w:World} (h:RS w S A n c bs) (hl:n<=1099511627776) : Calls Tryz.prog 234 #[.slice A n c] w (lE w 138 bs):=by
 have H:=zH h;clear h;have hq:=Lib.run_eql_slice_nil w 26 138 A n c 0 0 Tryz.underlying26;go_enter Tryz.func234,Tryz.ntmps234;cases A with
 | none=>
  go_wp2_with fail;go_ret
  have hn:n=0:=by
   rcases Nat.eq_zero_or_pos n with h|h
   ·exact h
   ·obtain⟨_,_,e,_⟩:=H.out.2.2.2 h;cases e
  have hb:bs=[]:=List.eq_nil_of_length_eq_zero (H.out.len.trans hn);subst hb;exact⟨_,rfl,Own.nil _ _ _,Below.refl _ _⟩
 | some ad=>
  have ZD:bb (w.alloc (.cells #[] 138)) ad (bs.map FI):=by
   intro j u hj;have h0:=H.out.limbsAt j u hj;exact(World.cell?_alloc_lt w _ _ (World.block_lt_of_cell? w _ h0)).trans h0
  have HC:=zH ZD;have HL:=zH H.out.len;clear ZD;go_wp2_with (at_builtin; refine di (α:=BitVec 32) rfl _ _ 26 rfl 4 Tryz.natTy rfl (Own.empty w 138) ad n c _ bs rfl HL.out.symm (Flat.limbs bs) HC.out (by simp[Value.oneCell',FI]) (by have:=HL.out;simp;omega) (by simp) ?_; intro v2 w2 hown2 hg2 Et; have BB:=zH hown2; have fM:=zH (((Below.refl w.heap.size w).alloc (Nat.le_refl _) (.cells #[] 138)).grown hg2 (by simp) (λk hk=>by injection hk with hk;exact Nat.le_of_eq hk)); clear hown2 hg2 Et);go_ret
  exact⟨_,rfl,BB.out,fM.out⟩
theorem fj {S:Nat->Prop} {A:Option Addr} {n c:Nat} {xs:List (BitVec 32)} {w:World} (h:RS w S A n c xs) (hl:n<=1099511627776) : Calls Tryz.prog 232 #[.slice A n c] w (lE w 138 (bC (val xs))):=by
 have H:=zH h;have HL:=zH h.len;clear h;go_enter Tryz.func232,Tryz.ntmps232;go_wp2_with fail;refine(cy H.out).mono ?_;rintro e w' ⟨A1,n1,c1,rfl,hr,rfl⟩;have hn1:n1<=1099511627776:=by
  have:=aR xs;have:=hr.len;have:=HL.out;omega
 have HR:=zH hr;clear hr;go_wp2_with fail;refine(qm HR.out hn1).mono ?_;rintro e w2 ⟨v,rfl,ho,hb⟩;have HO:=zH ho;have HB:=zH hb;clear ho hb;go_wp2_with fail;go_ret
 exact⟨_,rfl,by rw[bR];exact HO.out,HB.out⟩
theorem fS {S:Nat->Prop} {A:Option Addr} {n c:Nat} {xs:List (BitVec 32)} {w:World} (i:Nat) (h:RS w S A n c xs) : Calls Tryz.prog 257 #[.slice A n c,.int .i64 i] w (uM w (.int .u64 ((xs.getD i 0#32).toNat:Int))):=by
 have H:=zH h;have HL:=zH h.len;clear h;by_cases hi:i<n
 ·obtain⟨b,o,x,rfl,_,hx,e1⟩:=H.out.limb_at hi;have hg:xs.getD i 0#32=x:=by rw[List.getD_eq_getElem?_getD,hx];rfl
  have hlt:=x.isLt;have hw:IntKind.u64.wrap (x.toNat:Int)=(x.toNat:Int):=by rw[IntKind.wrap_u64];omega
  rw[hg];have hii:(i:Int)<(n:Int):=by omega
  clear hg hx hlt;go_enter Tryz.func257,Tryz.ntmps257;go_wp2_with fail;go_ret
  exact⟨rfl,rfl⟩
 ·have hg:xs.getD i 0#32=0#32:=by rw[List.getD_eq_getElem?_getD,List.getElem?_eq_none (by rw[HL.out];omega)];rfl
  rw[hg];have hii:¬(i:Int)<(n:Int):=by omega
  clear hg;go_enter Tryz.func257,Tryz.ntmps257;go_wp2_with fail;go_ret
  exact⟨rfl,rfl⟩
theorem tD (a x:Nat) (hx:x<4294967296):a*4294967296||| x=a*4294967296+x:=by
 have:a*4294967296=a <<< 32:=by rw[Nat.shiftLeft_eq]
 rw[this,Nat.shiftLeft_add_eq_or_of_lt (by simpa using hx)]
theorem fN {l:List (BitVec 32)} {k:Nat} {x:BitVec 32} (hx:l[k]?=some x):val (l.drop k)=x.toNat+4294967296*val (l.drop (k+1)):=by
 obtain⟨hk,e⟩:=List.getElem?_eq_some_iff.1 hx;rw[List.drop_eq_getElem_cons hk,e,val]
theorem jL {l:List (BitVec 32)} {k:Nat} (x:BitVec 32) (h:k<l.length):(l.set k x).drop k=x::l.drop (k+1):=by
 rw[List.drop_eq_getElem_cons (by simpa using h),List.getElem_set_self,List.drop_set_of_lt (by omega)]
theorem vz {a r d x Q V B:Nat} (hx:r*B+a=x) (h:Q*d+r=V):(x/d+B*Q)*d+x%d=a+B*V:=by
 have e:=Nat.div_add_mod x d;have e1:(x/d+B*Q)*d=d*(x/d)+B*(Q*d):=by grind
 have e2:B*V=B*(Q*d)+r*B:=by rw[<-h];grind
 omega
theorem CE {a r d x:Nat} (hr:r<d) (ha:a<4294967296) (hx:r*4294967296+a=x):x/d<4294967296:=by
 apply Nat.div_lt_of_lt_mul;have:(r+1)*4294967296<=d*4294967296:=Nat.mul_le_mul_right _ (by omega);omega
theorem qi {q d r v:Nat} (h:q*d+r=v) (hr:r<d):q=v/d/\r=v%d:=by
 subst h;constructor
 ·rw[Nat.mul_comm,Nat.mul_add_div (by omega),Nat.div_eq_of_lt hr];rfl
 ·rw[Nat.mul_comm,Nat.mul_add_mod,Nat.mod_eq_of_lt hr]
theorem Lh (c a s:Nat) (hc:c<2^s):c||| a*2^s=c+a*2^s:=by
 have:a*2^s=a <<< s:=by rw[Nat.shiftLeft_eq]
 rw[this,Nat.or_comm,<-Nat.shiftLeft_add_eq_or_of_lt hc,Nat.add_comm]
theorem tK (x s:Nat) (hs:s<=32):x*2^s%4294967296=x%2^(32-s)*2^s:=by
 have e:4294967296=2^(32-s)*2^s:=by
  have:32-s+s=32:=by omega
  rw[<-Nat.pow_add,this]
 rw[e,Nat.mul_mod_mul_right]
theorem HJ {c x s:Nat} (hc:c<2^s) (hs:s<=32):c||| x*2^s%4294967296=c+x*2^s%4294967296:=by
 rw[tK x s hs];exact Lh _ _ _ hc
theorem HW {x s:Nat} (hx:x<4294967296):x*2^s/4294967296<2^s:=by
 apply Nat.div_lt_of_lt_mul;have:=Nat.two_pow_pos s;exact Nat.mul_lt_mul_of_lt_of_le hx (Nat.le_refl _) this
theorem left_step {v p c x y A B:Nat} (h:v+p*c=A*y):(v+p*(c+x*y%B))+p*B*(x*y/B)=(A+p*x)*y:=by
 have e:p*(x*y%B)+p*B*(x*y/B)=p*(x*y):=by
  rw[Nat.mul_assoc,<-Nat.mul_add,Nat.mod_add_div]
 rw[Nat.add_mul,<-h,Nat.mul_add,Nat.mul_assoc p x y];omega
theorem tp {x y r s:Nat} (hs:s<=32):((x+4294967296*(y+4294967296*r))/2^s)%4294967296=((x+4294967296*y)/2^s)%4294967296:=by
 have e:4294967296=2^s*2^(32-s):=by
  have:s+(32-s)=32:=by omega
  rw[<-Nat.pow_add,this]
 have h1:x+4294967296*(y+4294967296*r)=(x+4294967296*y)+2^s*(2^(32-s)*r*4294967296):=by
  have:4294967296*(4294967296*r)=2^s*(2^(32-s)*r*4294967296):=by
   conv=>lhs;rw[<-Nat.mul_assoc,Nat.mul_comm 4294967296 4294967296,Nat.mul_assoc]
   have:4294967296*r=2^s*(2^(32-s)*r):=by rw[<-Nat.mul_assoc,<-e]
   rw[this]
   grind
  rw[Nat.mul_add,this];omega
 rw[h1,Nat.add_mul_div_left _ _ (Nat.two_pow_pos s),Nat.add_mul_mod_self_right]
theorem Dm (Q k:Nat):Q%4294967296^(k+1)=Q%4294967296^k+4294967296^k*(Q/4294967296^k%4294967296):=by
 rw[Nat.pow_succ,Nat.mod_mul]
theorem I0 (l:List (BitVec 32)) (k:Nat):val l/4294967296^k=val (l.drop k):=by
 rcases Nat.lt_or_ge k l.length with h|h
 ·have h1:=cf l k (by omega);have h2:=cE (l.take k);have hl:(l.take k).length=k:=by simp;omega
  rw[hl] at h2;rw[h1,Nat.add_comm,Nat.mul_add_div (by omega),Nat.div_eq_of_lt h2];rfl
 ·rw[List.drop_eq_nil_of_le h];apply Nat.div_eq_of_lt;exact Nat.lt_of_lt_of_le (cE l) (Nat.pow_le_pow_right (by omega) h)
theorem jD (l:List (BitVec 32)) (k:Nat):val (l.drop k)=(l.getD k 0#32).toNat+4294967296*val (l.drop (k+1)):=by
 rcases Nat.lt_or_ge k l.length with h|h
 ·have hx:l[k]?=some (l.getD k 0#32):=by rw[List.getD_eq_getElem?_getD,List.getElem?_eq_getElem h];rfl
  exact fN hx
 ·rw[List.drop_eq_nil_of_le h,List.drop_eq_nil_of_le (by omega),List.getD_eq_getElem?_getD,List.getElem?_eq_none h];simp[val]
theorem right_step (l:List (BitVec 32)) (k s:Nat) (hs:s<=32):val l/2^s/4294967296^k%4294967296=(((l.getD k 0#32).toNat+4294967296*(l.getD (k+1) 0#32).toNat)/2^s)%4294967296:=by
 rw[Nat.div_div_eq_div_mul,Nat.mul_comm,<-Nat.div_div_eq_div_mul,I0,jD,jD l (k+1),tp hs]
section
variable {P B U V T h v2 u2 ul vl q r:Nat}
theorem uf (hU:U=P*(T*B+u2)+ul) (FP:ul<P) (kR:u2<B) (hV:V=P*(h*B+v2)+vl) (hh:0<h):U/V<=T/h:=by
 rw[Nat.le_div_iff_mul_le hh];rcases Nat.lt_or_ge T (U/V*h) with hc|hc
 ·exfalso
  have h1:U/V*V<=U:=Nat.div_mul_le_self U V;have h2:(T+1)*(P*B)<=U/V*h*(P*B):=Nat.mul_le_mul_right _ hc;have h3:U/V*h*(P*B)<=U/V*V:=by
   rw[Nat.mul_assoc];apply Nat.mul_le_mul_left;rw[hV];have:h*(P*B)=P*(h*B):=by grind
   rw[this,Nat.mul_add];omega
  have h4:U<(T+1)*(P*B):=by
   have e:(T+1)*(P*B)=P*(T*B)+P*B:=by grind
   have e2:P*(T*B+u2)=P*(T*B)+P*u2:=by grind
   have e3:P*u2+P<=P*B:=by
    rw[<-Nat.mul_succ];exact Nat.mul_le_mul_left _ kR
   omega
  omega
 ·exact hc
theorem AM (hU:U=P*(T*B+u2)+ul) (FP:ul<P) (hV:V=P*(h*B+v2)+vl) (hq:q*h+r=T) (ht:r*B+u2<q*v2):U/V<q:=by
 apply Nat.div_lt_of_lt_mul;have h1:P*(T*B+u2+1)<=P*(q*(h*B+v2)):=by
  apply Nat.mul_le_mul_left;have e:q*(h*B+v2)=q*h*B+q*v2:=by grind
  have e2:T*B=q*h*B+r*B:=by rw[<-hq,Nat.add_mul]
  omega
 have h2:P*(q*(h*B+v2))<=V*q:=by
  have e:V*q=P*(q*(h*B+v2))+vl*q:=by rw[hV];grind
  omega
 have e3:P*(T*B+u2+1)=P*(T*B+u2)+P:=by grind
 omega
theorem kd (hU:U=P*(T*B+u2)+ul) (hV:V=P*(h*B+v2)+vl) (Bs:vl<P) (hh:0<h) (hq:q*h+r=T) (Zi:q<B) (ht:q*v2<=r*B+u2):q<=U/V+1:=by
 have h1:q*V<=U+q*vl:=by
  have e:q*V=P*(q*(h*B+v2))+q*vl:=by rw[hV];grind
  have e2:q*(h*B+v2)<=T*B+u2:=by
   have e3:q*(h*B+v2)=q*h*B+q*v2:=by grind
   have e4:T*B=q*h*B+r*B:=by rw[<-hq,Nat.add_mul]
   omega
  have:=Nat.mul_le_mul_left P e2;omega
 have h2:q*vl<V:=by
  have e:q*vl<=B*P:=Nat.mul_le_mul (by omega) (by omega);have e2:P*B<=P*(h*B+v2):=Nat.mul_le_mul_left _ (by have:=Nat.le_mul_of_pos_left B hh;omega);have e3:q*vl<B*P\/q*vl=B*P:=by omega
  rcases e3 with e3|e3
  ·have:B*P=P*B:=Nat.mul_comm _ _;omega
  ·have hP:0<P:=by omega
   have:q*vl<B*P:=Nat.mul_lt_mul_of_lt_of_le Zi (by omega) hP;omega
 have MH:0<V:=by omega
 rcases Nat.lt_or_ge (U/V+1) q with hc|hc
 ·exfalso
  have h3:U<V*(U/V+1):=by
   have:=Nat.lt_mul_div_succ U MH;exact this
  have h4:V*(U/V+1)+V<=q*V:=by
   have:(U/V+1+1)*V<=q*V:=Nat.mul_le_mul_right _ hc;have e:(U/V+1+1)*V=V*(U/V+1)+V:=by grind
   omega
  omega
 ·exact hc
theorem nU (hq:q*h+r=T) (hT:T<(h+1)*B) (hr:B<=r) (fW:v2<B):q<B/\q*v2<=r*B+u2:=by
 have h1:q<B:=by
  rcases Nat.lt_or_ge q B with hc|hc
  ·exact hc
  ·exfalso
   have:B*h<=q*h:=Nat.mul_le_mul_right _ hc;have e:(h+1)*B=B*h+B:=by grind
   omega
 refine⟨h1,?_⟩;have e1:q*v2<=B*B:=Nat.mul_le_mul (by omega) (by omega);have e2:B*B<=r*B:=Nat.mul_le_mul_right _ hr;omega
theorem AL (hU:U=P*(T*B+u2)+ul) (hV:V=P*(h*B+v2)+vl) (Bs:vl<P) (fW:v2<B) (hlt:U<V*B):T<(h+1)*B:=by
 rcases Nat.lt_or_ge T ((h+1)*B) with hc|hc
 ·exact hc
 ·exfalso
  have h1:P*((h+1)*B*B)<=P*(T*B+u2):=Nat.mul_le_mul_left _ (by have:=Nat.mul_le_mul_right B hc;omega);have h2:V<P*((h+1)*B):=by
   have e:P*((h+1)*B)=P*(h*B)+P*B:=by grind
   have e2:P*(h*B+v2)=P*(h*B)+P*v2:=by grind
   have e3:P*v2+P<=P*B:=by rw[<-Nat.mul_succ];exact Nat.mul_le_mul_left _ fW
   omega
  have h3:V*B<=P*((h+1)*B)*B:=Nat.mul_le_mul_right _ (by omega);have e:P*((h+1)*B)*B=P*((h+1)*B*B):=by grind
  omega
end
theorem Ai {q c b x y p s P v vx vy B:Nat} (hB:B=4294967296) (hx:x<B) (hp:q*y+c=p) (hs:B+x-p%B-b=s) (hb:b<=1) (h:v+q*vy=vx+P*(c+b)) : (v+P*(s%B))+q*(vy+P*y)=(vx+P*x)+P*B*(p/B+(1-s/B)):=by
 have hm:=Nat.mod_lt p (show 0<B by omega);have e1:B*(p/B)+p%B=p:=Nat.div_add_mod p B;have e2:B*(s/B)+s%B=s:=Nat.div_add_mod s B;have hd:s/B<=1:=by
  have:s/B<2:=Nat.div_lt_of_lt_mul (by omega);omega
 obtain⟨m,h1⟩:∃m,p%B=m:=⟨_,rfl⟩;obtain⟨c',h2⟩:∃m,p/B=m:=⟨_,rfl⟩;obtain⟨t,h3⟩:∃m,s%B=m:=⟨_,rfl⟩;obtain⟨d,h4⟩:∃m,s/B=m:=⟨_,rfl⟩;rw[h1,h2] at e1;rw[h3,h4] at e2;rw[h1] at hs hm;rw[h4] at hd;rw[h2,h3,h4];obtain⟨g,hg⟩:∃g,1-d=g:=⟨_,rfl⟩;have e3:B*d+B*g=B:=by rw[<-Nat.mul_add,<-hg,show d+(1-d)=1 by omega,Nat.mul_one]
 have core:t+q*y+c+b=x+B*(c'+g):=by
  rw[Nat.mul_add];omega
 rw[hg];have Z9:P*(t+q*y+c+b)=P*(x+B*(c'+g)):=by rw[core]
 grind
theorem Dj {U V U' W q b:Nat} (hV:0<V) (hU':U'<W) (mz:U/V<=q) (mg:q<=U/V+1) (hb:b<=1) (h:U'+q*V=U+W*(0+b)) : (b=0->q=U/V/\U'=U%V)/\(0<b->q=U/V+1/\U'+V=W+U%V):=by
 have e1:V*(U/V)+U%V=U:=Nat.div_add_mod U V;have hm:=Nat.mod_lt U hV;obtain⟨d,hd⟩:∃d,U/V=d:=⟨_,rfl⟩;obtain⟨r,hr⟩:∃d,U%V=d:=⟨_,rfl⟩;rw[hd,hr] at e1;rw[hr] at hm;rw[hd] at mz mg;rw[hd,hr];rw[Nat.zero_add] at h;have ec:V*d=d*V:=Nat.mul_comm _ _;have es:(d+1)*V=d*V+V:=by rw[Nat.add_mul,Nat.one_mul]
 refine⟨λh0=>?_,λh0=>?_⟩
 ·subst h0;rw[Nat.mul_zero] at h;rcases Nat.lt_or_ge d q with hc|hc
  ·have:q=d+1:=by omega
   subst this;omega
  ·have:q=d:=by omega
   subst this;exact⟨rfl,by omega⟩
 ·have bp:b=1:=by omega
  subst bp;rw[Nat.mul_one] at h;rcases Nat.lt_or_ge d q with hc|hc
  ·have:q=d+1:=by omega
   subst this;exact⟨rfl,by omega⟩
  ·have:q=d:=by omega
   subst this;omega
theorem uJ {U' Xg V W R c:Nat} (hU:Xg<W) (h:Xg+W*c=U'+V) (he:U'+V=W+R) (hc:c<=1):Xg=R:=by
 rcases Nat.lt_or_ge 0 c with h0|h0
 ·have:c=1:=by omega
  subst this;omega
 ·have:c=0:=by omega
  subst this;omega
theorem mQ (us:List (BitVec 32)) (j m:Nat) (h:j+m<=us.length):val us=val (us.take j)+4294967296^j*(val ((us.drop j).take m)+4294967296^m*val (us.drop (j+m))):=by
 rw[cf us j (by omega),cf (us.drop j) m (by rw[List.length_drop];omega),List.drop_drop]
theorem KD {us:List (BitVec 32)} {j n V:Nat} (hj:j+(n+1)<=us.length) (dV:val (us.drop (j+1))<V):val ((us.drop j).take (n+1))<V*4294967296:=by
 have e1:=fN (l:=us) (k:=j) (x:=us[j]'(by omega)) (List.getElem?_eq_getElem (by omega));have hx:=(us[j]'(by omega)).isLt;have e2:=cf (us.drop j) (n+1) (by rw[List.length_drop];omega);omega
theorem vV {us kj:List (BitVec 32)} {j n V:Nat} (hj:j+(n+1)<=us.length) (hV:V<4294967296^n) (dV:val (us.drop (j+1))<V) (hlen:kj.length=us.length) (h1:kj.take j=us.take j) (h2:kj.drop (j+(n+1))=us.drop (j+(n+1))) (hw:val ((kj.drop j).take (n+1))=val ((us.drop j).take (n+1))%V) : val ((us.drop j).take (n+1))<V*4294967296/\val (kj.drop j)<V/\val us=val kj+4294967296^j*(V*(val ((us.drop j).take (n+1))/V)):=by
 have e1:=fN (l:=us) (k:=j) (x:=us[j]'(by omega)) (List.getElem?_eq_getElem (by omega));have hx:=(us[j]'(by omega)).isLt;have e2:=cf (us.drop j) (n+1) (by rw[List.length_drop];omega);have e3:=cf (kj.drop j) (n+1) (by rw[List.length_drop];omega);rw[List.drop_drop] at e2 e3;rw[h2] at e3;have e4:=mQ us j (n+1) hj;have e5:=mQ kj j (n+1) (by omega);rw[h1,h2] at e5;obtain⟨U,hU⟩:∃U,val ((us.drop j).take (n+1))=U:=⟨_,rfl⟩;obtain⟨R,hR⟩:∃U,val (us.drop (j+(n+1)))=U:=⟨_,rfl⟩;rw[hU] at hw e2 e4;rw[hR] at e2 e3 e4 e5;rw[hw] at e3 e5;rw[hU];have hlt:val (us.drop j)<V*4294967296:=by omega
 have hVB:V*4294967296<=4294967296^(n+1):=by rw[Nat.pow_succ];exact Nat.mul_le_mul_right _ (by omega)
 have hR0:R=0:=by
  rcases Nat.eq_zero_or_pos R with h0|h0
  ·exact h0
  ·have:=Nat.mul_le_mul_left (4294967296^(n+1)) h0;omega
 subst hR0;rw[Nat.mul_zero] at e2 e3 e4 e5;have hm:=Nat.mod_lt U (show 0<V by omega);have N4:V*(U/V)+U%V=U:=Nat.div_add_mod U V;refine⟨by omega,by omega,?_⟩;rw[e4,e5];obtain⟨d,hd⟩:∃d,U/V=d:=⟨_,rfl⟩;obtain⟨r,hr⟩:∃d,U%V=d:=⟨_,rfl⟩;rw[hd,hr] at N4;rw[hd,hr];rw[<-N4]
 grind
theorem xl {us kj:List (BitVec 32)} {j i:Nat} (z:BitVec 32) (hi:j+i<kj.length) (h1:kj.take j=us.take j) (h2:kj.drop (j+i)=us.drop (j+i)) : (kj.set (j+i) z).take j=us.take j/\(kj.set (j+i) z).drop (j+(i+1))=us.drop (j+(i+1))/\ val (((kj.set (j+i) z).drop j).take (i+1))=val ((kj.drop j).take i)+4294967296^i*z.toNat/\kj.getD (j+i) 0#32=us.getD (j+i) 0#32:=by
 refine⟨by rw[List.take_set_of_le (by omega),h1],?_,?_,?_⟩
 ·rw[List.drop_set_of_lt (by omega)];have h3:=congrArg (List.drop 1) h2
  rwa [List.drop_drop,List.drop_drop] at h3
 ·rw[List.drop_set,if_neg (by omega),show j+i-j=i by omega];exact cw z (by rw[List.length_drop];omega)
 ·have:(kj.drop (j+i))[0]?=(us.drop (j+i))[0]?:=by rw[h2]
  rw[List.getElem?_drop,List.getElem?_drop,Nat.add_zero] at this;rw[List.getD_eq_getElem?_getD,List.getD_eq_getElem?_getD,this]
structure ae where
 title:ByteArray
 dots:Int
 blank:Int
 marked:Int
 prec:List ByteArray
 cont:List ai
 styl:List ax
 scan:Int
 batch:Int
 risk:Raw
 cell:Int
 seed:ByteArray
def ae.zero:ae:=⟨⟨#[]⟩,0,0,0,[],[],[],0,0,⟨false,[],[]⟩,0,⟨#[]⟩⟩
def AS (e:ae) (vP vC vS vN vD:Value):List Value:=
 [.string e.title,.int .i64 e.dots,.int .i64 e.blank,.int .i64 e.marked,vP,vC,vS,.int .i64 e.scan,.int .i64 e.batch,.bool e.risk.neg,vN,vD,.int .i64 e.cell,.string e.seed]
instance:ak ae where
 sz:=14
 rep w S cs x:=∃A n c A2 n2 c2 A3 n3 c3 A4 n4 c4 A5 n5 c5,cs=AS x (.slice A n c) (.slice A2 n2 c2) (.slice A3 n3 c3) (.slice A4 n4 c4) (.slice A5 n5 c5)
  /\RS w S A n c x.prec/\RS w S A2 n2 c2 x.cont/\RS w S A3 n3 c3 x.styl/\RS w S A4 n4 c4 x.risk.num/\RS w S A5 n5 c5 x.risk.den
 len h:=by obtain⟨A,n,c,A2,n2,c2,A3,n3,c3,A4,n4,c4,A5,n5,c5,rfl,_⟩:=h;rfl
 keep h hS hk:=by
  obtain⟨A,n,c,A2,n2,c2,A3,n3,c3,A4,n4,c4,A5,n5,c5,rfl,h1,h2,h3,h4,h5⟩:=h;exact⟨A,n,c,A2,n2,c2,A3,n3,c3,A4,n4,c4,A5,n5,c5,rfl,h1.keep hS hk,h2.keep hS hk,h3.keep hS hk,h4.keep hS hk,h5.keep hS hk⟩
structure ao where
 kind:ByteArray
 name:ByteArray
 fields:List ay
 line:Int
instance:ak ao where
 sz:=4
 rep w S cs x:=∃A n c,cs=[.string x.kind,.string x.name,.slice A n c,.int .i64 x.line]/\RS w S A n c x.fields
 len h:=by obtain⟨A,n,c,rfl,_⟩:=h;rfl
 keep h hS hk:=by
  obtain⟨A,n,c,rfl,h1⟩:=h;exact⟨A,n,c,rfl,h1.keep hS hk⟩
structure aX where
 title:ByteArray
 blocks:List ao
instance:ak aX where
 sz:=2
 rep w S cs x:=∃A n c,cs=[.string x.title,.slice A n c]/\RS w S A n c x.blocks
 len h:=by obtain⟨A,n,c,rfl,_⟩:=h;rfl
 keep h hS hk:=by
  obtain⟨A,n,c,rfl,h1⟩:=h;exact⟨A,n,c,rfl,h1.keep hS hk⟩
structure cn where
 e:ae
 names:ByteArray->Option (List ByteArray)
 vals:List am
def cn.of (b:cn) (k:ByteArray):List ByteArray:=(b.names k).getD []
def eD:ByteArray:=⟨#[115,99,97,110,110,101,114,115]⟩
def ac:ByteArray:=⟨#[112,114,101,99,105,110,99,116,115]⟩
def nC:ByteArray:=⟨#[115,116,121,108,101]⟩
def j4:ByteArray:=⟨#[97,117,100,105,116]⟩
def fC:ByteArray:=⟨#[112,114,105,118,97,99,121]⟩
def pF:ByteArray:=⟨#[100,111,116,115]⟩
def lq:ByteArray:=⟨#[99,111,117,110,116]⟩
def lv:ByteArray:=⟨#[98,97,116,99,104]⟩
def j3:ByteArray:=⟨#[110,97,109,101,115]⟩
def lu:ByteArray:=⟨#[99,97,110,100,105,100,97,116,101,115]⟩
def lm:ByteArray:=⟨#[114,97,110,107,115]⟩
def pD:ByteArray:=⟨#[116,105,101,115]⟩
def fo:ByteArray:=⟨#[111,118,101,114,118,111,116,101]⟩
def pE:ByteArray:=⟨#[115,107,105,112]⟩
def pG:ByteArray:=⟨#[99,101,108,108]⟩
def au:ByteArray:=⟨#[99,111,110,116,101,115,116,115]⟩
def am.s (v:am) (k:ByteArray):List ByteArray:=(v.lst k).getD []
def gI (nm:ByteArray) (v:am):ai:=⟨nm,v.s lu,v.n bz,v.n cT,v.n lm,v.n bn,v.n pD,v.n fo,v.n pE⟩
def gR (kind nm:ByteArray) (v:am) (b:cn):cn:=
 if kind=fV then { b with e:={ b.e with dots:=v.n pF,blank:=v.n dJ,marked:=v.n cJ } }
 else if kind=eD then { b with e:={ b.e with scan:=v.n lq,batch:=v.n lv } }
 else if kind=ac then { b with e:={ b.e with prec:=v.s j3 } }
 else if kind=bZ then { b with e:={ b.e with cont:=b.e.cont++[gI nm v] } }
 else if kind=nC then { b with e:={ b.e with styl:=b.e.styl++[⟨nm,[],[]⟩] },vals:=b.vals++[v] }
 else if kind=j4 then { b with e:={ b.e with risk:=v.risk,seed:=v.seed } }
 else if kind=fC then { b with e:={ b.e with cell:=v.n pG } }
 else b
def bo (kind:ByteArray):List ay->am->dA×am
 | [],v=>(⟨0,0⟩,v)
 | f::l,v=>if(gr kind f v).1≠0 then(⟨(gr kind f v).1,f.line⟩,(gr kind f v).2) else bo kind l (gr kind f v).2
def cn.named (b:cn) (kind nm:ByteArray):cn:={ b with names:=eL b.names kind (b.of kind++[nm]) }
def ek (x:ao) (b:cn):dA×cn:=
 if fX x.kind x.name (b.of x.kind)≠0 then(⟨fX x.kind x.name (b.of x.kind),x.line⟩,b)
 else if(bo x.kind x.fields am.zero).1.no≠0 then((bo x.kind x.fields am.zero).1,b.named x.kind x.name)
 else if(bj x.kind x.line (bo x.kind x.fields am.zero).2).no≠0 then(bj x.kind x.line (bo x.kind x.fields am.zero).2,b.named x.kind x.name)
 else(⟨0,0⟩,gR x.kind x.name (bo x.kind x.fields am.zero).2 (b.named x.kind x.name))
def bf:List ao->cn->dA×cn
 | [],b=>(⟨0,0⟩,b)
 | x::l,b=>if(ek x b).1.no≠0 then ek x b else bf l (ek x b).2
def dZ (prec:List ByteArray) (line:Int):List ByteArray->List Bool->List Int->Except dA (List Bool×List Int)
 | [],used,fg=>.ok (used,fg)
 | s::l,used,fg=>
  if Lib.idxOfS prec s<0 then .error ⟨2,line⟩
  else if used.getD (Lib.idxOfS prec s).toNat false=true then .error ⟨3,line⟩
  else dZ prec line l (used.set (Lib.idxOfS prec s).toNat true) (fg++[Lib.idxOfS prec s])
def bi (nm:ByteArray):List ai->Nat->Int
 | [],_=>-1
 | c::l,i=>if c.name=nm then(i:Int) else bi nm l (i+1)
def dt (cont:List ai) (line:Int):List ByteArray->List Int->Except dA (List Int)
 | [],fg=>.ok fg
 | s::l,fg=>if bi s cont 0<0 then .error ⟨2,line⟩ else dt cont line l (fg++[bi s cont 0])
def fB (prec:List ByteArray) (cont:List ai):List am->List ax->List Bool->List ax->Except dA (List ax)
 | v::vs,s::ss,used,done=>
  match dZ prec (v.l ac) (v.s ac) used [] with
  | .error e=>.error e
  | .ok (OI,ps)=>
   match dt cont (v.l au) (v.s au) [] with
   | .error e=>.error e
   | .ok cs=>fB prec cont vs ss OI (done++[⟨s.name,ps,cs⟩])
 | _,_,used,done=>if used.contains false then .error ⟨6,0⟩ else .ok done
def kw (b:cn):Except dA (List ax):=fB b.e.prec b.e.cont b.vals b.e.styl (List.replicate b.e.prec.length false) []
def cn.start (title:ByteArray):cn:=⟨{ ae.zero with title:=title },λ_=>none,[]⟩
def aA (s:aX):ae×dA:=
 if de s.title 0 60=false then(ae.zero,⟨8,0⟩)
 else if(bf s.blocks (cn.start s.title)).1.no≠0 then(ae.zero,(bf s.blocks (cn.start s.title)).1)
 else if cG.any (λk=>decide ((bf s.blocks (cn.start s.title)).2.of k=[])) then(ae.zero,⟨6,0⟩)
 else match kw (bf s.blocks (cn.start s.title)).2 with
  | .error e=>(ae.zero,e)
  | .ok l=>({ (bf s.blocks (cn.start s.title)).2.e with styl:=l },⟨0,0⟩)
def dI (k:ByteArray) (n:Int):ay:=⟨k,[pK n],0⟩
def iX (k:ByteArray) (n:Int):ay:=⟨k,[jm k n],0⟩
def dy (c:ai):ao:=
 ⟨bZ,c.name,[iX bz c.method,dI cT c.seats,dI lm c.ranks]++(if c.method=2 then[dI bn c.digits] else[])++[iX pD c.ties,iX fo c.over,iX pE c.skip,⟨lu,c.cands,0⟩],0⟩
def fv (prec conts:List ByteArray) (s:ax):ao:=⟨nC,s.name,[⟨ac,df s.prec prec,0⟩,⟨au,df s.cont conts,0⟩],0⟩
def cR (e:ae):aX:=
 ⟨e.title,[⟨fV,⟨#[]⟩,[dI pF e.dots,dI dJ e.blank,dI cJ e.marked],0⟩,⟨eD,⟨#[]⟩,[dI lq e.scan,dI lv e.batch],0⟩,⟨ac,⟨#[]⟩,[⟨j3,e.prec,0⟩],0⟩]
  ++e.cont.map dy++e.styl.map (fv e.prec (e.cont.map (·.name)))
  ++[⟨j4,⟨#[]⟩,[⟨lN,[⟨(gj e.risk.q).toArray⟩],0⟩,⟨lM,[e.seed],0⟩],0⟩,⟨fC,⟨#[]⟩,[dI pG e.cell],0⟩]⟩
def ib {α:Type} (f:α->α->Bool):List α->List α->Bool
 | [],[]=>true
 | x::l,y::m=>f x y&&ib f l m
 | _,_=>false
def iV (a b:ae):Bool:=
 decide (a.title=b.title)&&(decide (a.dots=b.dots)&&(decide (a.blank=b.blank)&&(decide (a.marked=b.marked)&&(decide (a.prec=b.prec)&&(ib bm a.cont b.cont&&(ib bY a.styl b.styl
  &&(decide (a.scan=b.scan)&&(decide (a.batch=b.batch)&&(decide (sw a.risk.q b.risk.flip.q=0)&&(decide (a.cell=b.cell)&&decide (a.seed=b.seed)))))))))))
def kW (e:ae):Bool:=decide ((aA (cR e)).2.no=0)&&(e.risk.valid&&iV (aA (cR e)).1 e)
end Go.Proofs.YtichkplomldgiaaGreatDoor
