/- RefL BitM Ref1 -/
import Derived.Test.YtdbpbfglhbiadaaGreatDoorF01
import Derived.Laws.AppendOwnNone
import Derived.Handy
import Derived.Test.YtdbpbfglhbiadaaGreatDoorF02
set_option maxHeartbeats 8000000
set_option maxRecDepth 100000
namespace Go.Proofs.YtdbpbfglhbiadaaGreatDoor
open Go.RowKit
theorem iJ {P:Program} {w:World} {base:Nat} {t ty e:TypeId} {i:TypeInfo} {size:Nat} (ht:P.underlying t=some (.slice e)) (hi:P.info? e=some i) {v:Value} {n:Nat} {xs:List Value} (gn:w.ownsRow base e size v n xs) (c:Nat) : (Builtin.append_ #[t,t] ty #[v,.slice none 0 c]).run P w=.ok v w:=by
 rcases gn.2 with⟨rfl,rfl⟩|⟨g,cap,cur,rfl,_,_,Nv,_⟩
 ·simp[Builtin.append_,run_underlying ht,sizeOf,typeInfo,hi,Builtin.lenOf,Builtin.firstCells]
 ·simp[Builtin.append_,run_underlying ht,sizeOf,typeInfo,hi,Builtin.lenOf,Builtin.firstCells,Nv,storeCells]
theorem fx {α:Type} [ay α] {w:World} {S:Nat->Prop} {base:Nat} {e:TypeId} {v:Value} {xs:List α} {P:Program} {ops:Array Oper} {rest:List Oper} {o:Oper} {a:Act} {Q:Exit->Act->World->Prop} (qG:o.guard=none) (s x:Operand) (t:TypeId) (ho:o.op=.call { callee:=.builtin .append,args:=#[s,x],argTypes:=#[t,t] }) (bytes:Nat) (ht:fC P t e (ay.sz α) bytes) (hs:a.eval s=v) (gn:Own w S base e v xs) {A:Option Addr} {m c:Nat} {S2:Nat->Prop} {ys:List α} (hx:a.eval x=.slice A m c) (hr:RS w S2 A m c ys) (ds:List Value) (hf:Flat w S ds ys) (hd:∀ad,A=some ad->bT w ad ds) (h1:∀u∈ds,u.oneCell'=true) (hl:(xs.length+ys.length)*(bytes+1)<=140737488355328) (jU:base<=w.heap.size) (h:∀v' w',Own w' S base e v' (xs++ys)->w.grownBy w' v.ownBlock->(v'.ownBlock=v.ownBlock\/v'.ownBlock=some w.heap.size)->wpList P ops Q rest (a.put o.dst v') w') : wpList P ops Q (o::rest) a w:=by
 cases A with
 | some ad=>exact fy qG s x t ho bytes ht hs gn ad m c ds ys hx hr.len.symm hf (hd ad rfl) h1 hl jU h
 | none=>
  have hm:m=0:=by
   rcases Nat.eq_zero_or_pos m with h|h
   ·exact h
   ·obtain⟨_,_,_,h3⟩:=hr;obtain⟨_,_,e,_⟩:=h3 h;cases e
  subst hm;have hy:ys=[]:=List.eq_nil_of_length_eq_zero hr.len;subst hy;rw[List.append_nil] at h;refine wpList_plain qG λK hK=>?_;have Nr:=gn;obtain⟨cs,oL,_,_⟩:=Nr;obtain⟨i,z,hi,_⟩:=ht.info;have ke:=iJ (P:=P) (ty:=o.type) ht.under hi oL c;unfold Oper.wp;simp[execOp,ho,resolve,invoke,builtin,hs,hx,ke,Result.andThen];exact hK _ _ (h v w gn ⟨rfl,rfl,rfl,Nat.le_refl _,λ_ _ _=>rfl⟩ (.inl rfl))
theorem Flat.bools {w:World} {S:Nat->Prop} (l:List Bool):Flat w S (l.map Value.bool) l:=by
 have:∀(k:List Bool),Flat w S (k.reverse.map Value.bool) k.reverse:=by
  intro k;induction k with
  | nil=>exact .nil
  | cons x k ih=>
   rw[List.reverse_cons,List.map_append];exact .snoc ih rfl
 simpa using this l.reverse
theorem RS.bool_at {w:World} {S:Nat->Prop} {A:Option Addr} {n c:Nat} {xs:List Bool} (h:RS w S A n c xs) {k:Nat} (hk:k<n) : ∃b o x,A=some ⟨b,o,none⟩/\S b/\xs[k]?=some x/\w.cell? ⟨b,o+k,none⟩=some (.bool x):=by
 obtain⟨b,o,x,cs,e,hb,hx,hr,hc⟩:=h.at_ hk;have iV:cs=[.bool x]:=hr;subst iV;exact⟨b,o,x,e,hb,hx,by simpa[ay.sz] using hc 0 _ rfl⟩
theorem RS.boolsAt {w:World} {S:Nat->Prop} {A:Option Addr} {n c:Nat} {bs:List Bool} (h:RS w S A n c bs):∀ad,A=some ad->bT w ad (bs.map Value.bool):=by
 rintro ad rfl;obtain⟨h1,h2,_,h3⟩:=h;intro j u hj;rw[List.getElem?_map,Option.map_eq_some_iff] at hj;obtain⟨x,hx,rfl⟩:=hj;obtain⟨b,o,e,_,he⟩:=h3 (by have:=m0 hx;omega);injection e with e
 subst e;obtain⟨cs,hr,hc⟩:=he j x hx;have iV:cs=[.bool x]:=hr;subst iV;have:=hc 0 _ rfl;rw[fQ] at this;simpa[ay.sz] using this
theorem nk (l:List Bool):∀u∈l.map Value.bool,u.oneCell'=true:=by
 intro u hu;obtain⟨x,_,rfl⟩:=List.mem_map.1 hu;rfl
def ar:List Bool->Nat
 | []=>0
 | b::l=>b.toNat+2*ar l
def bits (n:Nat):List Bool:=if h:n=0 then[] else(n%2==1)::bits (n/2)
 termination_by n
 decreasing_by omega
theorem dD:bits 0=[]:=by unfold bits;simp
theorem mJ {n:Nat} (h:n≠0):bits n=(n%2==1)::bits (n/2):=by
 rw[bits,dif_neg h]
theorem bh (n:Nat):ar (bits n)=n:=by
 induction n using Nat.strongRecOn with
 | ind n ih=>
  by_cases h:n=0
  ·subst h;rw[dD];rfl
  ·rw[mJ h,ar,ih (n/2) (by omega)];rcases Nat.mod_two_eq_zero_or_one n with h2|h2<;>simp[h2]<;>omega
theorem mI (a b:List Bool):ar (a++b)=ar a+2^a.length*ar b:=by
 induction a with
 | nil=>simp[ar]
 | cons x a ih=>
  rw[List.cons_append,ar,ih,ar,List.length_cons,Nat.pow_succ',Nat.mul_add,Nat.mul_assoc];omega
theorem kK (a:List Bool) (b:Bool):ar (a++[b])=ar a+2^a.length*b.toNat:=by
 rw[mI];simp[ar]
theorem lv (a:List Bool):ar a<2^a.length:=by
 induction a with
 | nil=>simp[ar]
 | cons x a ih=>
  rw[ar,List.length_cons,Nat.pow_succ'];cases x<;>simp<;>omega
theorem E0 (k:Nat):ar (List.replicate k false)=0:=by
 induction k with
 | zero=>rfl
 | succ k ih=>rw[List.replicate_succ,ar,ih];rfl
theorem J5 (l:List Bool):bits (ar (l++[true]))=l++[true]/\ar (l++[true])≠0:=by
 induction l with
 | nil=>
  refine⟨?_,by decide⟩;show bits 1=[true];rw[mJ (by omega)];simp[dD]
 | cons b l ih=>
  obtain⟨h1,h2⟩:=ih;rw[List.cons_append,ar];obtain⟨v,hv⟩:∃v,ar (l++[true])=v:=⟨_,rfl⟩;rw[hv] at h1 h2 ⊢;refine⟨?_,by omega⟩;rw[mJ (by omega)];have e1:(b.toNat+2*v)/2=v:=by cases b<;>simp<;>omega
  have e2:((b.toNat+2*v)%2==1)=b:=by cases b<;>simp<;>omega
  rw[e1,e2,h1]
theorem sd (l:List Bool):bits (ar (l++[false]))=bits (ar l):=by rw[kK];simp
theorem vc {l:List Bool} {k:Nat} {x:Bool} (hx:l[k]?=some x):bits (ar (l.take (k+1)))=if x then l.take (k+1) else bits (ar (l.take k)):=by
 have e:l.take (k+1)=l.take k++[x]:=by rw[List.take_add_one,hx];rfl
 rw[e];cases x
 ·exact sd _
 ·exact(J5 _).1
theorem iN {n k:Nat} (h:n<2^k):(bits n).length<=k:=by
 induction k generalizing n with
 | zero=>
  have:n=0:=by simpa using h
  subst this;rw[dD];exact Nat.le_refl _
 | succ k ih=>
  by_cases h0:n=0
  ·subst h0;rw[dD];exact Nat.zero_le _
  ·rw[mJ h0,List.length_cons];have:=ih (n:=n/2) (by rw[Nat.pow_succ'] at h;omega);omega
theorem pO {n:Nat} (h:bits n=[]):n=0:=by
 have:=bh n;rw[h] at this;exact this.symm
def df (l:List Bool) (i:Nat):Bool:=l.getD i false
theorem fb {l:List Bool} {i:Nat} {x:Bool} (h:l[i]?=some x):df l i=x:=by
 unfold df;rw[List.getD_eq_getElem?_getD,h];rfl
theorem oF {l:List Bool} {i:Nat} (h:l.length<=i):df l i=false:=by
 unfold df;rw[List.getD_eq_getElem?_getD,List.getElem?_eq_none h];rfl
theorem eJ (l:List Bool) (i:Nat):ar (l.take (i+1))=ar (l.take i)+2^i*(df l i).toNat:=by
 rcases Nat.lt_or_ge i l.length with h|h
 ·have e:=List.getElem?_eq_getElem h;rw[fb e,List.take_add_one,e,Option.toList_some,kK,List.length_take,Nat.min_eq_left (Nat.le_of_lt h)]
 ·rw[oF h,List.take_of_length_le h,List.take_of_length_le (Nat.le_succ_of_le h)];simp
theorem dt (l:List Bool) (i:Nat):ar (l.drop i)=(df l i).toNat+2*ar (l.drop (i+1)):=by
 rcases Nat.lt_or_ge i l.length with h|h
 ·have e:=List.getElem?_eq_getElem h;rw[List.drop_eq_getElem_cons h,ar,fb e]
 ·rw[oF h,List.drop_eq_nil_of_le h,List.drop_eq_nil_of_le (Nat.le_succ_of_le h)];simp[ar]
theorem lu (l:List Bool) (i:Nat):ar l=ar (l.take i)+2^i*ar (l.drop i):=by
 rcases Nat.lt_or_ge i l.length with h|h
 ·have e:=mI (l.take i) (l.drop i);rw[List.take_append_drop,List.length_take,Nat.min_eq_left (Nat.le_of_lt h)] at e;exact e
 ·rw[List.take_of_length_le h,List.drop_eq_nil_of_le h];simp[ar]
theorem lq (l:List Bool) (i:Nat):ar (l.take i)<2^i:=by
 refine Nat.lt_of_lt_of_le (lv _) (Nat.pow_le_pow_right (by omega) ?_);rw[List.length_take];omega
theorem sa {a b:List Bool} {i:Nat} (h:ar (a.drop i)<ar (b.drop i)):ar a<ar b:=by
 rw[lu a i,lu b i];have h1:=lq a i;have h2:2^i*(ar (a.drop i)+1)<=2^i*ar (b.drop i):=Nat.mul_le_mul_left _ h;rw[Nat.mul_add] at h2;omega
theorem JH {a b:List Bool} {i:Nat} (h:ar (a.drop (i+1))=ar (b.drop (i+1))) (hx:df a i=df b i):ar (a.drop i)=ar (b.drop i):=by
 rw[dt a i,dt b i,h,hx]
theorem xI {a b:List Bool} {i:Nat} (h:ar (a.drop (i+1))=ar (b.drop (i+1))) (hx:df a i=false) (hy:df b i=true):ar a<ar b:=by
 apply sa (i:=i);rw[dt a i,dt b i,h,hx,hy];simp
theorem TB (a b:List Bool) (out:List Bool) (c:Bool) (i:Nat) (hl:out.length=i) (h:ar out+2^i*c.toNat=ar (a.take i)+ar (b.take i)) : ar (out++[(df a i !=df b i) !=c])+2^(i+1)*((df a i&&df b i)||(df a i&&c)||(df b i&&c)).toNat=ar (a.take (i+1))+ar (b.take (i+1)):=by
 rw[kK,hl,eJ,eJ,Nat.pow_succ];cases df a i<;>cases df b i<;>cases c<;>simp at h ⊢<;>omega
theorem TA {a b out:List Bool} {c:Bool} {m:Nat} (ha:a.length<=m) (hb:b.length<=m) (h:ar out+2^(m+1)*c.toNat=ar (a.take (m+1))+ar (b.take (m+1))):ar out=ar a+ar b:=by
 rw[List.take_of_length_le (Nat.le_succ_of_le ha),List.take_of_length_le (Nat.le_succ_of_le hb)] at h;have h1:ar a<2^m:=Nat.lt_of_lt_of_le (lv a) (Nat.pow_le_pow_right (by omega) ha);have h2:ar b<2^m:=Nat.lt_of_lt_of_le (lv b) (Nat.pow_le_pow_right (by omega) hb);rw[Nat.pow_succ] at h;cases c<;>simp at h<;>omega
theorem Ql (a b:List Bool) (out:List Bool) (c:Bool) (i:Nat) (hl:out.length=i) (h:ar out+ar (b.take i)=ar (a.take i)+2^i*c.toNat) : ar (out++[(df a i !=df b i) !=c])+ar (b.take (i+1))=ar (a.take (i+1))+2^(i+1)*((!df a i&&df b i)||(!df a i&&c)||(df b i&&c)).toNat:=by
 rw[kK,hl,eJ,eJ,Nat.pow_succ];cases df a i<;>cases df b i<;>cases c<;>simp at h ⊢<;>omega
theorem Qk {a b out:List Bool} {c:Bool} (wn:ar b<=ar a) (hl:out.length=a.length) (h:ar out+ar (b.take a.length)=ar (a.take a.length)+2^a.length*c.toNat):ar out=ar a-ar b:=by
 rw[List.take_of_length_le (Nat.le_refl _)] at h;have h1:=lv a;have h2:=lv out;rw[hl] at h2;have h3:=lu b a.length;have h4:ar (b.drop a.length)=0:=by
  rcases Nat.eq_zero_or_pos (ar (b.drop a.length)) with h|h
  ·exact h
  ·have:2^a.length*1<=2^a.length*ar (b.drop a.length):=Nat.mul_le_mul_left _ h;omega
 rw[h4] at h3;cases c<;>simp at h h3<;>omega
theorem S3 {A d q r:Nat} (x:Nat) (h:A=q*d+r) (hr:r<d) (hx:x<=1) : (d<=x+2*r->(x+2*A)/d=2*q+1/\(x+2*A)%d=x+2*r-d)/\(x+2*r<d->(x+2*A)/d=2*q/\(x+2*A)%d=x+2*r):=by
 have e:x+2*A=2*q*d+(x+2*r):=by rw[h,Nat.mul_add,Nat.mul_assoc];omega
 refine⟨λhd=>?_,λhd=>?_⟩
 ·have e2:x+2*A=(2*q+1)*d+(x+2*r-d):=by rw[e,Nat.add_mul,Nat.one_mul];omega
  refine⟨Nat.div_eq_of_lt_le (by rw[e2];omega) (by rw[e2,Nat.add_mul (2*q+1),Nat.one_mul];omega),?_⟩;rw[e2,Nat.mul_comm,Nat.mul_add_mod,Nat.mod_eq_of_lt (by omega)]
 ·refine⟨Nat.div_eq_of_lt_le (by rw[e];omega) (by rw[e,Nat.add_mul,Nat.one_mul];omega),?_⟩;rw[e,Nat.mul_comm,Nat.mul_add_mod,Nat.mod_eq_of_lt hd]
theorem Tryz.bitsTy:fC Tryz.prog 155 4 1 1:=fC.mk' (z:=.bool false) Tryz.underlying155 (by kernel_rfl) rfl (by omega)
theorem iH {S:Nat->Prop} {A:Option Addr} {n c:Nat} {xs:List Bool} {w:World} (h:RS w S A n c xs) (hl:n<=1099511627776) : Calls Tryz.prog 177 #[.slice A n c] w (iP w 4 (bits (ar xs))):=by
 have H:=zH h;have acL:=h.max;have kf:=h.cap;have HL:=zH h.len;clear h;go_enter Tryz.func177,Tryz.ntmps177;go_wp2_with fail
 go_loop [3] (λv=>∃k:Nat,k<=n/\v=.int .i64 k/\bits (ar (xs.take k))=bits (ar xs)) (λv=>(intOf v).toNat)
 case atStart=>exact⟨n,Nat.le_refl _,rfl,by rw[List.take_of_length_le (by rw[HL.out];exact Nat.le_refl _)]⟩
 case round=>
  obtain⟨k,hk,rfl,ht⟩:=hrel;have HT:=zH ht;clear ht;rcases k with _|k
  ·have Ji:=H.out.take (Nat.zero_le n);have HRS:=zH Ji;clear Ji;go_wp2_with (at_builtin; refine fx (α:=Bool) (S:=bb) rfl _ _ 155 rfl 1 Tryz.bitsTy rfl (Own.nil w w.heap.size 4) rfl HRS.out _ (Flat.bools _) HRS.out.boolsAt (nk _) (by simp) (Nat.le_refl _) ?_; intro v2 w2 hown2 hg2 qH; have mR:=zH hown2; have ek:=zH ((Below.refl w.heap.size w).grown hg2 (Nat.le_refl _) (λk hk=>by cases hk)); clear hown2 hg2 qH);go_ret
   exact⟨_,rfl,by rw[<-HT.out,show bits (ar (xs.take 0))=[]++xs.take 0 from by rw[List.take_zero];exact dD];exact mR.out,ek.out⟩
  ·obtain⟨b,o,x,rfl,_,hx,e1⟩:=H.out.bool_at (k:=k) (by omega);have hs:=vc hx;have nP:(k:Int)<(n:Int):=by omega
   cases x
   ·rw[HT.out] at hs;have HS:=zH hs;clear hs hx;go_wp2_with fail;go_round
    case rel=>exact⟨k,by omega,by go_num,HS.out.symm⟩
    case measure=>simp[intOf]
   ·rw[HT.out] at hs;have HS:=zH hs;have NA:(k:Int)+1<=(c:Int):=by omega
    have Ji:=H.out.take hk;have bm:(xs.take (k+1)).length<=1099511627776:=by rw[List.length_take];omega
    have HRS:=zH Ji;have kQ:=zH bm;clear hs hx Ji bm;go_wp2_with (at_builtin; refine fx (α:=Bool) (S:=bb) rfl _ _ 155 rfl 1 Tryz.bitsTy rfl (Own.nil w w.heap.size 4) rfl HRS.out _ (Flat.bools _) HRS.out.boolsAt (nk _) (by have:=kQ.out;simp at this ⊢;omega) (Nat.le_refl _) ?_; intro v2 w2 hown2 hg2 qH; have mR:=zH hown2; have ek:=zH ((Below.refl w.heap.size w).grown hg2 (Nat.le_refl _) (λk hk=>by cases hk)); clear hown2 hg2 qH);go_ret
    exact⟨_,rfl,by rw[HS.out];exact mR.out,ek.out⟩
theorem kM {S:Nat->Prop} {A:Option Addr} {n c:Nat} {xs:List Bool} {w:World} (i:Nat) (h:RS w S A n c xs) : Calls Tryz.prog 175 #[.slice A n c,.int .i64 i] w (ga w (.bool (df xs i))):=by
 have H:=zH h;have HL:=zH h.len;clear h;have h0:(0<=(i:Int))=True:=eq_true (by omega);by_cases hi:i<n
 ·obtain⟨b,o,x,rfl,_,hx,e1⟩:=H.out.bool_at hi;have hg:=fb hx;rw[hg];have hii:(i:Int)<(n:Int):=by omega
  clear hg hx;go_enter Tryz.func175,Tryz.ntmps175;go_wp2_with fail;go_ret
  exact⟨rfl,rfl⟩
 ·have hg:df xs i=false:=oF (by rw[HL.out];omega);rw[hg];have hii:((i:Int)<(n:Int))=False:=eq_false (by omega);clear hg;go_enter Tryz.func175,Tryz.ntmps175;go_wp2_with fail;go_ret
  exact⟨rfl,rfl⟩
theorem Aj (m:Nat) (hm:m<9223372036854775808) (w:World):Calls Tryz.prog 128 #[.int .i64 m] w (iP w 4 (bits m)):=by
 go_enter Tryz.func128,Tryz.ntmps128;go_wp2_with fail;go_loopw [0,3] (λnv v wr=>∃(q:Nat) (pre:List Bool),nv=.int .i64 q/\q<=m/\bits m=pre++bits q/\Own wr bb w.heap.size 4 v pre/\pre.length<=64/\Below w.heap.size w wr) (λnv _ _=>(intOf nv).toNat)
 case atStart=>exact⟨m,[],rfl,Nat.le_refl _,rfl,Own.nil _ _ _,Nat.zero_le _,Below.refl _ _⟩
 case round=>
  obtain⟨q,pre,rfl,hq,he,ho,hl,hb⟩:=hrel;have hl2:pre.length<=63:=by
   have h1:=iN (n:=m) (k:=63) hm;have h2:=congrArg List.length he;rw[List.length_append] at h2;omega
  have HE:=zH he;have HO:=zH ho;have HB:=zH hb;have nF:=zH hl2;clear he ho hb hl2 hl;rcases Nat.eq_zero_or_pos q with h0|h0
  ·have he:=HE.out;rw[h0,dD,List.append_nil] at he;have HEF:=zH he;subst h0;have d0:(0<((0:Nat):Int))=False:=eq_false (by omega);have ho:=HO.out;obtain⟨A4,n4,c4,rfl,hn4⟩:=ho.slice;clear ho hn4 he HE;go_wp2_with fail;go_ret
   exact⟨_,rfl,by rw[HEF.out];exact HO.out,HB.out⟩
  ·have d0:(0<(q:Int))=True:=eq_true (by omega);obtain⟨x,hx⟩:∃x,(q%2==1)=x:=⟨_,rfl⟩;have hxi:((q:Int)%2==1)=x:=by
    rw[<-hx];rcases Nat.mod_two_eq_zero_or_one q with h|h
    ·have:(q:Int)%2=0:=by omega
     rw[h,this];rfl
    ·have:(q:Int)%2=1:=by omega
     rw[h,this];rfl
   have hxt:((q:Int).tmod 2==1)=x:=by rw[Int.tmod_eq_emod_of_nonneg (by omega)];exact hxi
   obtain⟨z,hz⟩:∃z,q/2=z:=⟨_,rfl⟩;have hd:(q:Int)/2=(z:Int):=by omega
   have hdt:(q:Int).tdiv 2=(z:Int):=by rw[Int.tdiv_eq_ediv_of_nonneg (by omega)];exact hd
   have he:bits m=(pre++[x])++bits z:=by rw[HE.out,mJ (by omega),hx,hz,List.append_assoc];rfl
   have Nb:z<q:=by omega
   have hwz:IntKind.i64.wrap (z:Int)=(z:Int):=by rw[IntKind.wrap_i64]<;>omega
   have HE2:=zH he;have HZQ:=zH Nb;have HQ:=zH hq;have HXI:=zH hxi;clear he Nb hz hx HE hq;have ho:=HO.out;obtain⟨A4,n4,c4,rfl,hn4⟩:=ho.slice;clear ho hn4;go_wp2_with (at_builtin; refine dz (α:=Bool) (w0:=w) rfl _ _ 155 rfl 1 Tryz.bitsTy rfl HO.out HB.out [.bool x] x 1 rfl rfl 4 (by simp[Value.oneCell']) (by have:=nF.out;omega) ?_; intro v4 w4 hown4 iY hg4 hl4; have CI:=zH hown4; have vz:=zH iY; clear hown4 iY hg4 hl4);go_roundw
   case rel=>exact⟨z,pre++[x],rfl,by have:=HZQ.out;have:=HQ.out;omega,HE2.out,CI.out,by have:=nF.out;simp;omega,vz.out⟩
   case measure=>have:=HZQ.out;simp[intOf];omega
end Go.Proofs.YtdbpbfglhbiadaaGreatDoor
