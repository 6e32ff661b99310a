/- RefL BitM Ref1 -/
import Derived.Test.YtdbpbfglhbiadaaGreatDoorH01
import Derived.Laws.AppendOwnNone
import Derived.Handy
import Derived.Test.YtdbpbfglhbiadaaGreatDoorH02
set_option maxHeartbeats 4000000
set_option maxRecDepth 100000
namespace Go.Proofs.YtdbpbfglhbiadaaGreatDoor
open Go.RowKit
theorem i7 {P:Program} {w:World} {base:Nat} {t ty e:TypeId} {i:TypeInfo} {size:Nat} (ht:P.underlying t=some (.slice e)) (hi:P.info? e=some i) {v:Value} {n:Nat} {xs:List Value} (gL:w.ownsRow base e size v n xs) (c:Nat) : (Builtin.append_ #[t,t] ty #[v,.slice none 0 c]).run P w=.ok v w:=by
 rcases gL.2 with⟨rfl,rfl⟩|⟨g,cap,cur,rfl,_,_,PN,_⟩
 ·simp[Builtin.append_,run_underlying ht,sizeOf,typeInfo,hi,Builtin.lenOf,Builtin.firstCells]
 ·simp[Builtin.append_,run_underlying ht,sizeOf,typeInfo,hi,Builtin.lenOf,Builtin.firstCells,PN,storeCells]
theorem fO {α:Type} [aA α] {w:World} {S:Nat->Prop} {base:Nat} {e:TypeId} {v:Value} {xs:List α} {P:Program} {ops:Array Oper} {rest:List Oper} {o:Oper} {a:Act} {Q:Exit->Act->World->Prop} (sa:o.guard=none) (s x:Operand) (t:TypeId) (ho:o.op=.call { callee:=.builtin .append,args:=#[s,x],argTypes:=#[t,t] }) (bytes:Nat) (ht:fS P t e (aA.sz α) bytes) (hs:a.eval s=v) (gL:Own w S base e v xs) {A:Option Addr} {m c:Nat} {S2:Nat->Prop} {ys:List α} (hx:a.eval x=.slice A m c) (hr:RS w S2 A m c ys) (ds:List Value) (hf:Flat w S ds ys) (hd:∀ad,A=some ad->cf w ad ds) (h1:∀u∈ds,u.oneCell'=true) (hl:(xs.length+ys.length)*(bytes+1)<=140737488355328) (j8:base<=w.heap.size) (h:∀v' w',Own w' S base e v' (xs++ys)->w.grownBy w' v.ownBlock->(v'.ownBlock=v.ownBlock\/v'.ownBlock=some w.heap.size)->wpList P ops Q rest (a.put o.dst v') w') : wpList P ops Q (o::rest) a w:=by
 cases A with
 | some ad=>exact fP sa s x t ho bytes ht hs gL ad m c ds ys hx hr.len.symm hf (hd ad rfl) h1 hl j8 h
 | none=>
  have hm:m=0:=by
   rcases Nat.eq_zero_or_pos m with h|h
   ·exact h
   ·obtain⟨_,_,_,h3⟩:=hr;obtain⟨_,_,e,_⟩:=h3 h;cases e
  subst hm;have hy:ys=[]:=List.eq_nil_of_length_eq_zero hr.len;subst hy;rw[List.append_nil] at h;refine wpList_plain sa λK hK=>?_;have PI:=gL;obtain⟨cs,py,_,_⟩:=PI;obtain⟨i,z,hi,_⟩:=ht.info;have ku:=i7 (P:=P) (ty:=o.type) ht.under hi py c;unfold Oper.wp;simp[execOp,ho,resolve,invoke,builtin,hs,hx,ku,Result.andThen];exact hK _ _ (h v w gL ⟨rfl,rfl,rfl,Nat.le_refl _,λ_ _ _=>rfl⟩ (.inl rfl))
theorem Flat.bools {w:World} {S:Nat->Prop} (l:List Bool):Flat w S (l.map Value.bool) l:=by
 have:∀(k:List Bool),Flat w S (k.reverse.map Value.bool) k.reverse:=by
  intro k;induction k with
  | nil=>exact .nil
  | cons x k ih=>
   rw[List.reverse_cons,List.map_append];exact .snoc ih rfl
 simpa using this l.reverse
theorem RS.bool_at {w:World} {S:Nat->Prop} {A:Option Addr} {n c:Nat} {xs:List Bool} (h:RS w S A n c xs) {k:Nat} (hk:k<n) : ∃b o x,A=some ⟨b,o,none⟩/\S b/\xs[k]?=some x/\w.cell? ⟨b,o+k,none⟩=some (.bool x):=by
 obtain⟨b,o,x,cs,e,hb,hx,hr,hc⟩:=h.at_ hk;have jo:cs=[.bool x]:=hr;subst jo;exact⟨b,o,x,e,hb,hx,by simpa[aA.sz] using hc 0 _ rfl⟩
theorem RS.boolsAt {w:World} {S:Nat->Prop} {A:Option Addr} {n c:Nat} {bs:List Bool} (h:RS w S A n c bs):∀ad,A=some ad->cf w ad (bs.map Value.bool):=by
 rintro ad rfl;obtain⟨h1,h2,_,h3⟩:=h;intro j u hj;rw[List.getElem?_map,Option.map_eq_some_iff] at hj;obtain⟨x,hx,rfl⟩:=hj;obtain⟨b,o,e,_,he⟩:=h3 (by have:=nO hx;omega);injection e with e
 subst e;obtain⟨cs,hr,hc⟩:=he j x hx;have jo:cs=[.bool x]:=hr;subst jo;have:=hc 0 _ rfl;rw[gf] at this;simpa[aA.sz] using this
theorem oc (l:List Bool):∀u∈l.map Value.bool,u.oneCell'=true:=by
 intro u hu;obtain⟨x,_,rfl⟩:=List.mem_map.1 hu;rfl
def av:List Bool->Nat
 | []=>0
 | b::l=>b.toNat+2*av l
def bits (n:Nat):List Bool:=if h:n=0 then[] else(n%2==1)::bits (n/2)
 termination_by n
 decreasing_by omega
theorem dL:bits 0=[]:=by unfold bits;simp
theorem ni {n:Nat} (h:n≠0):bits n=(n%2==1)::bits (n/2):=by
 rw[bits,dif_neg h]
theorem bm (n:Nat):av (bits n)=n:=by
 induction n using Nat.strongRecOn with
 | ind n ih=>
  by_cases h:n=0
  ·subst h;rw[dL];rfl
  ·rw[ni h,av,ih (n/2) (by omega)];rcases Nat.mod_two_eq_zero_or_one n with h2|h2<;>simp[h2]<;>omega
theorem nf (a b:List Bool):av (a++b)=av a+2^a.length*av b:=by
 induction a with
 | nil=>simp[av]
 | cons x a ih=>
  rw[List.cons_append,av,ih,av,List.length_cons,Nat.pow_succ',Nat.mul_add,Nat.mul_assoc];omega
theorem kY (a:List Bool) (b:Bool):av (a++[b])=av a+2^a.length*b.toNat:=by
 rw[nf];simp[av]
theorem lP (a:List Bool):av a<2^a.length:=by
 induction a with
 | nil=>simp[av]
 | cons x a ih=>
  rw[av,List.length_cons,Nat.pow_succ'];cases x<;>simp<;>omega
theorem GG (k:Nat):av (List.replicate k false)=0:=by
 induction k with
 | zero=>rfl
 | succ k ih=>rw[List.replicate_succ,av,ih];rfl
theorem Ma (l:List Bool):bits (av (l++[true]))=l++[true]/\av (l++[true])≠0:=by
 induction l with
 | nil=>
  refine⟨?_,by decide⟩;show bits 1=[true];rw[ni (by omega)];simp[dL]
 | cons b l ih=>
  obtain⟨h1,h2⟩:=ih;rw[List.cons_append,av];obtain⟨v,hv⟩:∃v,av (l++[true])=v:=⟨_,rfl⟩;rw[hv] at h1 h2 ⊢;refine⟨?_,by omega⟩;rw[ni (by omega)];have e1:(b.toNat+2*v)/2=v:=by cases b<;>simp<;>omega
  have e2:((b.toNat+2*v)%2==1)=b:=by cases b<;>simp<;>omega
  rw[e1,e2,h1]
theorem tX (l:List Bool):bits (av (l++[false]))=bits (av l):=by rw[kY];simp
theorem wX {l:List Bool} {k:Nat} {x:Bool} (hx:l[k]?=some x):bits (av (l.take (k+1)))=if x then l.take (k+1) else bits (av (l.take k)):=by
 have e:l.take (k+1)=l.take k++[x]:=by rw[List.take_add_one,hx];rfl
 rw[e];cases x
 ·exact tX _
 ·exact(Ma _).1
theorem jd {n k:Nat} (h:n<2^k):(bits n).length<=k:=by
 induction k generalizing n with
 | zero=>
  have:n=0:=by simpa using h
  subst this;rw[dL];exact Nat.le_refl _
 | succ k ih=>
  by_cases h0:n=0
  ·subst h0;rw[dL];exact Nat.zero_le _
  ·rw[ni h0,List.length_cons];have:=ih (n:=n/2) (by rw[Nat.pow_succ'] at h;omega);omega
theorem qQ {n:Nat} (h:bits n=[]):n=0:=by
 have:=bm n;rw[h] at this;exact this.symm
def dm (l:List Bool) (i:Nat):Bool:=l.getD i false
theorem ft {l:List Bool} {i:Nat} {x:Bool} (h:l[i]?=some x):dm l i=x:=by
 unfold dm;rw[List.getD_eq_getElem?_getD,h];rfl
theorem po {l:List Bool} {i:Nat} (h:l.length<=i):dm l i=false:=by
 unfold dm;rw[List.getD_eq_getElem?_getD,List.getElem?_eq_none h];rfl
theorem eY (l:List Bool) (i:Nat):av (l.take (i+1))=av (l.take i)+2^i*(dm l i).toNat:=by
 rcases Nat.lt_or_ge i l.length with h|h
 ·have e:=List.getElem?_eq_getElem h;rw[ft e,List.take_add_one,e,Option.toList_some,kY,List.length_take,Nat.min_eq_left (Nat.le_of_lt h)]
 ·rw[po h,List.take_of_length_le h,List.take_of_length_le (Nat.le_succ_of_le h)];simp
theorem dF (l:List Bool) (i:Nat):av (l.drop i)=(dm l i).toNat+2*av (l.drop (i+1)):=by
 rcases Nat.lt_or_ge i l.length with h|h
 ·have e:=List.getElem?_eq_getElem h;rw[List.drop_eq_getElem_cons h,av,ft e]
 ·rw[po h,List.drop_eq_nil_of_le h,List.drop_eq_nil_of_le (Nat.le_succ_of_le h)];simp[av]
theorem lO (l:List Bool) (i:Nat):av l=av (l.take i)+2^i*av (l.drop i):=by
 rcases Nat.lt_or_ge i l.length with h|h
 ·have e:=nf (l.take i) (l.drop i);rw[List.take_append_drop,List.length_take,Nat.min_eq_left (Nat.le_of_lt h)] at e;exact e
 ·rw[List.take_of_length_le h,List.drop_eq_nil_of_le h];simp[av]
theorem lN (l:List Bool) (i:Nat):av (l.take i)<2^i:=by
 refine Nat.lt_of_lt_of_le (lP _) (Nat.pow_le_pow_right (by omega) ?_);rw[List.length_take];omega
theorem tW {a b:List Bool} {i:Nat} (h:av (a.drop i)<av (b.drop i)):av a<av b:=by
 rw[lO a i,lO b i];have h1:=lN a i;have h2:2^i*(av (a.drop i)+1)<=2^i*av (b.drop i):=Nat.mul_le_mul_left _ h;rw[Nat.mul_add] at h2;omega
theorem LJ {a b:List Bool} {i:Nat} (h:av (a.drop (i+1))=av (b.drop (i+1))) (hx:dm a i=dm b i):av (a.drop i)=av (b.drop i):=by
 rw[dF a i,dF b i,h,hx]
theorem yW {a b:List Bool} {i:Nat} (h:av (a.drop (i+1))=av (b.drop (i+1))) (hx:dm a i=false) (hy:dm b i=true):av a<av b:=by
 apply tW (i:=i);rw[dF a i,dF b i,h,hx,hy];simp
theorem Wr (a b:List Bool) (out:List Bool) (c:Bool) (i:Nat) (hl:out.length=i) (h:av out+2^i*c.toNat=av (a.take i)+av (b.take i)) : av (out++[(dm a i !=dm b i) !=c])+2^(i+1)*((dm a i&&dm b i)||(dm a i&&c)||(dm b i&&c)).toNat=av (a.take (i+1))+av (b.take (i+1)):=by
 rw[kY,hl,eY,eY,Nat.pow_succ];cases dm a i<;>cases dm b i<;>cases c<;>simp at h ⊢<;>omega
theorem Wq {a b out:List Bool} {c:Bool} {m:Nat} (ha:a.length<=m) (hb:b.length<=m) (h:av out+2^(m+1)*c.toNat=av (a.take (m+1))+av (b.take (m+1))):av out=av a+av b:=by
 rw[List.take_of_length_le (Nat.le_succ_of_le ha),List.take_of_length_le (Nat.le_succ_of_le hb)] at h;have h1:av a<2^m:=Nat.lt_of_lt_of_le (lP a) (Nat.pow_le_pow_right (by omega) ha);have h2:av b<2^m:=Nat.lt_of_lt_of_le (lP b) (Nat.pow_le_pow_right (by omega) hb);rw[Nat.pow_succ] at h;cases c<;>simp at h<;>omega
theorem S7 (a b:List Bool) (out:List Bool) (c:Bool) (i:Nat) (hl:out.length=i) (h:av out+av (b.take i)=av (a.take i)+2^i*c.toNat) : av (out++[(dm a i !=dm b i) !=c])+av (b.take (i+1))=av (a.take (i+1))+2^(i+1)*((!dm a i&&dm b i)||(!dm a i&&c)||(dm b i&&c)).toNat:=by
 rw[kY,hl,eY,eY,Nat.pow_succ];cases dm a i<;>cases dm b i<;>cases c<;>simp at h ⊢<;>omega
theorem S6 {a b out:List Bool} {c:Bool} (By:av b<=av a) (hl:out.length=a.length) (h:av out+av (b.take a.length)=av (a.take a.length)+2^a.length*c.toNat):av out=av a-av b:=by
 rw[List.take_of_length_le (Nat.le_refl _)] at h;have h1:=lP a;have h2:=lP out;rw[hl] at h2;have h3:=lO b a.length;have h4:av (b.drop a.length)=0:=by
  rcases Nat.eq_zero_or_pos (av (b.drop a.length)) with h|h
  ·exact h
  ·have:2^a.length*1<=2^a.length*av (b.drop a.length):=Nat.mul_le_mul_left _ h;omega
 rw[h4] at h3;cases c<;>simp at h h3<;>omega
theorem VM {A d q r:Nat} (x:Nat) (h:A=q*d+r) (hr:r<d) (hx:x<=1) : (d<=x+2*r->(x+2*A)/d=2*q+1/\(x+2*A)%d=x+2*r-d)/\(x+2*r<d->(x+2*A)/d=2*q/\(x+2*A)%d=x+2*r):=by
 have e:x+2*A=2*q*d+(x+2*r):=by rw[h,Nat.mul_add,Nat.mul_assoc];omega
 refine⟨λhd=>?_,λhd=>?_⟩
 ·have e2:x+2*A=(2*q+1)*d+(x+2*r-d):=by rw[e,Nat.add_mul,Nat.one_mul];omega
  refine⟨Nat.div_eq_of_lt_le (by rw[e2];omega) (by rw[e2,Nat.add_mul (2*q+1),Nat.one_mul];omega),?_⟩;rw[e2,Nat.mul_comm,Nat.mul_add_mod,Nat.mod_eq_of_lt (by omega)]
 ·refine⟨Nat.div_eq_of_lt_le (by rw[e];omega) (by rw[e,Nat.add_mul,Nat.one_mul];omega),?_⟩;rw[e,Nat.mul_comm,Nat.mul_add_mod,Nat.mod_eq_of_lt hd]
theorem Tryz.bitsTy:fS Tryz.prog 155 4 1 1:=fS.mk' (z:=.bool false) Tryz.underlying155 (by kernel_rfl) rfl (by omega)
theorem i6 {S:Nat->Prop} {A:Option Addr} {n c:Nat} {xs:List Bool} {w:World} (h:RS w S A n c xs) (hl:n<=1099511627776) : Calls Tryz.prog 177 #[.slice A n c] w (jf w 4 (bits (av xs))):=by
 have H:=zH h;have afJ:=h.max;have kw:=h.cap;have HL:=zH h.len;clear h;go_enter Tryz.func177,Tryz.ntmps177;go_wp2_with fail
 go_loop [3] (λv=>∃k:Nat,k<=n/\v=.int .i64 k/\bits (av (xs.take k))=bits (av xs)) (λv=>(intOf v).toNat)
 case atStart=>exact⟨n,Nat.le_refl _,rfl,by rw[List.take_of_length_le (by rw[HL.out];exact Nat.le_refl _)]⟩
 case round=>
  obtain⟨k,hk,rfl,ht⟩:=hrel;have HT:=zH ht;clear ht;rcases k with _|k
  ·have Lg:=H.out.take (Nat.zero_le n);have HRS:=zH Lg;clear Lg;go_wp2_with (at_builtin; refine fO (α:=Bool) (S:=bi) rfl _ _ 155 rfl 1 Tryz.bitsTy rfl (Own.nil w w.heap.size 4) rfl HRS.out _ (Flat.bools _) HRS.out.boolsAt (oc _) (by simp) (Nat.le_refl _) ?_; intro v2 w2 hown2 hg2 sd; have nA:=zH hown2; have fu:=zH ((Below.refl w.heap.size w).grown hg2 (Nat.le_refl _) (λk hk=>by cases hk)); clear hown2 hg2 sd);go_ret
   exact⟨_,rfl,by rw[<-HT.out,show bits (av (xs.take 0))=[]++xs.take 0 from by rw[List.take_zero];exact dL];exact nA.out,fu.out⟩
  ·obtain⟨b,o,x,rfl,_,hx,e1⟩:=H.out.bool_at (k:=k) (by omega);have hs:=wX hx;have pz:(k:Int)<(n:Int):=by omega
   cases x
   ·rw[HT.out] at hs;have HS:=zH hs;clear hs hx;go_wp2_with fail;go_round
    case rel=>exact⟨k,by omega,by go_num,HS.out.symm⟩
    case measure=>simp[intOf]
   ·rw[HT.out] at hs;have HS:=zH hs;have Sr:(k:Int)+1<=(c:Int):=by omega
    have Lg:=H.out.take hk;have bJ:(xs.take (k+1)).length<=1099511627776:=by rw[List.length_take];omega
    have HRS:=zH Lg;have sH:=zH bJ;clear hs hx Lg bJ;go_wp2_with (at_builtin; refine fO (α:=Bool) (S:=bi) rfl _ _ 155 rfl 1 Tryz.bitsTy rfl (Own.nil w w.heap.size 4) rfl HRS.out _ (Flat.bools _) HRS.out.boolsAt (oc _) (by have:=sH.out;simp at this ⊢;omega) (Nat.le_refl _) ?_; intro v2 w2 hown2 hg2 sd; have nA:=zH hown2; have fu:=zH ((Below.refl w.heap.size w).grown hg2 (Nat.le_refl _) (λk hk=>by cases hk)); clear hown2 hg2 sd);go_ret
    exact⟨_,rfl,by rw[HS.out];exact nA.out,fu.out⟩
theorem k8 {S:Nat->Prop} {A:Option Addr} {n c:Nat} {xs:List Bool} {w:World} (i:Nat) (h:RS w S A n c xs) : Calls Tryz.prog 175 #[.slice A n c,.int .i64 i] w (jk w (.bool (dm xs i))):=by
 have H:=zH h;have HL:=zH h.len;clear h;have h0:(0<=(i:Int))=True:=eq_true (by omega);by_cases hi:i<n
 ·obtain⟨b,o,x,rfl,_,hx,e1⟩:=H.out.bool_at hi;have hg:=ft hx;rw[hg];have hii:(i:Int)<(n:Int):=by omega
  clear hg hx;go_enter Tryz.func175,Tryz.ntmps175;go_wp2_with fail;go_ret
  exact⟨rfl,rfl⟩
 ·have hg:dm xs i=false:=po (by rw[HL.out];omega);rw[hg];have hii:((i:Int)<(n:Int))=False:=eq_false (by omega);clear hg;go_enter Tryz.func175,Tryz.ntmps175;go_wp2_with fail;go_ret
  exact⟨rfl,rfl⟩
theorem BV (m:Nat) (hm:m<9223372036854775808) (w:World):Calls Tryz.prog 128 #[.int .i64 m] w (jf w 4 (bits m)):=by
 go_enter Tryz.func128,Tryz.ntmps128;go_wp2_with fail;go_loopw [0,3] (λnv v wr=>∃(q:Nat) (pre:List Bool),nv=.int .i64 q/\q<=m/\bits m=pre++bits q/\Own wr bi w.heap.size 4 v pre/\pre.length<=64/\Below w.heap.size w wr) (λnv _ _=>(intOf nv).toNat)
 case atStart=>exact⟨m,[],rfl,Nat.le_refl _,rfl,Own.nil _ _ _,Nat.zero_le _,Below.refl _ _⟩
 case round=>
  obtain⟨q,pre,rfl,hq,he,ho,hl,hb⟩:=hrel;have hl2:pre.length<=63:=by
   have h1:=jd (n:=m) (k:=63) hm;have h2:=congrArg List.length he;rw[List.length_append] at h2;omega
  have HE:=zH he;have HO:=zH ho;have HB:=zH hb;have ow:=zH hl2;clear he ho hb hl2 hl;rcases Nat.eq_zero_or_pos q with h0|h0
  ·have he:=HE.out;rw[h0,dL,List.append_nil] at he;have HEF:=zH he;subst h0;have d0:(0<((0:Nat):Int))=False:=eq_false (by omega);have ho:=HO.out;obtain⟨A4,n4,c4,rfl,hn4⟩:=ho.slice;clear ho hn4 he HE;go_wp2_with fail;go_ret
   exact⟨_,rfl,by rw[HEF.out];exact HO.out,HB.out⟩
  ·have d0:(0<(q:Int))=True:=eq_true (by omega);obtain⟨x,hx⟩:∃x,(q%2==1)=x:=⟨_,rfl⟩;have hxi:((q:Int)%2==1)=x:=by
    rw[<-hx];rcases Nat.mod_two_eq_zero_or_one q with h|h
    ·have:(q:Int)%2=0:=by omega
     rw[h,this];rfl
    ·have:(q:Int)%2=1:=by omega
     rw[h,this];rfl
   have hxt:((q:Int).tmod 2==1)=x:=by rw[Int.tmod_eq_emod_of_nonneg (by omega)];exact hxi
   obtain⟨z,hz⟩:∃z,q/2=z:=⟨_,rfl⟩;have hd:(q:Int)/2=(z:Int):=by omega
   have hdt:(q:Int).tdiv 2=(z:Int):=by rw[Int.tdiv_eq_ediv_of_nonneg (by omega)];exact hd
   have he:bits m=(pre++[x])++bits z:=by rw[HE.out,ni (by omega),hx,hz,List.append_assoc];rfl
   have Pt:z<q:=by omega
   have hwz:IntKind.i64.wrap (z:Int)=(z:Int):=by rw[IntKind.wrap_i64]<;>omega
   have HE2:=zH he;have HZQ:=zH Pt;have HQ:=zH hq;have HXI:=zH hxi;clear he Pt hz hx HE hq;have ho:=HO.out;obtain⟨A4,n4,c4,rfl,hn4⟩:=ho.slice;clear ho hn4;go_wp2_with (at_builtin; refine dH (α:=Bool) (w0:=w) rfl _ _ 155 rfl 1 Tryz.bitsTy rfl HO.out HB.out [.bool x] x 1 rfl rfl 4 (by simp[Value.oneCell']) (by have:=ow.out;omega) ?_; intro v4 w4 hown4 qw hg4 hl4; have Mk:=zH hown4; have Ev:=zH qw; clear hown4 qw hg4 hl4);go_roundw
   case rel=>exact⟨z,pre++[x],rfl,by have:=HZQ.out;have:=HQ.out;omega,HE2.out,Mk.out,by have:=ow.out;simp;omega,Ev.out⟩
   case measure=>have:=HZQ.out;simp[intOf];omega
end Go.Proofs.YtdbpbfglhbiadaaGreatDoor
