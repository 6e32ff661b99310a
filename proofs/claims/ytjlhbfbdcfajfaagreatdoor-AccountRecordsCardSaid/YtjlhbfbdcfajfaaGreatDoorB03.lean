/- Nat1 NatM2 Nat2 Nat3 Nat4 -/
import Derived.Test.YtjlhbfbdcfajfaaGreatDoorChecked
import Derived.Test.YtjlhbfbdcfajfaaGreatDoorB02
import Derived.Deep.DeepCutAuto
namespace Go.Proofs.YtjlhbfbdcfajfaaGreatDoor
open Go.RowKit
instance:bG (BitVec 32) where
 sz:=1
 rep _ _ cs x:=cs=[WU x]
 len h:=by rw[h];rfl
 keep h _ _:=h
theorem Tryz.natTy:cW Tryz.prog 26 98 1 4:=cW.mk' (z:=.int .u32 0) Tryz.underlying26 (by kernel_rfl) rfl (by omega)
theorem Flat.limbs {w:World} {S:Nat→Prop} (l:List (BitVec 32)):Flat w S (l.map WU) l:=by
 have:∀(k:List (BitVec 32)),Flat w S (k.reverse.map WU) k.reverse:=by
  intro k;induction k with
  | nil=>exact .nil
  | cons x k ih=>
   rw[List.reverse_cons,List.map_append];exact .snoc ih rfl
 simpa using this l.reverse
theorem RS.limb_at {w:World} {S:Nat→Prop} {A:Option Addr} {n c:Nat} {xs:List (BitVec 32)} (h:RS w S A n c xs) {k:Nat} (hk:k<n) : ∃b o x,A=some ⟨b,o,none⟩∧S b∧xs[k]?=some x∧w.cell? ⟨b,o+k,none⟩=some (.int .u32 (x.toNat:Int)):=by
 obtain⟨b,o,x,cs,e,hb,hx,hr,hc⟩:=h.at_ hk;have qN:cs=[WU x]:=hr;subst qN;exact⟨b,o,x,e,hb,hx,by simpa[bG.sz,WU] using hc 0 _ rfl⟩
theorem RS.limbsAt {w:World} {S:Nat→Prop} {ad:Addr} {n c:Nat} {bs:List (BitVec 32)} (h:RS w S (some ad) n c bs):eT w ad (bs.map WU):=by
 obtain⟨h1,h2,_,h3⟩:=h;intro j u hj;rw[List.getElem?_map,Option.map_eq_some_iff] at hj;obtain⟨x,hx,rfl⟩:=hj;obtain⟨b,o,e,_,he⟩:=h3 (by have:=eP hx;omega);injection e with e
 subst e;obtain⟨cs,hr,hc⟩:=he j x hx;have qN:cs=[WU x]:=hr;subst qN;have:=hc 0 _ rfl;rw[lm] at this;simpa[bG.sz] using this
def aur {α:Type} [bG α] (w:World) (S:Nat→Prop) (xs:List α) (e:Ending) (w':World):Prop:=∃A n c,e=.returned (.slice A n c)∧RS w S A n c xs∧w=w'
def aA (_:Nat):Prop:=False
def od {α:Type} [bG α] (w:World) (e:TypeId) (xs:List α) (en:Ending) (w':World):Prop:=
 ∃v',en=.returned v'∧Own w' aA w.heap.size e v' xs∧Below w.heap.size w w'
theorem Own.empty {α:Type} [bG α] (w:World) (e:TypeId):Own (w.alloc (.cells #[] e)) aA w.heap.size e (.slice (some ⟨w.heap.size,0,none⟩) 0 0) ([]:List α):=
 ⟨[],⟨by simp,.inr ⟨w.heap.size,0,#[],rfl,Nat.le_refl _,heap_alloc_new _ _,Nat.le_refl _,Nat.zero_le _,by simp,by simp⟩⟩,.nil,fun _ h=>h.elim⟩
theorem Own.base_le {α:Type} [bG α] {w:World} {S:Nat→Prop} {base base':Nat} {e:TypeId} {v:Value} {xs:List α} (h:Own w S base e v xs) (hb:base'≤base):Own w S base' e v xs:=by
 obtain⟨cs,⟨h0,h1⟩,h2,h3⟩:=h;refine⟨cs,⟨h0,?_⟩,h2,h3⟩;rcases h1 with h1|⟨g,cap,SE,q1,q2,q3⟩
 ·exact .inl h1
 ·exact .inr ⟨g,cap,SE,q1,Nat.le_trans hb q2,q3⟩
theorem MH {l:List (BitVec 32)} {k:Nat} {x:BitVec 32} (hx:l[k]?=some x):eO (l.take (k+1))=if x=0#32 then eO (l.take k) else l.take (k+1):=by
 rw[du hx];split
 ·rename_i h;rw[h];exact BU _
 ·rename_i h;exact MI h
set_option maxHeartbeats 400000 in
theorem js {S:Nat→Prop} {A:Option Addr} {n c:Nat} {xs:List (BitVec 32)} {w:World} (h:RS w S A n c xs) : Calls Tryz.prog 129 #[.slice A n c] w (aur w S (eO xs)):=by
 have H:=zH h;have aiY:=h.max;have xq:=h.cap;have HL:=zH h.len;clear h;go_enter Tryz.func129,Tryz.ntmps129;go_wp2_with fail
 go_loop [3] (fun v=>∃k:Nat,k≤n∧v=.int .i64 k∧eO (xs.take k)=eO xs) (fun v=>(intOf v).toNat)
 case atStart=>exact⟨n,Nat.le_refl _,rfl,by rw[List.take_of_length_le (by rw[HL.out];exact Nat.le_refl _)]⟩
 case round=>
  obtain⟨k,hk,rfl,ht⟩:=hrel;have HT:=zH ht;clear ht;rcases k with _|k
  ·go_wp2_with fail;go_ret
   have:eO xs=[]:=by rw[←HT.out];rfl
   rw[this];exact⟨_,_,_,rfl,RS.nil _ _,rfl⟩
  ·obtain⟨b,o,x,rfl,_,hx,e1⟩:=H.out.limb_at (k:=k) (by omega);have hs:=MH hx;have fI:(k:Int)<(n:Int):=by omega
   by_cases h0:x=0#32
   ·have hb:((x.toNat:Int)==0)=true:=by rw[h0];rfl
    rw[if_pos h0,HT.out] at hs;have HS:=zH hs;clear hs h0 hx;go_wp2_with fail;go_round
    case rel=>exact⟨k,by omega,by go_num,HS.out.symm⟩
    case measure=>simp[intOf]
   ·have hb:((x.toNat:Int)==0)=false:=by
     rw[beq_eq_false_iff_ne];intro h;exact h0 (tQ.2 (by omega))
    rw[if_neg h0,HT.out] at hs;have HS:=zH hs;have gO:(k:Int)+1≤(c:Int):=by omega
    clear hs h0 hx;go_wp2_with fail;go_ret
    refine⟨_,_,_,rfl,?_,rfl⟩;rw[HS.out];exact H.out.take hk
theorem Hr {S:Nat→Prop} {A:Option Addr} {n c:Nat} {bs:List (BitVec 32)} {w:World} (h:RS w S A n c bs) (hl:n≤1099511627776) : Calls Tryz.prog 161 #[.slice A n c] w (od w 98 bs):=by
 have H:=zH h;clear h;have hq:=Lib.run_eql_slice_nil w 26 98 A n c 0 0 Tryz.underlying26;go_enter Tryz.func161,Tryz.ntmps161;cases A with
 | none=>
  go_wp2_with fail;go_ret
  have hn:n=0:=by
   rcases Nat.eq_zero_or_pos n with h|h
   ·exact h
   ·obtain⟨_,_,e,_⟩:=H.out.2.2.2 h;cases e
  have hb:bs=[]:=List.eq_nil_of_length_eq_zero (H.out.len.trans hn);subst hb;exact⟨_,rfl,Own.nil _ _ _,Below.refl _ _⟩
 | some ad=>
  have hca:eT (w.alloc (.cells #[] 98)) ad (bs.map WU):=by
   intro j u hj;have h0:=H.out.limbsAt j u hj;exact(World.cell?_alloc_lt w _ _ (World.block_lt_of_cell? w _ h0)).trans h0
  have HC:=zH hca;have HL:=zH H.out.len;clear hca;go_wp2_with (at_builtin; refine jn (α:=BitVec 32) rfl _ _ 26 rfl 4 Tryz.natTy rfl (Own.empty w 98) ad n c _ bs rfl HL.out.symm (Flat.limbs bs) HC.out (by simp[Value.oneCell',WU]) (by have:=HL.out;simp;omega) (by simp) ?_; intro v2 w2 fg hg2 IT; have eX:=zH fg; have bX:=zH (((Below.refl w.heap.size w).alloc (Nat.le_refl _) (.cells #[] 98)).grown hg2 (by simp) (fun k hk=>by injection hk with hk;exact Nat.le_of_eq hk)); clear fg hg2 IT);go_ret
  exact⟨_,rfl,eX.out,bX.out⟩
theorem pX {S:Nat→Prop} {A:Option Addr} {n c:Nat} {xs:List (BitVec 32)} {w:World} (h:RS w S A n c xs) (hl:n≤1099511627776) : Calls Tryz.prog 159 #[.slice A n c] w (od w 98 (fC (val xs))):=by
 have H:=zH h;have HL:=zH h.len;clear h;go_enter Tryz.func159,Tryz.ntmps159;go_wp2_with fail;refine(js H.out).mono ?_;rintro e w' ⟨A1,n1,c1,rfl,hr,rfl⟩;have hn1:n1≤1099511627776:=by
  have:=ej xs;have:=hr.len;have:=HL.out;omega
 have HR:=zH hr;clear hr;go_wp2_with fail;refine(Hr HR.out hn1).mono ?_;rintro e w2 ⟨v,rfl,ho,hb⟩;have HO:=zH ho;have HB:=zH hb;clear ho hb;go_wp2_with fail;go_ret
 exact⟨_,rfl,by rw[fH];exact HO.out,HB.out⟩
theorem qY {S:Nat→Prop} {A:Option Addr} {n c:Nat} {xs:List (BitVec 32)} {w:World} (i:Nat) (h:RS w S A n c xs) : Calls Tryz.prog 189 #[.slice A n c,.int .i64 i] w (gq w (.int .u64 ((xs.getD i 0#32).toNat:Int))):=by
 have H:=zH h;have HL:=zH h.len;clear h;by_cases hi:i<n
 ·obtain⟨b,o,x,rfl,_,hx,e1⟩:=H.out.limb_at hi;have hg:xs.getD i 0#32=x:=by rw[List.getD_eq_getElem?_getD,hx];rfl
  have bn:=x.isLt;have hw:IntKind.u64.wrap (x.toNat:Int)=(x.toNat:Int):=by rw[IntKind.wrap_u64];omega
  rw[hg];have hii:(i:Int)<(n:Int):=by omega
  clear hg hx bn;go_enter Tryz.func189,Tryz.ntmps189;go_wp2_with fail;go_ret
  exact⟨rfl,rfl⟩
 ·have hg:xs.getD i 0#32=0#32:=by rw[List.getD_eq_getElem?_getD,List.getElem?_eq_none (by rw[HL.out];omega)];rfl
  rw[hg];have hii:¬(i:Int)<(n:Int):=by omega
  clear hg;go_enter Tryz.func189,Tryz.ntmps189;go_wp2_with fail;go_ret
  exact⟨rfl,rfl⟩
theorem kt {a b:Nat} (h:a≤b):(fC a).length≤(fC b).length:=by
 have:=iU (fC b);rw[dj] at this;exact jD (by omega)
theorem su {a b:Nat} (h:(fC a).length<(fC b).length):a<b:=by
 rcases Nat.lt_or_ge a b with h1|h1
 ·exact h1
 ·have:=kt h1;omega
theorem Tk {l:List (BitVec 32)} {k:Nat} {x:BitVec 32} (hx:l[k]?=some x):val l=val (l.take k)+4294967296^k*(x.toNat+4294967296*val (l.drop (k+1))):=by
 have hk:k<l.length:=(List.getElem?_eq_some_iff.1 hx).1;rw[iN l k (by omega)];congr 2
 obtain⟨_,e⟩:=List.getElem?_eq_some_iff.1 hx;rw[List.drop_eq_getElem_cons hk,e,val]
theorem uA {l1 l2:List (BitVec 32)} {k:Nat} {x y:BitVec 32} (hd:l1.drop (k+1)=l2.drop (k+1)) (hx:l1[k]?=some x) (hy:l2[k]?=some y) (h:x.toNat<y.toNat):val l1<val l2:=by
 rw[Tk hx,Tk hy,hd];have h1:=iU (l1.take k);have h2:4294967296^(l1.take k).length≤4294967296^k:=Nat.pow_le_pow_right (by omega) (by simp;omega);have h3:4294967296^k*(x.toNat+4294967296*val (l2.drop (k+1)))+4294967296^k≤4294967296^k*(y.toNat+4294967296*val (l2.drop (k+1))):=by
  rw[←Nat.mul_succ];exact Nat.mul_le_mul_left _ (by omega)
 omega
theorem I0 {l1 l2:List (BitVec 32)} {k:Nat} {x:BitVec 32} (hd:l1.drop (k+1)=l2.drop (k+1)) (hx:l1[k]?=some x) (hy:l2[k]?=some x):l1.drop k=l2.drop k:=by
 obtain⟨h1,e1⟩:=List.getElem?_eq_some_iff.1 hx;obtain⟨h2,e2⟩:=List.getElem?_eq_some_iff.1 hy;rw[List.drop_eq_getElem_cons h1,List.drop_eq_getElem_cons h2,e1,e2,hd]
def oo (a b:Nat):Int:=if a<b then -1 else if a=b then 0 else 1
theorem rz {a b:Nat} (h:a<b):oo a b= -1:=if_pos h
theorem rD {a b:Nat} (h:b<a):oo a b=1:=by rw[oo,if_neg (by omega),if_neg (by omega)]
theorem zj (a:Nat):oo a a=0:=by rw[oo,if_neg (by omega),if_pos rfl]
theorem cz (l:List (BitVec 32)) (k:Nat):val (l.take (k+1))=val (l.take k)+4294967296^k*(l.getD k 0#32).toNat:=by
 rcases Nat.lt_or_ge k l.length with h|h
 ·have hx:l[k]?=some (l.getD k 0#32):=by rw[List.getD_eq_getElem?_getD,List.getElem?_eq_getElem h];rfl
  exact rG hx
 ·rw[List.take_of_length_le (by omega),List.take_of_length_le h,List.getD_eq_getElem?_getD,List.getElem?_eq_none h];simp
theorem dU (l:List (BitVec 32)) (k:Nat) (h:l.length≤k):val (l.take k)=val l:=by rw[List.take_of_length_le h]
theorem FA {l:List (BitVec 32)} {k:Nat} (x:BitVec 32) (h:k<l.length):(l.set k x).take (k+1)=l.take k++[x]:=by
 rw[List.take_add_one,List.take_set,List.set_eq_of_length_le (by simp;omega)];simp[h]
theorem jr {l:List (BitVec 32)} {k:Nat} (x:BitVec 32) (h:k<l.length):val ((l.set k x).take (k+1))=val (l.take k)+4294967296^k*x.toNat:=by
 rw[FA x h,Db,List.length_take,Nat.min_eq_left (by omega)]
theorem LJ {p c x y s a b v:Nat} (hs:x+y+c=s) (h:v+p*c=a+b):(v+p*(s%4294967296))+p*4294967296*(s/4294967296)=(a+p*x)+(b+p*y):=by
 have e:p*(s%4294967296)+p*4294967296*(s/4294967296)=p*s:=by
  rw[Nat.mul_assoc,←Nat.mul_add,Nat.mod_add_div]
 have e2:p*s=p*x+p*y+p*c:=by rw[←hs,Nat.mul_add,Nat.mul_add]
 omega
theorem Tu {p c x y s a b v:Nat} (hc:c≤1) (hx:x<4294967296) (hy:y<4294967296) (hs:4294967296+x-y-c=s) (h:v+b=a+p*c) : (v+p*(s%4294967296))+(b+p*y)=(a+p*x)+p*4294967296*(1-s/4294967296):=by
 have h1:s%4294967296+y+c=x+4294967296*(1-s/4294967296):=by omega
 have h2:p*(s%4294967296)+p*y+p*c=p*x+p*4294967296*(1-s/4294967296):=by
  rw[Nat.mul_assoc,←Nat.mul_add,←Nat.mul_add,←Nat.mul_add,h1]
 omega
theorem Own.rsAll {α:Type} [bG α] {w:World} {base:Nat} {e:TypeId} {A:Option Addr} {n c:Nat} {xs:List α} (h:Own w aA base e (.slice A n c) xs):RS w (·<w.heap.size) A n c xs:=h.rs (fun _ h=>h.elim) (fun _ _ h=>h)
theorem Ud (n:Nat) (h:n<18446744073709551616):val [BitVec.ofNat 32 n,BitVec.ofNat 32 (n/4294967296)]=n:=by
 simp only[val,BitVec.toNat_ofNat];omega
theorem Iw (n:Nat) (w:World) (h:n<18446744073709551616):Calls Tryz.prog 158 #[.int .u64 n] w (od w 98 (fC n)):=by
 have hv:=Ud n h;obtain⟨x,hx⟩:∃x,BitVec.ofNat 32 n=x:=⟨_,rfl⟩;obtain⟨y,hy⟩:∃y,BitVec.ofNat 32 (n/4294967296)=y:=⟨_,rfl⟩;have h1:IntKind.u32.wrap (n:Int)=(x.toNat:Int):=by rw[←hx,IntKind.wrap_u32,BitVec.toNat_ofNat];omega
 have h2:IntKind.u32.wrap ((n:Int)/4294967296)=(y.toNat:Int):=by rw[←hy,IntKind.wrap_u32,BitVec.toNat_ofNat];omega
 rw[hx,hy] at hv;have HV:=zH hv;clear hv hx hy;go_enter Tryz.func158,Tryz.ntmps158;go_wp2_with fail;have hb:Below w.heap.size w (w.alloc (.cells #[.int .u32 (x.toNat:Int),.int .u32 (y.toNat:Int)] 98)):=(Below.refl _ _).alloc (Nat.le_refl _) _;have hr:RS (w.alloc (.cells #[.int .u32 (x.toNat:Int),.int .u32 (y.toNat:Int)] 98)) (fun _=>True) (some ⟨w.heap.size,0,none⟩) 2 2 [x,y]:=
  RS.of_blk (t:=98) (cs:=#[.int .u32 (x.toNat:Int),.int .u32 (y.toNat:Int)]) (aK.new _ _ _) (Flat.limbs [x,y]) rfl (Nat.le_refl _) (by decide) trivial
 refine(pX hr (by omega)).mono ?_;rintro e w2 ⟨v,rfl,ho,bY⟩;rw[HV.out] at ho;have HO:=zH (ho.base_le (Nat.le_trans hb.size (Nat.le_refl _)));have HB:=zH (ae hb bY);clear ho hb bY hr h1 h2;go_wp2_with fail;go_ret
 exact⟨_,rfl,HO.out,HB.out⟩
set_option maxHeartbeats 1000000 in
theorem On {S S2:Nat→Prop} {A A2:Option Addr} {n c n2 c2:Nat} {xs ys:List (BitVec 32)} {w:World} (h:RS w S A n c xs) (h2:RS w S2 A2 n2 c2 ys) : Calls Tryz.prog 160 #[.slice A n c,.slice A2 n2 c2] w (zt w (.int .i64 (oo (val xs) (val ys)))):=by
 have H:=zH h;have H2:=zH h2;have hvx:=jl xs;have hvy:=jl ys;have hlx:=fH xs;have hly:=fH ys;have Fu:=zH hvx;have Ft:=zH hvy;have H9:=zH hlx;have LU:=zH hly;clear h h2 hvx hvy hlx hly;go_enter Tryz.func160,Tryz.ntmps160;go_wp2_with fail;refine(js H.out).mono ?_;rintro e w' ⟨A3,n3,c3,rfl,hr,rfl⟩;have HR:=zH hr;clear hr;go_wp2_with fail;refine(js H2.out).mono ?_;rintro e w' ⟨A4,n4,c4,rfl,hr,rfl⟩;have px:=zH hr;have Yw:=HR.out.max;have NK:=hr.max;clear hr;obtain⟨l3,hl3⟩:∃l,eO xs=l:=⟨_,rfl⟩;obtain⟨l4,hl4⟩:∃l,eO ys=l:=⟨_,rfl⟩;rw[hl3] at HR Fu H9;rw[hl4] at px Ft LU;have vt:=zH HR.out.len;have Ic:=zH px.out.len;clear hl3 hl4;by_cases bn:n3=n4
 ·subst bn;have hb:((n3:Int) !=(n3:Int))=false:=by simp
  go_wp2_with fail;go_loopw [5,27,37] (fun v _ _ wr=>∃(k m:Nat) (z:Int),k≤n3∧v=.int .i64 z∧z+1=k∧l3.drop k=l4.drop k∧wr=w.drewN m) (fun v _ _ _=>(intOf v+1).toNat)
  case atStart=>exact⟨n3,0,(n3:Int)-1,Nat.le_refl _,rfl,by omega,by rw[List.drop_eq_nil_of_le (by rw[vt.out];exact Nat.le_refl _),List.drop_eq_nil_of_le (by rw[Ic.out];exact Nat.le_refl _)],rfl⟩
  case round=>
   obtain⟨k,m,z,hk,rfl,hz,hd,rfl⟩:=hrel;have HD:=zH hd;clear hd;rcases k with _|k
   ·obtain rfl:z= -1:=by omega
    have he:oo (val xs) (val ys)=0:=by
     have h1:=HD.out;rw[List.drop_zero,List.drop_zero] at h1;rw[←Fu.out,←Ft.out,h1,zj]
    have HE:=zH he;clear he hz;go_wp2_with fail;go_ret
    exact⟨bT (by rw[HE.out];rfl),_,rfl⟩
   ·obtain rfl:z=k:=by omega
    obtain⟨b,o,x,rfl,_,hx,e1⟩:=HR.out.limb_at (k:=k) (by omega);obtain⟨b2,o2,y,rfl,_,hy,e2⟩:=px.out.limb_at (k:=k) (by omega);have fI:(k:Int)<(n3:Int):=by omega
    have HX:=zH hx;have HY:=zH hy;clear hx hy hz;rcases Nat.lt_trichotomy x.toNat y.toNat with hc|hc|hc
    ·have he:oo (val xs) (val ys)= -1:=by
      rw[←Fu.out,←Ft.out];exact rz (uA HD.out HX.out HY.out hc)
     have HE:=zH he;have d1:decide (x.toNat<y.toNat)=true:=decide_eq_true (by omega);clear he hc;go_wp2_with fail;go_quiet (fail)
     go_wp2_with fail;go_ret
     exact⟨bT (by rw[HE.out];rfl),_,World.drewN_drewN _ _ _⟩
    ·have uP:x=y:=BitVec.eq_of_toNat_eq hc;have hn:=I0 HD.out HX.out (by rw[uP];exact HY.out);have HN:=zH hn;have d1:decide (x.toNat<y.toNat)=false:=decide_eq_false (by omega);have d2:decide (y.toNat<x.toNat)=false:=decide_eq_false (by omega);clear hn uP hc;go_wp2_with fail;go_quiet (fail)
     go_wp2_with fail;go_quiet (fail)
     go_wp2_with fail;go_roundw
     case rel=>exact⟨k,_,(k:Int)-1,by omega,by go_num,by omega,HN.out,by first|rfl|(rw[World.drewN_drewN,World.drewN_drewN])|(rw[World.drewN_drewN])⟩
     case measure=>simp[intOf]
    ·have he:oo (val xs) (val ys)=1:=by
      rw[←Fu.out,←Ft.out];exact rD (uA HD.out.symm HY.out HX.out hc)
     have HE:=zH he;have d1:decide (x.toNat<y.toNat)=false:=decide_eq_false (by omega);have d2:decide (y.toNat<x.toNat)=true:=decide_eq_true (by omega);clear he hc;go_wp2_with fail;go_quiet (fail)
     go_wp2_with fail;go_quiet (fail)
     go_wp2_with fail;go_ret
     exact⟨bT (by rw[HE.out];rfl),_,(congrArg (fun w=>World.drewN w _) (World.drewN_drewN _ _ _)).trans (World.drewN_drewN _ _ _)⟩
 ·have hb:((n3:Int) !=(n4:Int))=true:=by simp;omega
  by_cases h3:n3<n4
  ·have he:oo (val xs) (val ys)= -1:=rz (su (by rw[H9.out,LU.out,vt.out,Ic.out];exact h3));have HE:=zH he;clear he;go_wp2_with fail;go_ret
   exact⟨bT (by rw[HE.out];rfl),0,rfl⟩
  ·have he:oo (val xs) (val ys)=1:=rD (su (by rw[H9.out,LU.out,vt.out,Ic.out];omega));have HE:=zH he;clear he;go_wp2_with fail;go_ret
   exact⟨bT (by rw[HE.out];rfl),0,rfl⟩
theorem Tryz.u32Info:(Tryz.prog.info? 98).map (fun i=>(i.zero,i.size,i.bytes))=some (some (.int .u32 0),1,4):=by kernel_rfl
theorem oA (s:Nat):IntKind.u32.wrap (s:Int)=((BitVec.ofNat 32 s).toNat:Int):=by rw[IntKind.wrap_u32,BitVec.toNat_ofNat];omega
theorem iP (s:Nat):(BitVec.ofNat 32 s).toNat=s%4294967296:=by rw[BitVec.toNat_ofNat]
theorem ic {l:List (BitVec 32)} (k:Nat):(l.getD k 0#32).toNat<4294967296:=(l.getD k 0#32).isLt
set_option maxHeartbeats 1000000 in
theorem Zo {S S2:Nat→Prop} {A A2:Option Addr} {n c n2 c2:Nat} {xs ys:List (BitVec 32)} {w:World} (h:RS w S A n c xs) (h2:RS w S2 A2 n2 c2 ys) (hS:∀b,S b→b<w.heap.size) (eF:∀b,S2 b→b<w.heap.size) (hn:n≤1073741824) (hn2:n2≤1073741824) : Calls Tryz.prog 190 #[.slice A n c,.slice A2 n2 c2] w (od w 98 (fC (val xs+val ys))):=by
 obtain⟨i0,hi,kR,eQ,jE⟩:=info_parts Tryz.u32Info;have HI:=zH hi;have xE:=zH kR;have fy:=zH eQ;have iL:=zH jE;have H:=zH h;have H2:=zH h2;have HL:=zH h.len;have ua:=zH h2.len;have Fu:=zH (jl xs);have Ft:=zH (jl ys);clear h h2 hi kR eQ jE;go_enter Tryz.func190,Tryz.ntmps190;go_wp2_with fail;refine(js H.out).mono ?_;rintro e w' ⟨A3,n3,c3,rfl,hr,rfl⟩;have hl3:n3≤1073741824:=by have:=ej xs;have:=hr.len;have:=HL.out;omega
 have HR:=zH hr;clear hr;go_wp2_with fail;refine(js H2.out).mono ?_;rintro e w' ⟨A4,n4,c4,rfl,hr,rfl⟩;have hl4:n4≤1073741824:=by have:=ej ys;have:=hr.len;have:=ua.out;omega
 have px:=zH hr;clear hr;obtain⟨la,dT⟩:∃l,eO xs=l:=⟨_,rfl⟩;obtain⟨lb,qB⟩:∃l,eO ys=l:=⟨_,rfl⟩;rw[dT] at HR Fu;rw[qB] at px Ft;have vt:=zH HR.out.len;have Ic:=zH px.out.len;clear dT qB;go_upto_region 2 with(fail);go_cut [5] (fun v wx=>∃m:Nat,v=.int .i64 m∧n3≤m∧n4≤m∧m≤1073741824∧w=wx)
 case first=>
  by_cases hc:(n3:Int)<(n4:Int)
  ·go_wp2_with fail;go_meet
   exact⟨n4,rfl,by omega,by omega,by omega,rfl⟩
  ·go_wp2_with fail;go_meet
   exact⟨n3,rfl,by omega,by omega,by omega,rfl⟩
 case rest=>
 obtain⟨m,rfl,Yw,NK,hm,rfl⟩:=hcut;have Cn:(m:Int)+1=((m+1:Nat):Int):=by omega
 obtain⟨M,hM⟩:∃M,m+1=M:=⟨_,rfl⟩;rw[hM] at Cn;have hMb:M≤1073741825:=by omega
 have HM:=zH hM;clear hM;go_wp2_with (refine dh (α:=BitVec 32) _ rfl _ _ _ rfl rfl w.heap.size i0 (.int .u32 0) Tryz.underlying26 HI.out xE.out fy.out rfl .i64 .i64 (M:Int) (M:Int) M rfl rfl rfl rfl (by rw[iL.out];omega) (by unfold maxLen;omega) (Nat.le_refl _) 0#32 aA (fun _ h=>h.elim) (fun _ _=>rfl) ?_; intro w1 zF hg1; have jd:=zH zF; have bS:=zH ((Below.refl w.heap.size w).grown hg1 (Nat.le_refl _) (fun k hk=>by cases hk)); clear zF hg1);obtain⟨g,hg⟩:∃g,w.heap.size=g:=⟨_,rfl⟩;rw[hg] at jd;rw[hg];have HG:=zH hg;clear hg Cn;go_loopw [7,8,9,23] (fun cv _ _ i wr=>∃(k cr:Nat) (zs:List (BitVec 32)),k≤m∧i=.int .i64 k∧cv=.int .u64 cr∧cr≤1∧zs.length=M∧val (zs.take k)+4294967296^k*cr=val (la.take k)+val (lb.take k)∧Own wr aA g 98 (.slice (some ⟨g,0,none⟩) M M) zs∧Below w.heap.size w wr)
  (fun _ _ _ i _=>m-(intOf i).toNat)
 case atStart=>exact⟨0,0,List.replicate M 0#32,by omega,rfl,rfl,by omega,by simp,by simp[val],jd.out,bS.out⟩
 case round=>
  clear jd bS;obtain⟨k,cr,zs,hk,rfl,rfl,hcr,L9,mV,ho,hb⟩:=hrel;have jd:=zH ho;have bS:=zH hb;have zJ:=zH L9;have qQ:=zH mV;clear ho hb L9 mV;by_cases bn:k<m
  ·have hkM:(k:Int)<(M:Int):=by have:=HM.out;omega
   have hx:=vt.out;obtain⟨g',u,rP,_,_,hu,ef,qf⟩:=jd.out.get1 rfl (show zs[k]?=some (zs.getD k 0#32) by rw[List.getD_eq_getElem?_getD,List.getElem?_eq_getElem (by rw[zJ.out];have:=HM.out;omega)];rfl);injection rP with rP
   injection rP with rP
   subst rP;obtain⟨x,rh⟩:∃x,(la.getD k 0#32).toNat=x:=⟨_,rfl⟩;obtain⟨y,Pe⟩:∃y,(lb.getD k 0#32).toNat=y:=⟨_,rfl⟩;have sR:x<4294967296:=by rw[←rh];exact ic k
   have Ma:y<4294967296:=by rw[←Pe];exact ic k
   have e1:=cz la k;have e2:=cz lb k;rw[rh] at e1;rw[Pe] at e2;obtain⟨s,hs⟩:∃s,x+y+cr=s:=⟨_,rfl⟩;have h3:=LJ hs qQ.out;rw[←e1,←e2] at h3;have jF:(x:Int)+(y:Int)+(cr:Int)=(s:Int):=by omega
   have xk:s<8589934592:=by omega
   have GV:=oA s;have hsd:(s:Int)/4294967296=((s/4294967296:Nat):Int):=rfl;obtain⟨z,hz⟩:∃z,BitVec.ofNat 32 s=z:=⟨_,rfl⟩;obtain⟨Zd,Vd⟩:∃Zd,s/4294967296=Zd:=⟨_,rfl⟩;have eh:=iP s;rw[hz] at GV eh;rw[Vd] at hsd h3;rw[←eh] at h3;have yQ:Zd≤1:=by omega
   have HXX:=zH rh;have HYY:=zH Pe;have HH3:=zH h3;clear rh Pe e1 e2 hs h3 hz Vd eh hu hx;go_wp2_with fail;refine(qY k (HR.out.below bS.out hS)).mono ?_;rintro e w' ⟨rfl,rfl⟩;rw[HXX.out];go_wp2_with fail;refine(qY k (px.out.below bS.out eF)).mono ?_;rintro e w' ⟨rfl,rfl⟩;rw[HYY.out];go_wp2_with fail;go_roundw
   case rel=>
    obtain⟨q1,q2⟩:=jd.out.stored (k:=k) (u:=.int .u32 (z.toNat:Int)) (x:=z) rfl rfl;refine⟨k+1,Zd,zs.set k z,by omega,by go_num,rfl,yQ,by rw[List.length_set];exact zJ.out,?_,q1,bS.out.setCell (by have:=HG.out;simp;omega) _⟩;rw[jr z (by rw[zJ.out];have:=HM.out;omega),Nat.pow_succ];exact HH3.out
   case measure=>simp[intOf];omega
  ·have AI:k=m:=by omega
   subst AI;have hkM:(k:Int)<(M:Int):=by have:=HM.out;omega
   obtain⟨g',u,rP,_,_,hu,ef,qf⟩:=jd.out.get1 rfl (show zs[k]?=some (zs.getD k 0#32) by rw[List.getD_eq_getElem?_getD,List.getElem?_eq_getElem (by rw[zJ.out];have:=HM.out;omega)];rfl);injection rP with rP
   injection rP with rP
   subst rP;have GV:=oA cr;obtain⟨z,hz⟩:∃z,BitVec.ofNat 32 cr=z:=⟨_,rfl⟩;have eh:=iP cr;rw[hz] at GV eh;have GR:z.toNat=cr:=by omega
   obtain⟨q1,q2⟩:=jd.out.stored (k:=k) (u:=.int .u32 (z.toNat:Int)) (x:=z) rfl rfl;have cJ:val (zs.set k z)=val xs+val ys:=by
    have h1:=jr z (l:=zs) (k:=k) (by rw[zJ.out];have:=HM.out;omega);rw[dU _ _ (by rw[List.length_set,zJ.out];have:=HM.out;omega),GR,qQ.out,dU _ _ (by rw[vt.out];exact Yw),dU _ _ (by rw[Ic.out];exact NK),Fu.out,Ft.out] at h1;exact h1
   have hq:=q1.rsAll;have Sl:Below w.heap.size w (wr.setCell ⟨g,k,none⟩ (.int .u32 (z.toNat:Int))):=bS.out.setCell (by have:=HG.out;simp;omega) _;have ja:=zH cJ;have HQ:=zH hq;have HQB:=zH Sl;clear cJ hq Sl q1 q2 GR eh hz hu bn;go_wp2_with fail;refine(pX HQ.out (by omega)).mono ?_;rintro e w2 ⟨v,rfl,ho,hb⟩;rw[ja.out] at ho;have HO:=zH (ho.base_le HQB.out.size);have HB:=zH (ae HQB.out hb);clear ho hb;go_wp2_with fail;go_ret
   exact⟨_,rfl,HO.out,HB.out⟩
def abe {α:Type} [bG α] (w:World) (e:TypeId) (xs:List α) (u:Value) (en:Ending) (w':World):Prop:=
 ∃v',en=.returned (.tuple #[v',u])∧Own w' aA w.heap.size e v' xs∧Below w.heap.size w w'
set_option maxHeartbeats 1000000 in
theorem XI {S S2:Nat→Prop} {A A2:Option Addr} {n c n2 c2:Nat} {xs ys:List (BitVec 32)} {w:World} (h:RS w S A n c xs) (h2:RS w S2 A2 n2 c2 ys) (bn:val xs<val ys) : Calls Tryz.prog 191 #[.slice A n c,.slice A2 n2 c2] w (abe w 98 ([]:List (BitVec 32)) (.bool false)):=by
 have H:=zH h;have H2:=zH h2;have Fu:=zH (jl xs);have Ft:=zH (jl ys);have HC:=zH (rz bn);clear h h2 bn;go_enter Tryz.func191,Tryz.ntmps191;go_wp2_with fail;refine(js H.out).mono ?_;rintro e w' ⟨A3,n3,c3,rfl,hr,rfl⟩;have HR:=zH hr;clear hr;go_wp2_with fail;refine(js H2.out).mono ?_;rintro e w' ⟨A4,n4,c4,rfl,hr,rfl⟩;have px:=zH hr;clear hr;go_wp2_with fail;refine(On HR.out px.out).mono ?_;rintro e w' ⟨rfl,m,rfl⟩;rw[Fu.out,Ft.out,HC.out];go_wp2_with fail;go_ret2
 exact⟨_,rfl,Own.nil _ _ _,below_drewN (Below.refl _ _) _⟩
set_option maxHeartbeats 1000000 in
theorem O1 {S S2:Nat→Prop} {A A2:Option Addr} {n c n2 c2:Nat} {xs ys:List (BitVec 32)} {w:World} (h:RS w S A n c xs) (h2:RS w S2 A2 n2 c2 ys) (hS:∀b,S b→b<w.heap.size) (eF:∀b,S2 b→b<w.heap.size) (hn:n≤1073741824) (G0:val ys≤val xs) : Calls Tryz.prog 191 #[.slice A n c,.slice A2 n2 c2] w (abe w 98 (fC (val xs-val ys)) (.bool true)):=by
 obtain⟨i0,hi,kR,eQ,jE⟩:=info_parts Tryz.u32Info;have HI:=zH hi;have xE:=zH kR;have fy:=zH eQ;have iL:=zH jE;have H:=zH h;have H2:=zH h2;have HL:=zH h.len;have Fu:=zH (jl xs);have Ft:=zH (jl ys);have fL:(eO ys).length≤(eO xs).length:=by rw[←fH,←fH];exact kt G0
 have hc:oo (val xs) (val ys)=0∨oo (val xs) (val ys)=1:=by
  rcases Nat.lt_or_ge (val ys) (val xs) with h|h
  ·exact .inr (rD h)
  ·exact .inl (by rw[Nat.le_antisymm G0 h];exact zj _)
 have ew:=zH fL;have HLE:=zH G0;clear h h2 hi kR eQ jE fL G0;go_enter Tryz.func191,Tryz.ntmps191;go_wp2_with fail;refine(js H.out).mono ?_;rintro e w' ⟨A3,n3,c3,rfl,hr,rfl⟩;have hl3:n3≤1073741824:=by have:=ej xs;have:=hr.len;have:=HL.out;omega
 have HR:=zH hr;clear hr;go_wp2_with fail;refine(js H2.out).mono ?_;rintro e w' ⟨A4,n4,c4,rfl,hr,rfl⟩;have px:=zH hr;clear hr;obtain⟨la,dT⟩:∃l,eO xs=l:=⟨_,rfl⟩;obtain⟨lb,qB⟩:∃l,eO ys=l:=⟨_,rfl⟩;rw[dT] at HR Fu ew;rw[qB] at px Ft ew;have vt:=zH HR.out.len;have Ic:=zH px.out.len;clear dT qB;have HCC:=zH hc;clear hc;go_upto_region 2 with(fail);go_cut [17] (fun v wx=>v=.bool false∧Below w.heap.size w wx)
 case first=>
  go_wp2_with fail;refine(On HR.out px.out).mono ?_;rintro e w0 ⟨rfl,mm,rfl⟩;rw[Fu.out,Ft.out];rcases HCC.out with hc|hc
  all_goals
   rw[hc];clear hc;go_wp2_with fail;go_meet
   exact⟨rfl,below_drewN (Below.refl _ _) _⟩
 case rest=>
 obtain⟨rfl,hb0⟩:=hcut;obtain⟨w0,rfl⟩:∃w0:World,w0=wc:=⟨_,rfl⟩;have RY:=zH hb0;have HR0:=zH (HR.out.below RY.out hS);have avq:=zH (px.out.below RY.out eF);have C2:Hid (∀b,S b→b<w0.heap.size):=zH fun b hb=>Nat.lt_of_lt_of_le (hS b hb) RY.out.size;have au9:Hid (∀b,S2 b→b<w0.heap.size):=zH fun b hb=>Nat.lt_of_lt_of_le (eF b hb) RY.out.size;clear hb0;go_wp2_with (refine dh (α:=BitVec 32) _ rfl _ _ _ rfl rfl w0.heap.size i0 (.int .u32 0) Tryz.underlying26 HI.out xE.out fy.out rfl .i64 .i64 (n3:Int) (n3:Int) n3 rfl rfl rfl rfl (by rw[iL.out];omega) (by unfold maxLen;omega) (Nat.le_refl _) 0#32 aA (fun _ h=>h.elim) (fun _ _=>rfl) ?_; intro w1 zF hg1; have jd:=zH zF; have bS:=zH ((Below.refl w0.heap.size w0).grown hg1 (Nat.le_refl _) (fun k hk=>by cases hk)); clear zF hg1);obtain⟨g,hg⟩:∃g,w0.heap.size=g:=⟨_,rfl⟩;rw[hg] at jd;rw[hg];have HG:=zH hg;clear hg;go_loopw [7,8,9,23] (fun bv _ _ i wr=>∃(k br:Nat) (zs:List (BitVec 32)),k≤n3∧i=.int .i64 k∧bv=.int .u64 br∧br≤1∧zs.length=n3∧val (zs.take k)+val (lb.take k)=val (la.take k)+4294967296^k*br∧Own wr aA g 98 (.slice (some ⟨g,0,none⟩) n3 n3) zs∧Below w0.heap.size w0 wr)
  (fun _ _ _ i _=>n3-(intOf i).toNat)
 case atStart=>exact⟨0,0,List.replicate n3 0#32,by omega,rfl,rfl,by omega,by simp,by simp[val],jd.out,bS.out⟩
 case round=>
  clear jd bS;obtain⟨k,br,zs,hk,rfl,rfl,xr,L9,mV,ho,hb⟩:=hrel;have jd:=zH ho;have bS:=zH hb;have zJ:=zH L9;have qQ:=zH mV;clear ho hb L9 mV;by_cases bn:k<n3
  ·have hkM:(k:Int)<(n3:Int):=by omega
   obtain⟨g',u,rP,_,_,hu,ef,qf⟩:=jd.out.get1 rfl (show zs[k]?=some (zs.getD k 0#32) by rw[List.getD_eq_getElem?_getD,List.getElem?_eq_getElem (by rw[zJ.out];exact bn)];rfl);injection rP with rP
   injection rP with rP
   subst rP;obtain⟨x,rh⟩:∃x,(la.getD k 0#32).toNat=x:=⟨_,rfl⟩;obtain⟨y,Pe⟩:∃y,(lb.getD k 0#32).toNat=y:=⟨_,rfl⟩;have sR:x<4294967296:=by rw[←rh];exact ic k
   have Ma:y<4294967296:=by rw[←Pe];exact ic k
   have e1:=cz la k;have e2:=cz lb k;rw[rh] at e1;rw[Pe] at e2;obtain⟨s,hs⟩:∃s,4294967296+x-y-br=s:=⟨_,rfl⟩;have h3:=Tu xr sR Ma hs qQ.out;rw[←e1,←e2] at h3;have jF:4294967296+(x:Int)-(y:Int)-(br:Int)=(s:Int):=by omega
   have xk:s<8589934592:=by omega
   have GV:=oA s;have hsd:(s:Int)/4294967296=((s/4294967296:Nat):Int):=rfl;obtain⟨z,hz⟩:∃z,BitVec.ofNat 32 s=z:=⟨_,rfl⟩;obtain⟨d,hd⟩:∃d,s/4294967296=d:=⟨_,rfl⟩;have eh:=iP s;rw[hz] at GV eh;rw[hd] at hsd h3;rw[←eh] at h3;have hdl:d≤1:=by omega
   obtain⟨br',ajW⟩:∃br',1-d=br':=⟨_,rfl⟩;rw[ajW] at h3;have bd:1-(d:Int)=(br':Int):=by omega
   have xt:br'≤1:=by omega
   have HXX:=zH rh;have HYY:=zH Pe;have HH3:=zH h3;clear rh Pe e1 e2 hs h3 hz hd ajW eh hu;go_wp2_with fail;refine(qY k (HR0.out.below bS.out C2.out)).mono ?_;rintro e w' ⟨rfl,rfl⟩;rw[HXX.out];go_wp2_with fail;refine(qY k (avq.out.below bS.out au9.out)).mono ?_;rintro e w' ⟨rfl,rfl⟩;rw[HYY.out];go_wp2_with fail;go_roundw
   case rel=>
    obtain⟨q1,q2⟩:=jd.out.stored (k:=k) (u:=.int .u32 (z.toNat:Int)) (x:=z) rfl rfl;refine⟨k+1,br',zs.set k z,by omega,by go_num,rfl,xt,by rw[List.length_set];exact zJ.out,?_,q1,bS.out.setCell (by have:=HG.out;simp;omega) _⟩;rw[jr z (by rw[zJ.out];exact bn),Nat.pow_succ];exact HH3.out
   case measure=>simp[intOf];omega
  ·have AI:k=n3:=by omega
   subst AI;have cJ:val zs=val xs-val ys:=by
    have h1:=qQ.out;rw[dU _ _ (by rw[zJ.out];exact Nat.le_refl _),dU la _ (by rw[vt.out];exact Nat.le_refl _),dU lb _ (by have:=ew.out;rw[vt.out] at this;exact this),Fu.out,Ft.out] at h1;have h2:=iU zs;rw[zJ.out] at h2;have h3:=HLE.out;have hb0:br=0:=by
     rcases Nat.eq_zero_or_pos br with h|h
     ·exact h
     ·have:br=1:=by omega
      rw[this,Nat.mul_one] at h1;omega
    rw[hb0,Nat.mul_zero] at h1;omega
   have ja:=zH cJ;clear cJ bn;go_wp2_with fail;refine(pX jd.out.rsAll (by omega)).mono ?_;rintro e w2 ⟨v,rfl,ho,hb⟩;rw[ja.out] at ho;have jc:=ae RY.out bS.out;have HO:=zH (ho.base_le jc.size);have HB:=zH (ae jc hb);clear ho hb jc;go_wp2_with fail;go_ret2
   exact⟨_,rfl,HO.out,HB.out⟩
end Go.Proofs.YtjlhbfbdcfajfaaGreatDoor
