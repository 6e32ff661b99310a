/- Tf1 Tf2 Tm6 Tm7 Tm8 -/
import Derived.Test.YtjlhbfbdcfajfaaGreatDoorV00
import Derived.Test.YtjlhbfbdcfajfaaGreatDoorV32
import Derived.Test.YtjlhbfbdcfajfaaGreatDoorV20
set_option maxHeartbeats 8000000
set_option maxRecDepth 100000
namespace Go.Proofs.YtjlhbfbdcfajfaaGreatDoor
open Go Go.RowKit
theorem jF.fr {α:Type} [aK α] {w:World} {e:TypeId} {xs:List α} {en:Ending} {w':World} (h:jF w e xs en w'):∃A n c,en=.returned (.slice A n c)∧n=xs.length∧RS w' (cQ w w') A n c xs∧Below w.heap.size w w':=by
 obtain⟨v,rfl,ho,hb⟩:=h;obtain⟨A,n,c,rfl,hn⟩:=ho.slice;exact⟨A,n,c,rfl,hn,ho.fresh (aaW _),hb⟩
theorem Ll (m:Nat) (hm:m<18446744073709551616) (w:World):Calls Tryz.prog 172 #[.int .u64 m] w (jF w 4 (bits m)):=by
 have hv:=MC m hm;obtain⟨x,hx⟩:∃x,BitVec.ofNat 32 m=x:=⟨_,rfl⟩;obtain⟨y,hy⟩:∃y,BitVec.ofNat 32 (m/4294967296)=y:=⟨_,rfl⟩;have h1:IntKind.u32.wrap (m:Int)=(x.toNat:Int):=by rw[←hx,IntKind.wrap_u32,BitVec.toNat_ofNat];omega
 have h2:IntKind.u32.wrap ((m:Int)/4294967296)=(y.toNat:Int):=by rw[←hy,IntKind.wrap_u32,BitVec.toNat_ofNat];omega
 rw[hx,hy] at hv;have HV:=zH hv;clear hv hx hy;go_enter Tryz.func172,Tryz.ntmps172;go_wp2_with fail;have hb:Below w.heap.size w (w.alloc (.cells #[.int .u32 (x.toNat:Int),.int .u32 (y.toNat:Int)] 98)):=(Below.refl _ _).alloc (aaW _) _;have hr:RS (w.alloc (.cells #[.int .u32 (x.toNat:Int),.int .u32 (y.toNat:Int)] 98)) (fun b=>b<(w.alloc (.cells #[.int .u32 (x.toNat:Int),.int .u32 (y.toNat:Int)] 98)).heap.size) (some ⟨w.heap.size,0,none⟩) 2 2 [x,y]:=
  RS.of_blk (t:=98) (cs:=#[.int .u32 (x.toNat:Int),.int .u32 (y.toNat:Int)]) (dy.new _ _ _) (Flat.limbs [x,y]) rfl (aaW _) (by decide) (by simp)
 refine(CL hr (fun _ h=>h) (by omega)).mono ?_;rintro e w2 ⟨v,rfl,ho,bZ⟩;rw[HV.out] at ho;have HO:=zH (ho.base_le (aa7 hb.size (aaW _)));have HB:=zH (ak hb bZ);clear ho hb bZ hr h1 h2;go_wp2_with fail;go_ret
 exact⟨_,rfl,HO.out,HB.out⟩
abbrev sBs:SS:=sD (.list .bool)
abbrev Ans (w:World) (S:Nat→Prop) (x:XV) (e:Ending) (w':World):Prop:=∃v S',e=.returned v∧Below w.heap.size w w'∧(∀b,S' b→(false=true∧S b)∨(w.heap.size≤b∧b<w'.heap.size))∧XR [] w' S' x v
section
variable {w w':World} {S:Nat→Prop} {ty:TypeId} {e:Ending} {P:Program} {f:FuncId}
theorem KL {t:Ty} {xs:List (El t)} (h:jF w ty xs e w'):Ans w S (.one (.list t xs false)) e w':=by
 obtain⟨A,q,c,rfl,_,h1,h2⟩:=h.fr;exact⟨_,cQ w w',rfl,h2,fun b q=>.inr q,A,q,c,rfl,h1,fun e=>by cases e⟩
theorem aiK {v:Value} (hv:v.oneCell'=true) (h:gL w v e w'):Ans w S (.one (.sym v)) e w':=⟨_,fun _=>False,h.1,h.2▸Below.refl _ _,fun _ q=>q.elim,rfl,hv⟩
abbrev L1 (t:Ty) (p:List (El t)→Prop) (F:List (El t)→XV):List XV→T XV:=aX [(0,sD (.list t))] fun((xs:List (El t)),_)=>.nd (p xs) (.lf (F xs))
abbrev L2 (t:Ty) (p:List (El t)→List (El t)→Prop) (F:List (El t)→List (El t)→XV):List XV→T XV:=aX [(0,sD (.list t)),(1,sD (.list t))] fun((xs:List (El t)),(ys:List (El t)),_)=>.nd (p xs ys) (.lf (F xs ys))
theorem Ym {t:Ty} {p:List (El t)→Prop} {F:List (El t)→XV} (h:∀(S:Nat→Prop) (A:Option Addr) (c:Nat) (xs:List (El t)) (w:World),p xs→RS w S A xs.length c xs→(∀b,S b→b<w.heap.size)→Calls P f #[.slice A xs.length c] w (Ans w S (F xs))):ax P f false (L1 t p F):=
 gr fun w S x vs r hS he hl hr=>by
  obtain⟨(xs:List (El t)),_⟩:=x;obtain⟨v,h1,A,q,c,h2,h3,_⟩:=he 0 (.one (.list t xs false)) aaS;obtain⟨hp,rfl⟩:=hr
  match vs,hl,h1 with
  | [v'],_,h1=>
   injection h1 with h1
   obtain rfl:=h3.len;subst h1 h2;exact h S A c xs w hp h3 hS
theorem TB {t:Ty} {p:List (El t)→List (El t)→Prop} {F:List (El t)→List (El t)→XV} (h:∀(S:Nat→Prop) (A:Option Addr) (c:Nat) (A2:Option Addr) (c2:Nat) (xs ys:List (El t)) (w:World),p xs ys→RS w S A xs.length c xs→RS w S A2 ys.length c2 ys→(∀b,S b→b<w.heap.size)→Calls P f #[.slice A xs.length c,.slice A2 ys.length c2] w (Ans w S (F xs ys))):ax P f false (L2 t p F):=
 gr fun w S x vs r hS he hl hr=>by
  obtain⟨(xs:List (El t)),(ys:List (El t)),_⟩:=x;obtain⟨v,h1,A,q,c,h2,h3,_⟩:=he 0 (.one (.list t xs false)) aaS;obtain⟨v',i9,A',q',c',Bg,J5,_⟩:=he 1 (.one (.list t ys false)) (aa9 _ aaS);obtain⟨hp,rfl⟩:=hr
  match vs,hl,h1,i9 with
  | [u,u'],_,h1,i9=>
   injection h1 with h1
   injection i9 with i9
   obtain rfl:=h3.len;obtain rfl:=J5.len;subst h1 i9 h2 Bg;exact h S A c A' c' xs ys w hp h3 J5 hS
end
abbrev aL (t:Ty) (xs:List (El t)):XV:=.one (.list t xs false)
abbrev aBs (n:Nat):XV:=aL .bool (bits n)
def nB (k:Nat) (x:List Bool):Prop:=bits (ar x)=x∧ar x<k
theorem GM {k n:Nat} (h:n<k):nB k (bits n):=⟨by rw[bB],by rw[bB];exact h⟩
theorem nB.len {x:List Bool} (h:nB (2^200) x):x.length≤200:=by rw[←h.1];exact iY h.2 (aaW _)
theorem rQ:ax Tryz.prog 88 false (aX [(0,sI)] fun((n:Int),_)=>.nd (0≤n∧n<9223372036854775808) (.lf (.one (.list .bool (bits n.toNat) false)))):=
 gr fun w S x vs r hS he hl hr=>by
  obtain⟨(n:Int),_⟩:=x;obtain⟨v,h1,h2,_⟩:=he 0 (aI n) aaS;obtain⟨⟨hn,hn2⟩,rfl⟩:=hr
  match vs,hl,h1 with
  | [u],_,h1=>
   injection h1 with h1
   subst h1 h2;obtain⟨m,rfl⟩:∃m:Nat,n=m:=⟨n.toNat,by omega⟩;exact Calls.mono (Bv m (by omega) w) fun _ _ h=>KL (t:=.bool) h
abbrev sU:SS:=sD (.int .u64)
theorem Lh:ax Tryz.prog 172 false (aX [(0,sU)] fun((n:Int),_)=>.nd (0≤n∧n<18446744073709551616) (.lf (aBs n.toNat))):=
 gr fun w S x vs r hS he hl hr=>by
  obtain⟨(n:Int),_⟩:=x;obtain⟨v,h1,h2,_⟩:=he 0 (.one (.sym (.int .u64 n))) aaS;obtain⟨⟨hn,hn2⟩,rfl⟩:=hr
  match vs,hl,h1 with
  | [u],_,h1=>
   injection h1 with h1
   subst h1 h2;obtain⟨m,rfl⟩:∃m:Nat,n=m:=⟨n.toNat,by omega⟩;exact Calls.mono (Ll m (by omega) w) fun _ _ h=>KL (t:=.bool) h
theorem wJ:ax Tryz.prog 87 false (L1 .bool (fun(x:List Bool)=>nB (2^200) x) fun(x:List Bool)=>aS ⟨(bG (ar x)).toArray⟩):=
 Ym fun S A c (x:List Bool) w hp h hS=>Calls.mono (Kp (X:=ar x) (by rw[hp.1];exact h) hS 200 (by decide) hp.2) fun e w' h=>⟨_,fun _=>False,h.1,h.2,fun _ q=>q.elim,rfl,rfl⟩
theorem SX:ax Tryz.prog 115 false (L2 .bool (fun(x y:List Bool)=>nB (2^200) x∧nB (2^200) y) fun(x y:List Bool)=>aBs (Nat.gcd (ar x) (ar y))):=
 TB fun S A c A2 c2 (x y:List Bool) w hp h1 h2 hS=>Calls.mono (SY (X:=ar x) (Y:=ar y) (by rw[hp.1.1];exact h1) (by rw[hp.2.1];exact h2) hS hS 200 (by decide) hp.1.2 hp.2.2) fun _ _ h=>KL (t:=.bool) h
theorem Rm:ax Tryz.prog 171 false (L2 .bool (fun(x y:List Bool)=>x.length≤200∧y.length≤200) fun(x y:List Bool)=>aBs (ar x*ar y)):=
 TB fun S A c A2 c2 (x y:List Bool) w (hp:x.length≤200∧y.length≤200) h1 h2 hS=>Calls.mono (Rn (xs:=x) (ys:=y) h1 h2 hS hS (aa7 hp.1 (by decide)) (aa7 hp.2 (by decide))) fun _ _ h=>KL (t:=.bool) h
def aiO (q r:Nat):XV:=.tup [(false,[.list .bool (bits q) false]),(false,[.list .bool (bits r) false])]
theorem Po:ax Tryz.prog 113 false (L2 .bool (fun(x y:List Bool)=>x.length≤200∧y.length≤200∧0<ar y) fun(x y:List Bool)=>aiO (ar x/ar y) (ar x%ar y)):=
 TB fun S A c A2 c2 (x y:List Bool) w (hp:x.length≤200∧y.length≤200∧0<ar y) h1 h2 hS=>Calls.mono (AK (xs:=x) (ys:=y) h1 h2 hS hS (aa7 hp.1 (by decide)) (aa7 hp.2.1 (by decide)) hp.2.2) fun e w' ⟨v1,v2,e0,o1,o2,hb⟩=>by
  obtain⟨A1,m1,c1,rfl,_⟩:=o1.slice;obtain⟨A2,m2,c2,rfl,_⟩:=o2.slice;exact⟨_,cQ w w',e0,hb,fun b q=>.inr q,[_,_],rfl,.cons ⟨_,rfl,_,_,_,rfl,o1.fresh (aaW _),fun e=>by cases e⟩ (.cons ⟨_,rfl,_,_,_,rfl,o2.fresh (aaW _),fun e=>by cases e⟩ .nil)⟩
theorem Pu:ax Tryz.prog 89 false (L2 .bool (fun _ _=>True) fun(x y:List Bool)=>aI (kA (ar x) (ar y))):=
 TB fun _ _ _ _ _ (x y:List Bool) _ _ h1 h2 _=>Calls.mono (Ik (xs:=x) (ys:=y) h1 h2) fun _ _=>aiK rfl
theorem KG:ax Tryz.prog 91 false (L1 .limb (fun(x:List (BitVec 32))=>x.length≤1000000) fun(x:List (BitVec 32))=>aBs (val x)):=
 Ym fun _ _ _ (x:List (BitVec 32)) _ hp h hS=>Calls.mono (CL (xs:=x) h hS hp) fun _ _ h=>KL (t:=.bool) h
theorem TC:ax Tryz.prog 170 false (L1 .bool (fun(x:List Bool)=>x.length≤1000000∧ar x<4294967296) fun(x:List Bool)=>aL .limb (dc (ar x))):=
 Ym fun _ _ _ (x:List Bool) _ (hp:x.length≤1000000∧ar x<4294967296) h _=>Calls.mono (Vz (xs:=x) h hp.1 hp.2) fun _ _ h=>KL (t:=.limb) h
abbrev mi:=Bool×List Bool×List Bool
def QT (q:Q):mi:=(q.neg,bits q.n,bits q.d)
def uP (x:mi):Q:=⟨x.1,ar x.2.1,ar x.2.2⟩
theorem rM (q:Q):uP (QT q)=q:=by unfold uP QT;simp only[bB]
abbrev sQ:SS:=.st 9
def aQ (q:Q):XV:=.agg (lR (.st 9) (QT q))
def aR (r:Raw):XV:=.agg (lR (.st 8) r)
noncomputable def Cf1:iZ Tryz.prog:=d9 rO [⟨_,_,_,rQ⟩,⟨_,_,_,SX⟩,⟨_,_,_,Po⟩] []
def aaD:T XV:=.nd ((0:Int)≤1∧(1:Int)<9223372036854775808) (.lf (.agg [.sym (.bool false),.val (.slice none 0 0),.list .bool (bits (Int.toNat 1)) false]))
def afO (g:Bool) (x y d:List Bool):T XV:=.nd (x.length≤200∧d.length≤200∧0<ar d) (.nd (y.length≤200∧d.length≤200∧0<ar d) (.lf (.agg [.sym (.bool g),.list .bool (bits (ar x/ar d)) false,.list .bool (bits (ar y/ar d)) false])))
def Wh (g:Bool) (x y:List Bool):T XV:=.br ((x.length:Int)==0) aaD (.br ((y.length:Int)==0) aaD (.nd (nB (2^200) x∧nB (2^200) y) (afO g x y (bits (Nat.gcd (ar x) (ar y))))))
theorem aeN {w:World} {S:Nat→Prop} {v:Value} {a b:AV} (h:XR [] w S (.agg [a,.val (.slice none 0 0),b]) v):XR [] w S (.agg [a,.list .bool [] false,b]) v:=by
 obtain⟨vs,rfl,h⟩:=h;cases h with
 | cons h1 h=>
  cases h with
  | cons h2 h=>exact⟨_,rfl,.cons h1 (.cons ⟨none,0,0,h2.1,RS.nil _ _,fun e=>by cases e⟩ h)⟩
theorem nB.zero {k:Nat} {x:List Bool} (h:nB k x):((x.length:Int)==0)=decide (ar x=0):=by
 by_cases h0:ar x=0
 ·have:=h.1;rw[h0,eh] at this;subst this;rfl
 ·rw[decide_eq_false h0,beq_eq_false_iff_ne];intro e;obtain rfl:=abv (adJ.1 e);exact h0 rfl
theorem MH:ax Tryz.prog 90 true (aX [(0,sB),(1,sBs),(2,sBs)] fun((g:Bool),(x:List Bool),(y:List Bool),_)=>.nd (nB (2^200) x∧nB (2^200) y) (.lf (aQ (ek g (ar x) (ar y))))):=
 (bT (C:=Cf1) (nL _ _) true 99 [(0,sB),(1,sBs),(2,sBs)] (fun((g:Bool),(x:List Bool),(y:List Bool),_)=>Wh g x y) (fun _ _ _ h=>⟨h,.inl rfl⟩) Tryz.func90).imp fun⟨(g:Bool),(x:List Bool),(y:List Bool),_⟩ r ⟨⟨hx,hy⟩,h⟩=>by
  obtain rfl:aQ (ek g (ar x) (ar y))=r:=h;show∃q,(Wh g x y).hit q∧_;unfold Wh;rw[hx.zero,hy.zero];by_cases h0:ar x=0∨ar y=0
  ·have e:aQ (ek g (ar x) (ar y))=.agg [.sym (.bool false),.list .bool [] false,.list .bool (bits (Int.toNat 1)) false]:=by
    unfold ek;rw[if_pos h0];unfold aQ QT;rw[eh];rfl
   rw[e];refine⟨_,?_,fun w S v h=>aeN h⟩;rcases h0 with h0|h0
   ·exact bf (decide_eq_true h0) ⟨by decide,rfl⟩
   ·by_cases h1:ar x=0
    ·exact bf (decide_eq_true h1) ⟨by decide,rfl⟩
    ·exact bw (decide_eq_false h1) (bf (decide_eq_true h0) ⟨by decide,rfl⟩)
  ·have h1:ar x≠0:=fun e=>h0 (.inl e);have h2:ar y≠0:=fun e=>h0 (.inr e);have hg:0<Nat.gcd (ar x) (ar y):=Nat.gcd_pos_of_pos_left _ (by omega);have hl:(bits (Nat.gcd (ar x) (ar y))).length≤200:=iY (Nat.lt_of_le_of_lt (Nat.gcd_le_left _ (by omega)) hx.2) (aaW _);refine⟨_,bw (decide_eq_false h1) (bw (decide_eq_false h2) ⟨⟨hx,hy⟩,⟨hx.len,hl,by rw[bB];exact hg⟩,⟨hy.len,hl,by rw[bB];exact hg⟩,rfl⟩),fun w S v h=>?_⟩;rw[bB] at h;unfold ek;rw[if_neg h0];exact h
theorem tE {d:Nat}:bG d=[49]↔d=1:=by
 constructor
 ·intro h;unfold bG at h;split at h
  ·cases h
  ·rename_i h0;have h1:=congrArg List.reverse h;rw[aal,gj,dif_neg h0] at h1;injection h1 with h2 h3
   have h4:d/10=0:=by
    by_cases h:d/10=0
    ·exact h
    ·rw[gj,dif_neg h] at h3;cases h3
   have h5:=congrArg UInt8.toNat h2;unfold D8 at h5;simp at h5;omega
 ·intro h;subst h;show(if(1:Nat)=0 then[48] else(gj 1).reverse)=[49];rw[if_neg (by omega),gj,dif_neg (by omega),show 1/10=0 from rfl,gJ];rfl
theorem pf {X L:Nat} (h:X<2^L):(bG X).length≤L+2:=by
 unfold bG;split
 ·simp
 ·rw[aaH];have:=wI h;omega
def ES (n:Nat) (x:mi):Prop:=QT (uP x)=x∧(uP x).n<n∧(uP x).d<n
theorem ES.n {k m:Nat} {x:mi} (h:ES k x) (hk:k≤m):nB m x.2.1:=⟨congrArg (fun x=>x.2.1) h.1,abw h.2.1 hk⟩
theorem ES.d {k m:Nat} {x:mi} (h:ES k x) (hk:k≤m):nB m x.2.2:=⟨congrArg (fun x=>x.2.2) h.1,abw h.2.2 hk⟩
noncomputable def Cf2:iZ Tryz.prog:=d9 rO [⟨_,_,_,rQ⟩,⟨_,_,_,MH⟩,⟨_,_,_,Rm⟩,⟨_,_,_,KG⟩,⟨_,_,_,TC⟩,⟨_,_,_,Lh⟩,⟨_,_,_,wJ⟩,⟨_,_,_,Pu⟩] []
def Rc (g:Bool) (x y:Nat):T XV:=.nd (nB (2^200) (bits x)∧nB (2^200) (bits y)) (.lf (aQ (ek g (ar (bits x)) (ar (bits y)))))
theorem vp {g:Bool} {x y:Nat} (hx:x<2^200) (hy:y<2^200):(Rc g x y).hit (aQ (ek g x y)):=⟨⟨GM hx,GM hy⟩,by rw[bB,bB];rfl⟩
theorem Gb {l:List (BitVec 32)} (h:l.length≤6):val l<2^200:=by
 have h1:=ey l;have h2:4294967296^l.length≤4294967296^6:=ada (by omega) h;exact abw h1 (aa7 h2 (by decide))
theorem OB:ax Tryz.prog 55 true (aX [(0,.st 8)] fun((x:Raw),_)=>.nd (x.short 6) (.lf (aQ x.q))):=
 bT (C:=Cf2) (nL _ _) true 99 [(0,.st 8)] (fun((x:Raw),_)=>.nd (x.num.length≤1000000) (.nd (x.den.length≤1000000) (Rc x.neg (val x.num) (val x.den)))) (fun⟨(x:Raw),_⟩ r _ ⟨hs,h⟩=>by
  obtain rfl:aQ x.q=r:=h;exact⟨⟨aa7 hs.1 (by decide),aa7 hs.2 (by decide),vp (Gb hs.1) (Gb hs.2)⟩,.inl rfl⟩) Tryz.func55
def toB (x:mi):T XV:=.nd (x.2.1.length≤1000000∧ar x.2.1<4294967296) (.nd (x.2.2.length≤1000000∧ar x.2.2<4294967296) (.lf (aR (uP x).raw)))
theorem Vy:ax Tryz.prog 142 true (aX [(0,sQ)] fun((x:mi),_)=>.nd (ES 4294967296 x) (.lf (aR (uP x).raw))):=
 bT (C:=Cf2) (nL _ _) true 99 [(0,sQ)] (fun((x:mi),_)=>toB x) (fun⟨(x:mi),_⟩ r _ ⟨hs,h⟩=>by
  obtain rfl:aR (uP x).raw=r:=h;exact⟨⟨⟨aa7 (hs.n (m:=2^200) (by decide)).len (by decide),hs.2.1⟩,⟨aa7 (hs.d (m:=2^200) (by decide)).len (by decide),hs.2.2⟩,rfl⟩,.inl rfl⟩) Tryz.func142
def ofY (g:Bool) (u:Int):T XV:=.nd (0≤u∧u<18446744073709551616) (.nd ((0:Int)≤1∧(1:Int)<9223372036854775808) (Rc g u.toNat (Int.toNat 1)))
theorem Wc:ax Tryz.prog 144 true (aX [(0,sI)] fun((n:Int),_)=>.nd (0≤n∧n<9223372036854775808) (.lf (aQ (ek false n.toNat 1)))):=
 bT (C:=Cf2) (nL _ _) true 99 [(0,sI)] (fun((n:Int),_)=>.br (decide (n<0)) (.nd (du (n+1)) (ofY true (IntKind.u64.wrap (IntKind.u64.wrap (IntKind.i64.wrap (0-(n+1)))+1)))) (ofY false (IntKind.u64.wrap n))) (fun⟨(n:Int),_⟩ r _ ⟨hs,h⟩=>by
  obtain rfl:aQ (ek false n.toNat 1)=r:=h;refine⟨bw (decide_eq_false (by omega)) ?_,.inl rfl⟩;have e:IntKind.u64.wrap n=n:=by rw[IntKind.wrap_u64];omega
  rw[e];exact⟨⟨hs.1,by omega⟩,by decide,vp (abw (show n.toNat<9223372036854775808 by omega) (by decide)) (by decide)⟩) Tryz.func144
def Kl (x y:Q):Q:=ek (x.neg !=y.neg) (x.n*y.d) (x.d*y.n)
def dvB (x y:mi):T XV:=.nd (x.2.1.length≤200∧y.2.2.length≤200) (.nd (x.2.2.length≤200∧y.2.1.length≤200) (Rc (x.1 !=y.1) (ar x.2.1*ar y.2.2) (ar x.2.2*ar y.2.1)))
theorem GN {x y:Nat} (hx:x<2^100) (hy:y<2^100):x*y<2^200:=Nat.lt_of_lt_of_eq (Nat.mul_lt_mul'' hx hy) (by rw[←Nat.pow_add])
theorem Tl:ax Tryz.prog 143 true (aX [(0,sQ),(1,sQ)] fun((x:mi),(y:mi),_)=>.nd (ES (2^100) x∧ES (2^100) y) (.lf (aQ (Kl (uP x) (uP y))))):=
 bT (C:=Cf2) (nL _ _) true 99 [(0,sQ),(1,sQ)] (fun((x:mi),(y:mi),_)=>dvB x y) (fun⟨(x:mi),(y:mi),_⟩ r _ ⟨⟨hx,hy⟩,h⟩=>by
  obtain rfl:aQ (Kl (uP x) (uP y))=r:=h;have l:2^100≤2^200:=ada (by omega) (by omega);exact⟨⟨⟨(hx.n l).len,(hy.d l).len⟩,⟨(hx.d l).len,(hy.n l).len⟩,vp (GN hx.2.1 hy.2.2) (GN hx.2.2 hy.2.1)⟩,.inl rfl⟩) Tryz.func143
def U9 (n:Nat):ByteArray:=⟨(bG n).toArray⟩
def txE (s:ByteArray) (y:List Bool):T XV:=.nd ((0:Int)≤1∧(1:Int)<9223372036854775808) (.nd True (.br (!(kA (ar y) (ar (bits (Int.toNat 1)))==0)) (.nd (nB (2^200) y) (.nd ((⟨#[47]⟩:ByteArray).size+(U9 (ar y)).size≤9223372036854775807) (.nd (s.size+((⟨#[47]⟩:ByteArray)++U9 (ar y)).size≤9223372036854775807) (.lf (aS (s++(⟨#[47]⟩++U9 (ar y)))))))) (.lf (aS s))))
def txT (x:mi):T XV:=.nd (nB (2^200) x.2.1) (.br x.1 (.nd ((⟨#[45]⟩:ByteArray).size+(U9 (ar x.2.1)).size≤9223372036854775807) (txE (⟨#[45]⟩++U9 (ar x.2.1)) x.2.2)) (txE (U9 (ar x.2.1)) x.2.2))
theorem Dd {n:Nat} (h:n<2^200):(U9 n).size≤202:=by
 show(bG n).toArray.size≤202;rw[abW];exact pf h
theorem Gd {s:List UInt8} {y:List Bool} (hy:nB (2^200) y) (hs:s.length≤1000):(txE ⟨s.toArray⟩ y).hit (aS ⟨(s++(if bG (ar y)=[49] then[] else 47::bG (ar y))).toArray⟩):=by
 have hl:=Dd hy.2;refine⟨by decide,trivial,?_⟩;rw[bB];by_cases h:ar y=1
 ·rw[if_pos (tE.2 h),ado];exact bw (by rw[h];rfl) rfl
 ·rw[if_neg fun e=>h (tE.1 e)];refine bf ?_ ⟨hy,?_,?_,?_⟩
  ·unfold kA;rw[show Int.toNat 1=1 from rfl];rcases Nat.lt_or_ge (ar y) 1 with g|g
   ·rw[if_pos g];rfl
   ·rw[if_neg (by omega),if_neg h];rfl
  ·show 1+_≤_;omega
  ·rw[ByteArray.size_append];show s.toArray.size+(1+_)≤_;rw[abW];omega
  ·exact congrArg aS ((congrArg (fun t=>_++t) (fY [47] _)).trans (fY _ _))
theorem LD:ax Tryz.prog 54 false (aX [(0,sQ)] fun((x:mi),_)=>.nd (ES (2^200) x) (.lf (aS ⟨(ik (uP x)).toArray⟩))):=
 bT (C:=Cf2) (nL _ _) false 99 [(0,sQ)] (fun((x:mi),_)=>txT x) (fun⟨⟨(g:Bool),(x:List Bool),(y:List Bool)⟩,_⟩ r _ ⟨hs,h⟩=>by
  obtain rfl:aS ⟨(ik (uP (g,x,y))).toArray⟩=r:=h;have hx:nB (2^200) x:=hs.n (aaW _);have hl:=pf hx.2;refine⟨⟨hx,?_⟩,.inr rfl⟩;unfold ik;cases g with
  | true=>
   refine bf rfl ⟨?_,?_⟩
   ·have:=Dd hx.2;show 1+(U9 (ar x)).size≤_;omega
   ·have:=Gd (s:=[45]++bG (ar x)) (hs.d (aaW _)) (by simp only[aa8,ab2];omega);rw[←fY] at this;exact this
  | false=>exact bw rfl (Gd (s:=bG (ar x)) (hs.d (aaW _)) (by omega))) Tryz.func54
theorem FC (c:UInt8):digitB c=true↔48≤c.toNat∧c.toNat≤57:=by unfold digitB;simp
theorem vj:∀(l:List UInt8) (n:Int),(∀x∈l,digitB x=true)→0≤n→0≤l.foldl dn n∧l.foldl dn n≤(n+1)*10^l.length-1
 | [],n,_,hn=>⟨hn,by simp⟩
 | x::l,n,h,hn=>by
  have hx:=(FC x).1 (h x (by simp));have h1:0≤dn n x∧dn n x≤10*n+9:=by unfold dn;omega
  have ih:=vj l (dn n x) (fun y hy=>h y (by simp[hy])) h1.1;rw[adx,abs];refine⟨ih.1,Int.le_trans ih.2 ?_⟩;obtain⟨P,hP⟩:∃P:Int,(10:Int)^l.length=P:=⟨_,rfl⟩;have hP0:0≤P:=by rw[←hP];exact Int.pow_nonneg (by omega)
  rw[Int.pow_succ,hP];have h2:(dn n x+1)*P≤(10*n+10)*P:=Int.mul_le_mul_of_nonneg_right (by omega) hP0;have h3:(n+1)*(P*10)=(10*n+10)*P:=by rw[Int.mul_comm P 10,←Int.mul_assoc];congr 1;omega
  omega
theorem vm {l:List UInt8} (h:(dz l).2=true):0≤(dz l).1∧(dz l).1≤999999:=by
 have h':kq l=true:=h;unfold kq at h';simp only[aaO,decide_eq_true_eq] at h';obtain⟨h1,h2,h3,_⟩:=h';have h4:=vj (l.take 6) 0 (fun x hx=>abq.1 h1 x (List.mem_of_mem_take hx)) (by omega);have h5:(10:Int)^(l.take 6).length≤1000000:=by
  have e:(10:Int)^(l.take 6).length=((10^(l.take 6).length:Nat):Int):=by simp
  rw[e];have:10^(l.take 6).length≤10^6:=ada (by omega) (by rw[ab4];omega);omega
 show 0≤(l.take 6).foldl dn 0∧(l.take 6).foldl dn 0≤999999;omega
theorem GQ (a:Nat):ek false a 1=⟨false,a,1⟩:=by
 unfold ek;split
 ·rename_i h;rcases h with h|h
  ·rw[h]
  ·omega
 ·rw[Nat.gcd_one_right,Nat.div_one]
theorem MV (neg:Bool) (a b:Nat):(ek neg a b).n≤a∧(ek neg a b).d≤max b 1:=by
 unfold ek;split
 ·exact⟨abS _,by show 1≤_;omega⟩
 ·exact⟨Nat.div_le_self _ _,aa7 (Nat.div_le_self _ _) (by omega)⟩
theorem Yb {l:List UInt8} {i:Nat} (hx:l[i]?=some 47) (h:∀j x,j<i→l[j]?=some x→x≠47):jc l=true∧dU l=l.take i∧dH l=l.drop (i+1):=by
 refine⟨?_,?_,?_⟩
 ·unfold jc;rw[List.contains_eq_mem];simpa using acS hx
 ·unfold dU;induction l generalizing i with
  | nil=>cases hx
  | cons y l ih=>
   cases i with
   | zero=>simp at hx;subst hx;simp
   | succ i=>
    have hy:=h 0 y (by omega) rfl;rw[List.takeWhile_cons,if_pos (by simpa using hy),List.take_succ_cons];congr 1
    exact ih (i:=i) (by simpa using hx) (fun j x hj hx=>h (j+1) x (by omega) (by simpa using hx))
 ·unfold dH;induction l generalizing i with
  | nil=>cases hx
  | cons y l ih=>
   cases i with
   | zero=>simp at hx;subst hx;simp
   | succ i=>
    have hy:=h 0 y (by omega) rfl;rw[List.dropWhile_cons,if_pos (by simpa using hy),List.drop_succ_cons];exact ih (i:=i) (by simpa using hx) (fun j x hj hx=>h (j+1) x (by omega) (by simpa using hx))
theorem Ya {l:List UInt8} (h:∀(j:Nat) (x:UInt8),l[j]?=some x→x≠47):jc l=false:=by
 unfold jc;rw[List.contains_eq_mem,decide_eq_false_iff_not];intro hm;obtain⟨j,hj,e⟩:=List.getElem_of_mem hm;exact h j _ (aac hj) e
noncomputable def C5:iZ Tryz.prog:=d9 rO [⟨_,_,_,oA⟩,⟨_,_,_,Wc⟩,⟨_,_,_,Tl⟩,⟨_,_,_,Vy⟩] [⟨_,_,_,_,_,kw⟩,⟨_,_,_,_,_,rK⟩]
abbrev sRb:SS:=.box 28 [.d .bool,.d (.list .limb),.d (.list .limb)]
abbrev TZ:=fc [.d .bool,.d (.list .limb),.d (.list .limb)]
abbrev rkL:List (Nat×SS):=[(0,sN),(3,KT),(4,sRb),(5,sS),(6,sI)]
abbrev rkO:List (Nat×SS):=[(0,sN),(3,KT),(4,sRb)]
abbrev TW:=LE rkL rkO [(0,sN)]
def VN (x:gK) (f:zj) (r:TZ) (s:ByteArray) (i:Int):TW:=.back (x,f,r,s,i,())
def u7 (x:gK) (f:zj) (r:TZ):TW:=.out (x,f,r,())
def u6 (a:XV) (x:gK):TW:=.ret a (x,())
def rZ:XV:=.agg [.val (.bool false),.val (.slice none 0 0),.val (.slice none 0 0)]
def rk4 (x:gK) (f:zj):T TW:=.nd ((0:Int)≠4) (.lf (u6 rZ (x.note 4 f.ln)))
def KU (n:Int):mi:=QT (ek false n.toNat 1)
def rkD (x:gK) (a b:Int):T TW:=.nd (0≤a∧a<9223372036854775808) (.nd (0≤b∧b<9223372036854775808) (.nd (ES (2^100) (KU a)∧ES (2^100) (KU b)) (.nd (ES 4294967296 (QT (Kl (uP (KU a)) (uP (KU b))))) (.lf (u6 (aR (uP (QT (Kl (uP (KU a)) (uP (KU b))))).raw) x)))))
def rkC (x:gK) (f:zj) (r:TZ) (p q:Int×Bool):T TW:=.br (!p.2) (.lf (u7 x f r)) (.br (!q.2) (.lf (u7 x f r)) (.br (q.1==0) (rk4 x f) (.nd (du (1000*p.1)) (.br (decide (1000*p.1<q.1)) (rk4 x f) (.nd (du (2*p.1)) (.br (decide (2*p.1>q.1)) (rk4 x f) (rkD x p.1 q.1)))))))
def rkB (x:gK) (f:zj) (r:TZ) (s:ByteArray) (i:Int):T TW:=.br (decide (i<s.size)) (.nd (0≤i∧i<s.size) (.br (!(((s.data.toList.getD i.toNat 0).toNat:Int)==47)) (.nd (du (i+1)) (.lf (VN x f r s (i+1))))
 (.nd ((0:Int)≤0∧0≤i∧i≤s.size) (.nd ((s.extract (Int.toNat 0) i.toNat).size≤9223372036854775807) (.nd (du (i+1)) (.nd (0≤i+1∧i+1≤s.size∧(s.size:Int)≤s.size) (.nd ((s.extract (i+1).toNat (s.size:Int).toNat).size≤9223372036854775807) (rkC x f r (dz (s.extract (Int.toNat 0) i.toNat).data.toList) (dz (s.extract (i+1).toNat (s.size:Int).toNat).data.toList)))))))))
 (.lf (u7 x f r))
def VM (x:gK) (f:zj) (r:TZ) (l:List UInt8):T TW:=.br (decide ((dP l).1=5)) (.lf (u7 x f r)) (.br (decide ((dP l).1=4)) (.lf (u6 rZ (x.note 4 f.ln))) (.lf (u6 (aR (dP l).2) x)))
def rkN (l:List UInt8) (i:Int):Prop:=0≤i∧i≤l.length∧l.length≤9223372036854775807∧∀(j:Nat) (x:UInt8),j<i.toNat→l[j]?=some x→x≠47
theorem QM {x:gK} {f:zj} {r:TZ} {l p q:List UInt8} (hF:jc l=true) (hA:dU l=p) (hB:dH l=q) {z:TW} (h:(VM x f r l).hit z):(rkC x f r (dz p) (dz q)).hit z:=by
 have hr:dP l=if((dz p).2&&(dz q).2)=false then(5,⟨false,[],[]⟩) else if(dz q).1=0∨1000*(dz p).1<(dz q).1∨(dz q).1<2*(dz p).1 then(4,⟨false,[],[]⟩) else(0,(ek false (dz p).1.toNat (dz q).1.toNat).raw):=by
  unfold dP;rw[hF,hA,hB];simp
 unfold VM at h;rw[hr] at h;have out:((dz p).2&&(dz q).2)=false→u7 x f r=z:=fun e=>by rw[if_pos e] at h;exact h.1 rfl
 have four:((dz p).2&&(dz q).2)=true→((dz q).1=0∨1000*(dz p).1<(dz q).1∨(dz q).1<2*(dz p).1)→(rk4 x f).hit z:=fun e e2=>by
  rw[if_neg (by rw[e];simp),if_pos e2] at h;exact⟨by decide,(h.2 rfl).1 rfl⟩
 unfold rkC;cases hp:(dz p).2 with
 | false=>exact bf rfl (out (by rw[hp];rfl))
 | true=>
  refine bw rfl ?_;cases hq:(dz q).2 with
  | false=>exact bf rfl (out (by rw[hp,hq];rfl))
  | true=>
   have e:((dz p).2&&(dz q).2)=true:=by rw[hp,hq];rfl
   obtain⟨p0,p1⟩:=vm hp;obtain⟨q0,q1⟩:=vm hq;refine bw rfl ⟨fun e0=>four e (.inl (beq_iff_eq.1 e0)),fun e0=>⟨⟨by omega,by omega⟩,⟨fun e1=>four e (.inr (.inl (of_decide_eq_true e1))),fun e1=>⟨⟨by omega,by omega⟩,⟨fun e2=>four e (.inr (.inr (of_decide_eq_true e2))),fun e2=>?_⟩⟩⟩⟩⟩;have e0:=beq_eq_false_iff_ne.1 e0;have e1:=of_decide_eq_false e1;have e2:=of_decide_eq_false e2;rw[if_neg (by rw[e];simp),if_neg (by omega)] at h;have h:=(h.2 rfl).2 rfl;have h:u6 (aR (ek false (dz p).1.toNat (dz q).1.toNat).raw) x=z:=h;subst h;have u:∀n:Int,uP (KU n)=⟨false,n.toNat,1⟩:=fun n=>by unfold KU;rw[rM,GQ]
   have ok:∀(n:Int) (m:Nat),n.toNat<m→1<m→ES m (KU n):=fun n m h h1=>by
    unfold ES;rw[u];exact⟨by unfold KU;rw[GQ],h,h1⟩
   have hd:Kl (uP (KU (dz p).1)) (uP (KU (dz q).1))=ek false (dz p).1.toNat (dz q).1.toNat:=by
    rw[u,u];unfold Kl;simp
   have xG:=MV false (dz p).1.toNat (dz q).1.toNat;refine⟨⟨p0,by omega⟩,⟨q0,by omega⟩,⟨ok _ _ (by omega) (by omega),ok _ _ (by omega) (by omega)⟩,?_,?_⟩
   ·rw[hd];unfold ES;rw[rM];exact⟨rfl,by omega,by omega⟩
   ·rw[hd,rM];rfl
theorem QN:fO (Kh C5 Tryz.f111 pN) 0 0 rkL rkO [(0,sN)] fun((x:gK),(f:zj),(r:TZ),(s:ByteArray),(i:Int),_)=>.nd (rkN s.data.toList i) (VM x f r s.data.toList):=by
 refine fS _ (nL _ _) 99 0 0 rkL rkO [(0,sN)] (fun((x:gK),(f:zj),(r:TZ),(s:ByteArray),(i:Int),_)=>rkB x f r s i) (fun(_,_,_,(s:ByteArray),(i:Int),_)=>s.size-i.toNat) ?_;rintro⟨(x:gK),(f:zj),(r:TZ),(s:ByteArray),(i:Int),_⟩ z _ ⟨⟨h0,h1,h2,h3⟩,h⟩;have bM:s.data.toList.length=s.size:=abI;obtain⟨k,rfl⟩:∃k:Nat,i=k:=⟨i.toNat,by omega⟩;show∃q,(rkB x f r s k).hit q∧_;unfold rkB;by_cases hk:k<s.size
 ·have hx:s.data.toList[k]?=some (s.data.toList.getD k 0):=by rw[aar,aac (by omega)];rfl
  by_cases hc:s.data.toList.getD k 0=47
  ·obtain⟨c1,c2,c3⟩:=Yb (l:=s.data.toList) (i:=k) (by rw[hx,hc]) h3;have e1:(s.extract (Int.toNat 0) (k:Int).toNat)=⟨(s.data.toList.take k).toArray⟩:=qU s k;have e2:(s.extract ((k:Int)+1).toNat (s.size:Int).toNat)=⟨(s.data.toList.drop (k+1)).toArray⟩:=extract_drop s (k+1);refine⟨z,bf (decide_eq_true (by omega)) ⟨⟨by omega,by omega⟩,bw (by rw[aaf,hc];rfl) ⟨⟨by omega,by omega,by omega⟩,?_,⟨by omega,by omega⟩,⟨by omega,by omega,by omega⟩,?_,QM c1 ?_ ?_ h⟩⟩,?_⟩
   ·rw[e1];show(List.take k s.data.toList).toArray.size≤_;rw[abW,ab4];omega
   ·rw[e2];show(List.drop (k+1) s.data.toList).toArray.size≤_;rw[abW,acL];omega
   ·rw[c2,e1]
   ·rw[c3,e2]
   ·have h:(VM x f r s.data.toList).hit z:=h;unfold VM at h;rcases hB h with⟨_,h⟩|⟨_,h⟩
    ·obtain rfl:u7 x f r=z:=h;rfl
    ·rcases hB h with⟨_,h⟩|⟨_,h⟩
     ·obtain rfl:u6 rZ (x.note 4 f.ln)=z:=h;rfl
     ·obtain rfl:u6 (aR (dP s.data.toList).2) x=z:=h;rfl
  ·refine⟨_,bf (decide_eq_true (by omega)) ⟨⟨by omega,by omega⟩,bf ?_ ⟨⟨by omega,by omega⟩,rfl⟩⟩,?_,⟨by omega,by omega,h2,fun j y hj hy=>?_⟩,h⟩
   ·rw[aaf,acD,beq_eq_false_iff_ne];intro e;exact hc (UInt8.toNat_inj.1 (by have:(47:UInt8).toNat=47:=rfl;omega))
   ·show s.size-(k+1)<s.size-k;omega
   ·by_cases wl:j=k
    ·subst wl;rw[hx] at hy;exact aae hy▸hc
    ·exact h3 j y (by omega) hy
 ·refine⟨z,bw (decide_eq_false (by omega)) ?_,?_⟩
  all_goals
   have JY:jc s.data.toList=false:=Ya fun j y hy=>h3 j y (by have:=(aab.1 hy).1;omega) hy;have h:(VM x f r s.data.toList).hit z:=h;have h5:(dP s.data.toList).1=5:=by unfold dP;rw[if_pos (.inl JY)]
   unfold VM at h;have h:=h.1 (decide_eq_true h5);obtain rfl:u7 x f r=z:=h;rfl
theorem Me (l:List UInt8):(dP l).1=5∨(dP l).1=4∨(dP l).1=0:=by
 unfold dP;split
 ·exact .inl rfl
 ·split
  ·exact .inr (.inl rfl)
  ·exact .inr (.inr rfl)
def rZs:XV:=.agg [.sym (.bool false),.val (.slice none 0 0),.val (.slice none 0 0)]
def DZ (f:ao):List UInt8:=(bi f.vals).data.toList
theorem Md:fV Tryz.prog 111 pN [(0,sN),(1,sF)] [(0,sN)] fun((x:gK),(f:ao),_)=>.nd ((bi f.vals).size≤9223372036854775807) (.br (decide ((dP (DZ f)).1=0)) (.lf (an (aR (dP (DZ f)).2) (x.note (jy f.vals) f.line))) (.lf (an rZs (x.note (jy f.vals) f.line)))):=by
 refine kx (C:=C5) (pb:=pN) ((nL _ _).add 0 _ QN) 99 [(0,sN),(1,sF)] [(0,sN)] (fun((x:gK),(f:ao),_)=>.nd (rkN (DZ f) 0) (.br (decide ((dP (DZ f)).1=5)) (.nd ((0:Int)≠5) (.lf (an rZs ((x.note (dD f.vals) f.line).note 5 f.line)))) (.br (decide ((dP (DZ f)).1=4)) (.lf (an rZs ((x.note (dD f.vals) f.line).note 4 f.line))) (.lf (an (aR (dP (DZ f)).2) (x.note (dD f.vals) f.line)))))) ?_ Tryz.func111;rintro⟨(x:gK),(f:ao),_⟩ r _ ⟨hs,h⟩;refine⟨⟨by omega,by omega,by have:(DZ f).length=(bi f.vals).size:=abI;omega,fun j y hj=>absurd hj (Nat.not_lt_zero _)⟩,?_⟩;have h0:f.vals.length≠1→(dP (DZ f)).1=5:=fun e=>by unfold DZ bi;rw[if_pos e];rfl
 have hc:∀c,(dP (DZ f)).1=c→(if dD f.vals=0 then c else dD f.vals)=jy f.vals:=fun c e=>by
  unfold jy dD;by_cases hv:f.vals.length≠1
  ·rw[if_pos hv,if_pos hv];rfl
  ·rw[if_neg hv,if_neg hv,if_pos rfl];exact e.symm
 rcases Me (DZ f) with e|e|e
 ·have h:=h.2 (by rw[e];rfl);obtain rfl:an rZs (x.note (jy f.vals) f.line)=r:=h;exact bf (by rw[e];rfl) ⟨by decide,DC (hc 5 e)⟩
 ·have h:=h.2 (by rw[e];rfl);obtain rfl:an rZs (x.note (jy f.vals) f.line)=r:=h;exact bw (by rw[e];rfl) (bf (by rw[e];rfl) (DC (hc 4 e)))
 ·have h:=h.1 (by rw[e];rfl);obtain rfl:an (aR (dP (DZ f)).2) (x.note (jy f.vals) f.line)=r:=h;refine bw (by rw[e];rfl) (bw (by rw[e];rfl) (KN ?_));have:=hc 0 e;by_cases hv:f.vals.length=1
  ·rw[←this];split
   ·assumption
   ·rfl
  ·have:=h0 hv;omega
noncomputable def C6:iZ Tryz.prog:=d9 rO [] [⟨_,_,_,_,_,Nw⟩,⟨_,_,_,_,_,vM⟩,⟨_,_,_,_,_,Md⟩,⟨_,_,_,_,_,Bz⟩]
abbrev stM:List CS:=[.d .str,.d tI,.d tI,.d tI,.d (.list .str),.any,.any,.d tI,.d tI,.d .bool,.d (.list .limb),.d (.list .limb),.d tI,.d .str,.any,.any,.any,.d tI,.d tI]
abbrev sM:SS:=.box 104 stM
abbrev pM:List Nat:=[0,1,2,3,4,5]
abbrev StM:=fc stM
def StM.f (x:StM):Int×Int:=(x.2.2.2.2.2.2.2.2.2.2.2.2.2.2.2.2.2.1,x.2.2.2.2.2.2.2.2.2.2.2.2.2.2.2.2.2.2.1)
def StM.setF (x:StM) (p:Int×Int):StM:=(x.1,x.2.1,x.2.2.1,x.2.2.2.1,x.2.2.2.2.1,x.2.2.2.2.2.1,x.2.2.2.2.2.2.1,x.2.2.2.2.2.2.2.1,x.2.2.2.2.2.2.2.2.1,x.2.2.2.2.2.2.2.2.2.1,x.2.2.2.2.2.2.2.2.2.2.1,x.2.2.2.2.2.2.2.2.2.2.2.1,x.2.2.2.2.2.2.2.2.2.2.2.2.1,x.2.2.2.2.2.2.2.2.2.2.2.2.2.1,x.2.2.2.2.2.2.2.2.2.2.2.2.2.2.1,x.2.2.2.2.2.2.2.2.2.2.2.2.2.2.2.1,x.2.2.2.2.2.2.2.2.2.2.2.2.2.2.2.2.1,p.1,p.2,())
def StM.note (x:StM) (no line:Int):StM:=x.setF (nt x.f no line)
abbrev DD (r:XV) (x:StM):XV×StM×Unit:=(r,x,())
abbrev SRM:=XV×StM×Unit
namespace StM
def dots (x:StM) (v:Int):StM:=(x.1,v,x.2.2)
def blank (x:StM) (v:Int):StM:=(x.1,x.2.1,v,x.2.2.2)
def marked (x:StM) (v:Int):StM:=(x.1,x.2.1,x.2.2.1,v,x.2.2.2.2)
def prec (x:StM) (v:List ByteArray):StM:=(x.1,x.2.1,x.2.2.1,x.2.2.2.1,v,x.2.2.2.2.2)
def scan (x:StM) (v:Int):StM:=(x.1,x.2.1,x.2.2.1,x.2.2.2.1,x.2.2.2.2.1,x.2.2.2.2.2.1,x.2.2.2.2.2.2.1,v,x.2.2.2.2.2.2.2.2)
def batch (x:StM) (v:Int):StM:=(x.1,x.2.1,x.2.2.1,x.2.2.2.1,x.2.2.2.2.1,x.2.2.2.2.2.1,x.2.2.2.2.2.2.1,x.2.2.2.2.2.2.2.1,v,x.2.2.2.2.2.2.2.2.2)
def risk (x:StM) (v:Raw):StM:=(x.1,x.2.1,x.2.2.1,x.2.2.2.1,x.2.2.2.2.1,x.2.2.2.2.2.1,x.2.2.2.2.2.2.1,x.2.2.2.2.2.2.2.1,x.2.2.2.2.2.2.2.2.1,v.neg,v.num,v.den,x.2.2.2.2.2.2.2.2.2.2.2.2)
def cell (x:StM) (v:Int):StM:=(x.1,x.2.1,x.2.2.1,x.2.2.2.1,x.2.2.2.2.1,x.2.2.2.2.2.1,x.2.2.2.2.2.2.1,x.2.2.2.2.2.2.2.1,x.2.2.2.2.2.2.2.2.1,x.2.2.2.2.2.2.2.2.2.1,x.2.2.2.2.2.2.2.2.2.2.1,x.2.2.2.2.2.2.2.2.2.2.2.1,v,x.2.2.2.2.2.2.2.2.2.2.2.2.2)
def seed (x:StM) (v:ByteArray):StM:=(x.1,x.2.1,x.2.2.1,x.2.2.2.1,x.2.2.2.2.1,x.2.2.2.2.2.1,x.2.2.2.2.2.2.1,x.2.2.2.2.2.2.2.1,x.2.2.2.2.2.2.2.2.1,x.2.2.2.2.2.2.2.2.2.1,x.2.2.2.2.2.2.2.2.2.2.1,x.2.2.2.2.2.2.2.2.2.2.2.1,x.2.2.2.2.2.2.2.2.2.2.2.2.1,v,x.2.2.2.2.2.2.2.2.2.2.2.2.2.2)
end StM
def sW (x:StM) (kind:ByteArray) (f:ao):StM:=
 if aH kind f.key=aH aP cZ then(x.note (jo f.vals 2 7) f.line).dots (i6 f.vals)
 else if aH kind f.key=aH aP bp then(x.note (jo f.vals 1 100) f.line).blank (i6 f.vals)
 else if aH kind f.key=aH aP aZ then(x.note (jo f.vals 1 100) f.line).marked (i6 f.vals)
 else if aH kind f.key=aH au bV then(x.note (jo f.vals 1 6) f.line).scan (i6 f.vals)
 else if aH kind f.key=aH au bW then(x.note (jo f.vals 1 16) f.line).batch (i6 f.vals)
 else if aH kind f.key=aH ae bU then(x.note (eD f.vals 12) f.line).prec f.vals
 else if aH kind f.key=aH aO bJ then(x.note (jy f.vals) f.line).risk (dP (DZ f)).2
 else if aH kind f.key=aH aO cH then(x.note (kI f.vals) f.line).seed (bi f.vals)
 else if aH kind f.key=aH aW dB then(x.note (jo f.vals 1 400) f.line).cell (i6 f.vals)
 else x
def jn (a b:ByteArray):ByteArray:=⟨(aH a b).toArray⟩
def Nr (k key a b:ByteArray):Bool:=(k++⟨#[32]⟩++key).toList==(jn a b).toList
theorem mF {k key a b:ByteArray}:aH k key=aH a b↔Nr k key a b=true:=by
 unfold Nr;rw[zm];constructor
 ·intro h;refine ByteArray.ext (Array.ext' ?_);simpa[aH,jn] using h
 ·intro h;have:=congrArg (fun b=>b.data.toList) h;simpa[aH,jn] using this
def fdV (x:StM) (f:ao) (c:Int) (g:StM→StM):T SRM:=.nd ((bi f.vals).size≤9223372036854775807) (.lf (DD (.tup []) (g (x.note c f.line))))
def Zo (x:StM) (f:ao) (lo hi:Int) (g:StM→Int→StM):T SRM:=fdV x f (jo f.vals lo hi) fun y=>g y (i6 f.vals)
def fdB (x:StM) (k:ByteArray) (f:ao):T SRM:=.nd (k.size+(⟨#[32]⟩:ByteArray).size≤9223372036854775807) (.nd ((k++⟨#[32]⟩).size+f.key.size≤9223372036854775807)
 (.br (Nr k f.key aP cZ) (Zo x f 2 7 .dots) (.br (Nr k f.key aP bp) (Zo x f 1 100 .blank) (.br (Nr k f.key aP aZ) (Zo x f 1 100 .marked)
 (.br (Nr k f.key au bV) (Zo x f 1 6 .scan) (.br (Nr k f.key au bW) (Zo x f 1 16 .batch)
 (.br (Nr k f.key ae bU) (.nd (Eu f.vals∧(0:Int)≤12∧f.vals.length≤1099511627776) (.lf (DD (.tup []) ((x.note (eD f.vals 12) f.line).prec f.vals))))
 (.br (Nr k f.key aO bJ) (.nd ((bi f.vals).size≤9223372036854775807) (.br (decide ((dP (DZ f)).1=0)) (.lf (DD (.tup []) ((x.note (jy f.vals) f.line).risk (dP (DZ f)).2))) (.lf (DD (.tup []) ((x.note (jy f.vals) f.line).risk ⟨false,[],[]⟩)))))
 (.br (Nr k f.key aO cH) (fdV x f (kI f.vals) fun y=>y.seed (bi f.vals))
 (.br (Nr k f.key aW dB) (Zo x f 1 400 .cell) (.lf (DD (.tup []) x))))))))))))
def Ka (k:ByteArray) (f:ao):Prop:=fOk f∧k.size≤1152921504606846976∧f.key.size≤1152921504606846976
theorem J8:fV Tryz.prog 86 pM [(0,sM),(1,sS),(2,sF)] [(0,sM)] fun((x:StM),(k:ByteArray),(f:ao),_)=>.nd (Ka k f) (.lf (DD (.tup []) (sW x k f))):=by
 refine kx (C:=C6) (pb:=pM) (nL _ _) 99 [(0,sM),(1,sS),(2,sF)] [(0,sM)] (fun((x:StM),(k:ByteArray),(f:ao),_)=>fdB x k f) ?_ Tryz.func86;rintro⟨(x:StM),(k:ByteArray),(f:ao),_⟩ r _ ⟨⟨⟨h1,h2⟩,h3,h4⟩,hr⟩;obtain rfl:DD (.tup []) (sW x k f)=r:=hr;have hv:=Bn h1;have ho:∀c g,(fdV x f c g).hit (DD (.tup []) (g (x.note c f.line))):=fun c g=>⟨hv,rfl⟩;have e1:(⟨#[32]⟩:ByteArray).size=1:=rfl;refine⟨by omega,by rw[ByteArray.size_append];omega,?_⟩;unfold sW;refine jU (F:=DD (.tup [])) mF (ho _ _) (jU (F:=DD (.tup [])) mF (ho _ _) (jU (F:=DD (.tup [])) mF (ho _ _) (jU (F:=DD (.tup [])) mF (ho _ _) (jU (F:=DD (.tup [])) mF (ho _ _) (jU (F:=DD (.tup [])) mF ⟨⟨h1,by decide,h2⟩,rfl⟩ (jU (F:=DD (.tup [])) mF ⟨hv,?_⟩ (jU (F:=DD (.tup [])) mF (ho _ fun y=>y.seed (bi f.vals)) (jU (F:=DD (.tup [])) mF (ho _ _) rfl))))))));refine⟨fun _=>rfl,fun e=>?_⟩;have:(dP (DZ f)).2=⟨false,[],[]⟩:=by
  have e:=of_decide_eq_false e
  revert e
  unfold dP;split
  ·exact fun _=>rfl
  ·split
   ·exact fun _=>rfl
   ·exact fun e=>absurd rfl e
 rw[this];rfl
noncomputable def Z2 (t:TypeId):Option Ty:=List.lookup t [(9,.str),(3,tI),(95,.st 3),(97,.st 10),(152,.st 7),(151,.st 6)]
noncomputable def C7:iZ Tryz.prog:=d9 Z2 [⟨_,_,_,find_ok⟩,⟨_,_,_,qK⟩] [⟨_,_,_,_,_,kw⟩,⟨_,_,_,_,_,OZ⟩,⟨_,_,_,_,_,J8⟩,⟨_,_,_,_,_,vM⟩,⟨_,_,_,_,_,Od⟩]
abbrev sNb:SS:=.box 151 [.d (.list .str),.d (.list .str)]
abbrev sLb:SS:=.box 152 [.d tI,.d tI]
abbrev xd:=fc [.d (.list .str),.d (.list .str)]
abbrev xf:=fc [.d tI,.d tI]
abbrev PV:SS:=.c (.own .str 9)
abbrev bkL:List (Nat×SS):=[(0,sT),(3,sBb),(4,PV),(5,VH),(6,sNb),(7,sLb),(8,sI),(9,sI),(10,sI)]
abbrev Zp:List (Nat×SS):=[(0,sT),(3,sBb),(4,PV),(5,VH),(6,sNb),(7,sLb),(8,sI),(9,sI)]
noncomputable abbrev bfn:=Tryz.f47
def bg.m (x:bg):StM:=(x.1,x.2.1,x.2.2.1,x.2.2.2.1,x.2.2.2.2.1,(),(),x.2.2.2.2.2.2.2.1,x.2.2.2.2.2.2.2.2.1,x.2.2.2.2.2.2.2.2.2.1,x.2.2.2.2.2.2.2.2.2.2.1,x.2.2.2.2.2.2.2.2.2.2.2.1,x.2.2.2.2.2.2.2.2.2.2.2.2.1,x.2.2.2.2.2.2.2.2.2.2.2.2.2.1,(),(),(),x.f.1,x.f.2,())
def bg.setM (x:bg) (y:StM):bg:=(y.1,y.2.1,y.2.2.1,y.2.2.2.1,y.2.2.2.2.1,x.2.2.2.2.2.1,x.2.2.2.2.2.2.1,y.2.2.2.2.2.2.2.1,y.2.2.2.2.2.2.2.2.1,y.2.2.2.2.2.2.2.2.2.1,y.2.2.2.2.2.2.2.2.2.2.1,y.2.2.2.2.2.2.2.2.2.2.2.1,y.2.2.2.2.2.2.2.2.2.2.2.2.1,y.2.2.2.2.2.2.2.2.2.2.2.2.2.1,x.2.2.2.2.2.2.2.2.2.2.2.2.2.2.1,x.2.2.2.2.2.2.2.2.2.2.2.2.2.2.2.1,x.2.2.2.2.2.2.2.2.2.2.2.2.2.2.2.2.1,y.f.1,y.f.2,())
def bg.setE (x:bg) (e:aa) (f:eB):bg:=(e.title,e.dots,e.blank,e.marked,e.prec,x.2.2.2.2.2.1,x.2.2.2.2.2.2.1,e.scan,e.batch,e.risk.neg,e.risk.num,e.risk.den,e.cell,e.seed,x.2.2.2.2.2.2.2.2.2.2.2.2.2.2.1,x.2.2.2.2.2.2.2.2.2.2.2.2.2.2.2.1,x.2.2.2.2.2.2.2.2.2.2.2.2.2.2.2.2.1,f.no,f.line,())
def loc (x:bg) (kn:List ByteArray) (c:ox) (nm:xd) (ln:xf) (d s:Int):cX:=⟨x.e,⟨x.f.1,x.f.2⟩,kn.reverse,K4 c,nm.1,nm.2.1,ln.1,ln.2.1,d,s⟩
def jW.kind (b:jW):ByteArray:=b.1
abbrev F5:=LE bkL Zp [(0,sT)]
def Pj (b:jW) (x:bg) (kn:List ByteArray) (c:ox) (nm:xd) (ln:xf) (d s i:Int):F5:=.back (x,b,kn,c,nm,ln,d,s,i,())
def Du (b:jW) (x:bg) (kn:List ByteArray) (c:ox) (nm:xd) (ln:xf) (d s:Int):F5:=.out (x,b,kn,c,nm,ln,d,s,())
def TH (b:jW) (x:bg) (kn:List ByteArray) (c:ox) (nm:xd) (ln:xf) (d s i:Int):T F5:=.nd (du (i+1)) (.lf (Pj b x kn c nm ln d s (i+1)))
def acF (x:bg) (f:ao) (k:Int) (t:bg→T F5):T F5:=.nd (Eu f.vals∧(0:Int)≤k∧f.vals.length≤1099511627776) (t (x.note (eD f.vals k) f.line))
def bkC (b:jW) (x:bg) (kn:List ByteArray) (c:ox) (nm:xd) (ln:xf) (d s i:Int) (f:ao):T F5:=
 .br (f.key.toList==az.toList) (.br (f.key.toList==bc.toList) (TH b x kn c nm ln f.line f.line i) (TH b x kn c nm ln f.line s i)) (.br (f.key.toList==bc.toList) (TH b x kn c nm ln d f.line i) (TH b x kn c nm ln d s i))
def bkF (b:jW) (x:bg) (kn:List ByteArray) (c:ox) (nm:xd) (ln:xf) (d s i:Int) (f:ao):T F5:=.nd (Ka b.kind f) (TH b (x.setM (sW x.m b.kind f)) kn c nm ln d s i)
def bk2 (b:jW) (x:bg) (kn:List ByteArray) (c:ox) (nm:xd) (ln:xf) (d s i:Int) (f:ao):T F5:=
 .br (is aD b) (acF x f 4 fun x=>TH b x kn c (nm.1,f.vals,()) (ln.1,f.line,()) d s i) (bkF b x kn c nm ln d s i f)
def bkR (b:jW) (x:bg) (kn:List ByteArray) (c:ox) (nm:xd) (ln:xf) (d s i:Int) (f:ao):T F5:=
 .br (!(x.err==0)) (TH b x kn c nm ln d s i)
 (.br (is af b) (.nd (fOk f) (bkC b (x.note (fp (K4 c) f).2 f.line) kn (K2 (fp (K4 c) f).1) nm ln d s i f))
 (.br (is aD b) (.br (f.key.toList==ae.toList) (acF x f 12 fun x=>TH b x kn c (f.vals,nm.2.1,()) (f.line,ln.2.1,()) d s i) (bk2 b x kn c nm ln d s i f)) (bk2 b x kn c nm ln d s i f)))
def Yq (b:jW) (x:bg) (kn:List ByteArray) (c:ox) (nm:xd) (ln:xf) (d s i:Int) (f:ao):T F5:=.nd ((kn.length+1)*17≤140737488355328) (bkR b x (f.key::kn) c nm ln d s i f)
def bkA (b:jW) (x:bg) (kn:List ByteArray) (c:ox) (nm:xd) (ln:xf) (d s i:Int) (f:ao):T F5:=
 .br (decide (Lib.idxOfS kn.reverse f.key≥0)) (.nd ((0:Int)≠3) (Yq b (x.note 3 f.line) kn c nm ln d s i f)) (Yq b x kn c nm ln d s i f)
def bkB (b:jW) (x:bg) (kn:List ByteArray) (c:ox) (nm:xd) (ln:xf) (d s i:Int) (f:ao):T F5:=
 .br (decide (Lib.idxOfS (aJ b.kind) f.key<0)) (.nd ((0:Int)≠2) (bkA b (x.note 2 f.line) kn c nm ln d s i f)) (bkA b x kn c nm ln d s i f)
def ao.zero:ao:=⟨⟨#[]⟩,[],0⟩
def jW.fs (b:jW):List ao:=b.2.2.1
def bkT (b:jW) (x:bg) (kn:List ByteArray) (c:ox) (nm:xd) (ln:xf) (d s i:Int):T F5:=
 .br (decide (i<b.fs.length)) (.br (x.err==0) (.nd (0≤i∧i<b.fs.length) (bkB b x kn c nm ln d s i (b.fs.getD i.toNat ao.zero))) (.lf (Du b x kn c nm ln d s))) (.lf (Du b x kn c nm ln d s))
theorem Ft (p:Int×Int) (no line:Int):(⟨p.1,p.2⟩:eB).note no line=⟨(nt p no line).1,(nt p no line).2⟩:=by
 unfold eB.note nt;by_cases h:p.1=0∧no≠0
 ·rw[if_pos h,if_pos h]
 ·rw[if_neg h,if_neg h]
def bg.er (x:bg):eB:=⟨x.f.1,x.f.2⟩
theorem oH (x:bg) (no line:Int):(x.note no line).er=x.er.note no line:=(Ft x.f no line).symm
theorem oB (x:bg) (no line:Int):x.note no line=x.setE x.e (x.er.note no line):=by rw[←oH];rfl
theorem OE (x:bg) (k:ByteArray) (f:ao):x.setM (sW x.m k f)=x.setE (df k x.e f).1 (x.er.note (df k x.e f).2 f.line):=by
 have h:∀c,x.er.note c f.line=⟨(nt x.f c f.line).1,(nt x.f c f.line).2⟩:=fun c=>Ft x.f c f.line;rw[h];unfold sW df;split
 ·rfl
 split
 ·rfl
 split
 ·rfl
 split
 ·rfl
 split
 ·rfl
 split
 ·rfl
 split
 ·rfl
 split
 ·rfl
 split
 ·rfl
 rw[MD];rfl
theorem CN (k:ByteArray) (e:aa) (f:ao):(df k e f).1.cont=e.cont∧(df k e f).1.styl=e.styl:=by
 unfold df;repeat (split;· exact⟨rfl,rfl⟩)
 exact⟨rfl,rfl⟩
def wW (b:jW) (x:bg) (y:cX) (i:Int):F5:=Pj b (x.setE y.e y.f) y.known.reverse (K2 y.c) (y.n0,y.n1,()) (y.l0,y.l1,()) y.digits y.seats i
def Dv (b:jW) (x:bg) (y:cX):F5:=Du b (x.setE y.e y.f) y.known.reverse (K2 y.c) (y.n0,y.n1,()) (y.l0,y.l1,()) y.digits y.seats
theorem MZ {x:bg} {y:cX} (h1:y.e.cont=x.cont) (h2:y.e.styl=x.styl):loc (x.setE y.e y.f) y.known.reverse (K2 y.c) (y.n0,y.n1,()) (y.l0,y.l1,()) y.digits y.seats=y:=by
 have:(x.setE y.e y.f).e=y.e:=by
  show(⟨y.e.title,y.e.dots,y.e.blank,y.e.marked,y.e.prec,x.cont,x.styl,y.e.scan,y.e.batch,⟨y.e.risk.neg,y.e.risk.num,y.e.risk.den⟩,y.e.cell,y.e.seed⟩:aa)=y.e;rw[←h1,←h2]
 show(⟨(x.setE y.e y.f).e,y.f,y.known.reverse.reverse,y.c,y.n0,y.n1,y.l0,y.l1,y.digits,y.seats⟩:cX)=_;rw[this,aal]
theorem uU (k:ByteArray) (y:cX) (f:ao):(aV k y f).e.cont=y.e.cont∧(aV k y f).e.styl=y.e.styl:=by
 unfold aV;simp only;generalize (y.f.note (if bF (aJ k) f.key=true then 0 else 2) f.line).note (if bF y.known f.key=true then 3 else 0) f.line=f2;repeat (split;· exact⟨rfl,rfl⟩)
 exact CN k y.e f
theorem Y7 {k:ByteArray} {b:jW}:is k b=true↔b.kind=k:=zm
theorem TI (b:jW) (x:bg) (kn:List ByteArray) (c:ox) (nm:xd) (ln:xf) (d s i:Int) (f:ao) (hf:Ka b.kind f) (hk:(kn.length+1)*17≤140737488355328) (hi:du (i+1)):(bkB b x kn c nm ln d s i f).hit (wW b x (aV b.kind (loc x kn c nm ln d s) f) (i+1)):=by
 obtain⟨⟨f1,f2⟩,_⟩:=hf;have hR:∀z:bg,z.er=((x.er.note (if bF (aJ b.kind) f.key=true then 0 else 2) f.line).note (if bF kn.reverse f.key=true then 3 else 0) f.line)→z=x.setE x.e z.er→(bkR b z (f.key::kn) c nm ln d s i f).hit (wW b x (aV b.kind (loc x kn c nm ln d s) f) (i+1)):=by
  intro z he hz;have NI:(kn.reverse++[f.key]).reverse=f.key::kn:=by simp
  have hnt:∀no,z.note no f.line=x.setE x.e (z.er.note no f.line):=fun no=>by
   rw[oB,hz];rfl
  unfold aV bkR;simp only;have hs:(loc x kn c nm ln d s).f=x.er:=rfl;have D2:(loc x kn c nm ln d s).known=kn.reverse:=rfl;rw[hs,D2,←he];by_cases h0:z.er.no=0
  ·rw[if_neg (by simpa using h0)];refine bw (by rw[show z.err=0 from h0];rfl) ?_;by_cases h1:b.kind=af
   ·rw[if_pos h1];refine bf (Y7.2 h1) ⟨⟨f1,f2⟩,?_⟩;have qQ:∀d' s',(TH b (z.note (fp (K4 c) f).2 f.line) (f.key::kn) (K2 (fp (K4 c) f).1) nm ln d' s' i).hit (wW b x { loc x kn c nm ln d s with f:=z.er.note (fp (K4 c) f).2 f.line,known:=kn.reverse++[f.key],c:=(fp (K4 c) f).1,digits:=d',seats:=s' } (i+1)):=fun d' s'=>⟨hi,by
     unfold wW;simp only;rw[NI,hnt];rfl⟩
    unfold bkC;by_cases hd:f.key=az
    ·refine bf (zm.2 hd) ?_;rw[if_pos hd];by_cases Si:f.key=bc
     ·exact bf (zm.2 Si) (by rw[if_pos Si];exact qQ _ _)
     ·exact bw (by rw[eu];exact decide_eq_false Si) (by rw[if_neg Si];exact qQ _ _)
    ·refine bw (by rw[eu];exact decide_eq_false hd) ?_;rw[if_neg hd];by_cases Si:f.key=bc
     ·exact bf (zm.2 Si) (by rw[if_pos Si];exact qQ _ _)
     ·exact bw (by rw[eu];exact decide_eq_false Si) (by rw[if_neg Si];exact qQ _ _)
   ·rw[if_neg h1];refine bw (by rw[ade];exact fun e=>h1 (Y7.1 e)) ?_;have h2:(bk2 b z (f.key::kn) c nm ln d s i f).hit (wW b x (if b.kind=aD then { loc x kn c nm ln d s with f:=z.er.note (eD f.vals 4) f.line,known:=kn.reverse++[f.key],n1:=f.vals,l1:=f.line } else { loc x kn c nm ln d s with e:=(df b.kind x.e f).1,f:=z.er.note (df b.kind x.e f).2 f.line,known:=kn.reverse++[f.key] }) (i+1)):=by
     unfold bk2;by_cases h2:b.kind=aD
     ·rw[if_pos h2];refine bf (Y7.2 h2) ⟨⟨f1,by decide,f2⟩,hi,?_⟩;unfold wW;simp only;rw[NI,hnt];rfl
     ·rw[if_neg h2];refine bw (by rw[ade];exact fun e=>h2 (Y7.1 e)) ⟨⟨⟨f1,f2⟩,‹_›⟩,hi,?_⟩;unfold wW;simp only;rw[NI,OE,hz];rfl
    by_cases h3:b.kind=aD
    ·refine bf (Y7.2 h3) ?_;by_cases h4:f.key=ae
     ·rw[if_pos ⟨h3,h4⟩];refine bf (zm.2 h4) ⟨⟨f1,by decide,f2⟩,hi,?_⟩;unfold wW;simp only;rw[NI,hnt];rfl
     ·rw[if_neg fun q=>h4 q.2];exact bw (by rw[eu];exact decide_eq_false h4) h2
    ·rw[if_neg fun q=>h3 q.1];exact bw (by rw[ade];exact fun e=>h3 (Y7.1 e)) h2
  ·rw[if_pos h0];refine bf (by rw[acD];exact beq_eq_false_iff_ne.2 h0) ⟨hi,?_⟩;unfold wW;simp only;rw[NI,hz];rfl
 have hP:∀z:bg,z.er=((x.er.note (if bF (aJ b.kind) f.key=true then 0 else 2) f.line).note (if bF kn.reverse f.key=true then 3 else 0) f.line)→z=x.setE x.e z.er→(Yq b z kn c nm ln d s i f).hit (wW b x (aV b.kind (loc x kn c nm ln d s) f) (i+1)):=fun z h1 h2=>⟨hk,hR z h1 h2⟩;have hA:∀z:bg,z.er=x.er.note (if bF (aJ b.kind) f.key=true then 0 else 2) f.line→z=x.setE x.e z.er→(bkA b z kn c nm ln d s i f).hit (wW b x (aV b.kind (loc x kn c nm ln d s) f) (i+1)):=by
  intro z h1 h2;unfold bkA;by_cases h:bF kn.reverse f.key=true
  ·refine bf h ⟨by decide,hP _ ?_ ?_⟩
   ·rw[oH,h1,if_pos h]
   ·rw[oB,h2];rfl
  ·refine bw (by unfold bF at h;simpa using h) (hP _ ?_ h2);rw[h1,if_neg h];have:∀e:eB,e.note 0 f.line=e:=fun e=>if_neg fun q=>q.2 rfl;rw[this]
 unfold bkB;by_cases h:bF (aJ b.kind) f.key=true
 ·refine bw (by unfold bF at h;simpa using h) (hA _ ?_ rfl);rw[if_pos h];have:∀e:eB,e.note 0 f.line=e:=fun e=>if_neg fun q=>q.2 rfl;rw[this]
 ·refine bf (by unfold bF at h;simpa using h) ⟨by decide,hA _ ?_ ?_⟩
  ·rw[oH,if_neg h]
  ·rw[oB];rfl
def Ve (b:jW) (kn:List ByteArray) (i:Int):Prop:=0≤i∧i≤b.fs.length∧(kn.length:Int)=i∧b.fs.length≤1099511627776∧∀f∈b.fs,Ka b.kind f
theorem Br {k:ByteArray} {l:List ao} {y:cX} {i:Nat} (hi:i<l.length) (h:y.f.no=0):dJ k (l.drop i) y=dJ k (l.drop (i+1)) (aV k y (l.getD i ao.zero)):=by
 rw[getD_drop ao.zero hi,dJ,if_neg (by simpa using h)]
theorem Ex {k:ByteArray} {l:List ao} {y:cX} (h:y.f.no≠0):dJ k l y=y:=by
 cases l with
 | nil=>rfl
 | cons f l=>rw[dJ,if_pos h]
theorem zf (b:jW) (x:bg) (kn:List ByteArray) (c:ox) (nm:xd) (ln:xf) (d s:Int):Du b x kn c nm ln d s=Dv b x (loc x kn c nm ln d s):=by
 show _=Du b x kn.reverse.reverse c nm ln d s;rw[aal]
theorem Bs (k:ByteArray) (y:cX) (f:ao):(aV k y f).known=y.known++[f.key]:=by
 unfold aV;simp only;generalize (y.f.note (if bF (aJ k) f.key=true then 0 else 2) f.line).note (if bF y.known f.key=true then 3 else 0) f.line=f2;repeat (split;· rfl)
 rfl
theorem KA:fO (Kh C7 bfn [0]) 0 0 bkL Zp [(0,sT)] fun((x:bg),(b:jW),(kn:List ByteArray),(c:ox),(nm:xd),(ln:xf),(d:Int),(s:Int),(i:Int),_)=>.nd (Ve b kn i) (.lf (Dv b x (dJ b.kind (b.fs.drop i.toNat) (loc x kn c nm ln d s)))):=by
 refine fS _ (nL _ _) 99 0 0 bkL Zp [(0,sT)] (fun((x:bg),(b:jW),(kn:List ByteArray),(c:ox),(nm:xd),(ln:xf),(d:Int),(s:Int),(i:Int),_)=>bkT b x kn c nm ln d s i)
  (fun(_,(b:jW),_,_,_,_,_,_,(i:Int),_)=>b.fs.length-i.toNat) ?_
 rintro⟨(x:bg),(b:jW),(kn:List ByteArray),(c:ox),(nm:xd),(ln:xf),(d:Int),(s:Int),(i:Int),_⟩ r _ ⟨⟨h0,h1,h2,h3,h4⟩,hr⟩;obtain rfl:Dv b x (dJ b.kind (b.fs.drop i.toNat) (loc x kn c nm ln d s))=r:=hr;obtain⟨k,rfl⟩:∃k:Nat,i=k:=⟨i.toNat,by omega⟩;rw[aaf];show∃q,(bkT b x kn c nm ln d s k).hit q∧_;unfold bkT;by_cases hk:k<b.fs.length
 ·by_cases he:x.err=0
  ·have hy:(loc x kn c nm ln d s).f.no=0:=he;have hf:=h4 (b.fs.getD k ao.zero) (by rw[aar,aac hk];exact ab7 hk);refine⟨_,bf (decide_eq_true (by omega)) (bf (beq_iff_eq.2 he) ⟨⟨by omega,by omega⟩,TI b x kn c nm ln d s k _ (by rw[aaf];exact hf) (by omega) ⟨by omega,by omega⟩⟩),?_,?_⟩
   ·show b.fs.length-(k+1)<b.fs.length-k;omega
   ·rw[aaf,Br hk hy];obtain⟨r1,r2⟩:=uU b.kind (loc x kn c nm ln d s) (b.fs.getD k ao.zero);have gM:=Bs b.kind (loc x kn c nm ln d s) (b.fs.getD k ao.zero);generalize aV b.kind (loc x kn c nm ln d s) (b.fs.getD k ao.zero)=y at*;refine⟨⟨by omega,by omega,?_,h3,h4⟩,?_⟩
    ·rw[gM,aaH,aa8];show((kn.reverse.length+1:Nat):Int)=(k:Int)+1;rw[aaH];omega
    ·show Dv b (x.setE y.e y.f) _=_;exact congrArg (fun z=>Dv b (x.setE y.e y.f) (dJ b.kind (b.fs.drop (k+1)) z)) (MZ r1 r2)
  ·refine⟨_,bf (decide_eq_true (by omega)) (bw (beq_eq_false_iff_ne.2 he) rfl),?_⟩;rw[Ex (by exact he)];exact zf b x kn c nm ln d s
 ·refine⟨_,bw (decide_eq_false (by omega)) rfl,?_⟩;rw[aa5 (by omega)];exact zf b x kn c nm ln d s
end Go.Proofs.YtjlhbfbdcfajfaaGreatDoor
