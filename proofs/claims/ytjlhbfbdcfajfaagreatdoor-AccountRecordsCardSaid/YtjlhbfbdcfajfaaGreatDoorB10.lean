/- Rat2 -/
import Derived.Test.YtjlhbfbdcfajfaaGreatDoorB09
namespace Go.Proofs.YtjlhbfbdcfajfaaGreatDoor
open Go.RowKit
structure Raw where
 neg:Bool
 num:List (BitVec 32)
 den:List (BitVec 32)
instance:bG Raw where
 sz:=3
 rep w S cs q:=∃A n c A2 n2 c2,cs=[.bool q.neg,.slice A n c,.slice A2 n2 c2]∧RS w S A n c q.num∧RS w S A2 n2 c2 q.den
 len h:=by obtain⟨A,n,c,A2,n2,c2,rfl,_⟩:=h;rfl
 keep h hS hk:=by
  obtain⟨A,n,c,A2,n2,c2,rfl,h1,h2⟩:=h;exact⟨A,n,c,A2,n2,c2,rfl,h1.keep hS hk,h2.keep hS hk⟩
def Raw.q (r:Raw):Q:=ij r.neg (val r.num) (val r.den)
def Q.raw (q:Q):Raw:=⟨q.neg,fC q.n,fC q.d⟩
theorem SV.raw {w:World} {S:Nat→Prop} {v:Value} {q:Q} (h:SV w S v q):SV w S v q.raw:=h
theorem Q.raw_q (q:Q):q.raw.q=ij q.neg q.n q.d:=by simp[Q.raw,Raw.q,dj]
def Raw.short (r:Raw) (k:Nat):Prop:=r.num.length≤k∧r.den.length≤k
theorem SV.raw_cases {w:World} {S:Nat→Prop} {v:Value} {r:Raw} (h:SV w S v r):∃A n c A2 n2 c2,v=.agg #[.bool r.neg,.slice A n c,.slice A2 n2 c2]∧RS w S A n c r.num∧RS w S A2 n2 c2 r.den:=by
 obtain⟨cs,rfl,A,n,c,A2,n2,c2,rfl,h1,h2⟩:=h;exact⟨A,n,c,A2,n2,c2,rfl,h1,h2⟩
set_option maxRecDepth 20000 in
set_option maxHeartbeats 1000000 in
theorem uJ {S:Nat→Prop} {v:Value} {r:Raw} {w:World} (h:SV w S v r) (hS:∀b,S b→b<w.heap.size) (hl:r.short 536870912) : Calls Tryz.prog 74 #[v] w (gh w r.q):=by
 obtain⟨A,n,c,A2,n2,c2,rfl,h1,h2⟩:=h.raw_cases;have hn:n≤536870912:=by rw[←h1.len];exact hl.1
 have hn2:n2≤536870912:=by rw[←h2.len];exact hl.2
 obtain⟨neg,num,den⟩:=r;have bq:Below w.heap.size w ((w.alloc (.cells #[.bool neg,.slice A n c,.slice A2 n2 c2] 28)).alloc (.cells #[.bool false,.slice none 0 0,.slice none 0 0] 28)):=
  ((Below.refl _ _).alloc (Nat.le_refl _) _).alloc (by simp) _
 have ct:aK ((w.alloc (.cells #[.bool neg,.slice A n c,.slice A2 n2 c2] 28)).alloc (.cells #[.bool false,.slice none 0 0,.slice none 0 0] 28)) (w.heap.size+1) 28 #[.bool false,.slice none 0 0,.slice none 0 0]:=
  aK.new' (by simp) _ _
 obtain⟨w1,bj⟩:∃x,(w.alloc (.cells #[.bool neg,.slice A n c,.slice A2 n2 c2] 28)).alloc (.cells #[.bool false,.slice none 0 0,.slice none 0 0] 28)=x:=⟨_,rfl⟩;have jF:w1.heap.size=w.heap.size+2:=by rw[←bj];simp
 rw[bj] at bq ct;have H1:=zH (h1.below bq hS);have H2:=zH (h2.below bq hS);have dO:=zH bj;have jc:=zH bq;have mY:=zH ct;have oh:=zH jF;clear h h1 h2 hl bj bq ct jF;go_enter Tryz.func74,Tryz.ntmps74;go_wp2_with fail;rw[dO.out];refine(IA neg H1.out H2.out (fun b hb=>Nat.lt_of_lt_of_le (hS b hb) jc.out.size) (fun b hb=>Nat.lt_of_lt_of_le (hS b hb) jc.out.size) hn hn2).mono ?_;rintro e w2 ⟨v,rfl,⟨cs,rfl,hr⟩,hb⟩;have qN:=hr;obtain⟨A5,n5,c5,A6,n6,c6,rfl,_,_⟩:=qN;obtain⟨c0,c1,c2,f0,f1,f2⟩:=(mY.out.keep hb).facts3;have HK:=zH (mY.out.keep hb);have bX:=zH (ae jc.out hb);have HR:=zH hr;obtain⟨q,hq⟩:∃q,ij neg (val num) (val den)=q:=⟨_,rfl⟩;rw[hq] at HR ⊢;have HQ:=zH hq;clear hr hb hq;go_wp2_with fail;refine bC (x:=q) (S:=bz w1 w2) (cs:=[.bool q.neg,.slice A5 n5 c5,.slice A6 n6 c6]) rfl rfl (Nat.le_succ _) HK.out rfl Tryz.underlying28 rfl (by kernel_rfl) HR.out (fun b hb=>?_) bX.out rfl (by rw[←HQ.out];exact id);have h1:=hb.1;rw[oh.out] at h1;exact⟨⟨by omega,hb.2⟩,by omega⟩
theorem od.slice {w:World} {e:TypeId} {xs:List (BitVec 32)} {en:Ending} {w':World} (h:od w e xs en w'):∃A n c,en=.returned (.slice A n c)∧n=xs.length∧RS w' (bz w w') A n c xs∧Below w.heap.size w w':=by
 obtain⟨v,rfl,ho,hb⟩:=h;obtain⟨A,n,c,rfl,hn⟩:=ho.slice;exact⟨A,n,c,rfl,hn,ho.fresh (Nat.le_refl _),hb⟩
theorem O2 (n:Int) (w:World) (h0:-9223372036854775808≤n) (h1:n≤9223372036854775807):Calls Tryz.prog 196 #[.int .i64 n] w (od w 98 (fC n.natAbs)):=by
 by_cases hn:n<0
 ·have hd:decide (n<0)=true:=decide_eq_true hn;have hf:(n<0)=True:=eq_true hn;obtain⟨k,hk⟩:∃k,n.natAbs=k:=⟨_,rfl⟩;have e1:IntKind.u64.wrap (-(IntKind.u64.wrap n))=(k:Int):=by rw[IntKind.wrap_u64,IntKind.wrap_u64];omega
  have jm:k<18446744073709551616:=by omega
  rw[hk];clear hk hn;go_enter Tryz.func196,Tryz.ntmps196;go_wp2_with fail;refine(Iw k w jm).mono ?_;rintro e w2 ⟨v,rfl,ho,hb⟩;have HO:=zH ho;have HB:=zH hb;clear ho hb;go_wp2_with fail;go_ret
  exact⟨_,rfl,HO.out,HB.out⟩
 ·have hd:decide (n<0)=false:=decide_eq_false hn;have hf:(n<0)=False:=eq_false hn;obtain⟨k,hk⟩:∃k,n.natAbs=k:=⟨_,rfl⟩;have e1:IntKind.u64.wrap n=(k:Int):=by rw[IntKind.wrap_u64];omega
  have jm:k<18446744073709551616:=by omega
  rw[hk];clear hk hn;go_enter Tryz.func196,Tryz.ntmps196;go_wp2_with fail;refine(Iw k w jm).mono ?_;rintro e w2 ⟨v,rfl,ho,hb⟩;have HO:=zH ho;have HB:=zH hb;clear ho hb;go_wp2_with fail;go_ret
  exact⟨_,rfl,HO.out,HB.out⟩
theorem O9 {k:Nat} (h:k<18446744073709551616):(fC k).length≤2:=jD (k:=2) (by simpa using h)
set_option maxRecDepth 20000 in
set_option maxHeartbeats 1000000 in
theorem IW (a b:Int) (w:World) (h0:-9223372036854775808≤a) (h1:a≤9223372036854775807) (h2:-9223372036854775808≤b) (h3:b≤9223372036854775807) : Calls Tryz.prog 178 #[.int .i64 a,.int .i64 b] w (gh w (ij (decide (a<0) !=decide (b<0)) a.natAbs b.natAbs)):=by
 have bq:Below w.heap.size w (w.alloc (.cells #[.bool false,.slice none 0 0,.slice none 0 0] 28)):=(Below.refl _ _).alloc (Nat.le_refl _) _;have ct:aK (w.alloc (.cells #[.bool false,.slice none 0 0,.slice none 0 0] 28)) w.heap.size 28 #[.bool false,.slice none 0 0,.slice none 0 0]:=aK.new _ _ _;obtain⟨w1,bj⟩:∃x,w.alloc (.cells #[.bool false,.slice none 0 0,.slice none 0 0] 28)=x:=⟨_,rfl⟩;have jF:w1.heap.size=w.heap.size+1:=by rw[←bj];simp
 rw[bj] at bq ct;have dO:=zH bj;have jc:=zH bq;have mY:=zH ct;have oh:=zH jF;obtain⟨neg,gK⟩:∃neg,(decide (a<0) !=decide (b<0))=neg:=⟨_,rfl⟩;rw[gK];have axt:(!decide (a<0)==decide (b<0))=neg:=by rw[←gK];cases decide (a<0)<;>cases decide (b<0)<;>rfl
 have dT:(fC a.natAbs).length≤2:=O9 (by omega);have qB:(fC b.natAbs).length≤2:=O9 (by omega);have C6:=zH dT;have HLB:=zH qB;clear bj bq ct jF dT qB;go_enter Tryz.func178,Tryz.ntmps178;go_wp2_with fail;rw[dO.out];refine(O2 a w1 h0 h1).mono ?_;rintro e w2 h;obtain⟨A,n,c,rfl,hn,hr,hb⟩:=h.slice;have hn2:n≤2:=by have:=C6.out;omega
 have HR:=zH hr;have HB:=zH (ae jc.out hb);have HK:=zH (mY.out.keep hb);have HF:=zH hb.size;clear h hr hb hn;go_wp2_with fail;refine(O2 b w2 h2 h3).mono ?_;rintro e w3 h;obtain⟨A2,n2,c2,rfl,UR,hr,hb⟩:=h.slice;have aBI:n2≤2:=by have:=HLB.out;omega
 have sW:=zH hr;have vX:=zH (HR.out.below hb (fun _ h=>h.2));have iT:=zH (ae HB.out hb);have un:=zH (HK.out.keep hb);have iS:=zH hb.size;clear h hr hb UR;go_wp2_with fail;refine(IA neg vX.out sW.out (fun b hb=>Nat.lt_of_lt_of_le hb.2 iS.out) (fun b hb=>hb.2) (by omega) (by omega)).mono ?_;rintro e w4 ⟨v,rfl,⟨cs,rfl,hr⟩,hb⟩;have qN:=hr;obtain⟨A5,n5,c5,A6,n6,c6,rfl,_,_⟩:=qN;rw[dj,dj] at hr ⊢;obtain⟨c0,c1,c2,f0,f1,f2⟩:=(un.out.keep hb).facts3;have Gl:=zH (un.out.keep hb);have lH:=zH (ae iT.out hb);have px:=zH hr;obtain⟨q,hq⟩:∃q,ij neg a.natAbs b.natAbs=q:=⟨_,rfl⟩;rw[hq] at px ⊢;have HQ:=zH hq;clear hr hb hq;go_wp2_with fail;refine bC (x:=q) (S:=bz w3 w4) (cs:=[.bool q.neg,.slice A5 n5 c5,.slice A6 n6 c6]) rfl rfl (Nat.le_refl _) Gl.out rfl Tryz.underlying28 rfl (by kernel_rfl) px.out (fun b hb=>?_) lH.out rfl (by rw[←HQ.out];exact id);have h1:=hb.1;have h2:=HF.out;have h3:=iS.out;rw[oh.out] at h2;exact⟨⟨by omega,hb.2⟩,by omega⟩
end Go.Proofs.YtjlhbfbdcfajfaaGreatDoor
