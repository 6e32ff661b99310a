/- Rat4 Rat5 Lex1 -/
import Derived.Test.YtjlhbfbdcfajfaaGreatDoorB11
namespace Go.Proofs.YtjlhbfbdcfajfaaGreatDoor
open Go.RowKit
def Raw.flip (r:Raw):Raw:=⟨!r.neg,r.num,r.den⟩
set_option maxRecDepth 20000 in
set_option maxHeartbeats 2000000 in
theorem XH {S S2:Nat→Prop} {va vb:Value} {ra rb:Raw} {w:World} (ha:SV w S va ra) (hb:SV w S2 vb rb) (hS:∀b,S b→b<w.heap.size) (eF:∀b,S2 b→b<w.heap.size) (dT:ra.short 67108864) (qB:rb.short 67108864) : Calls Tryz.prog 106 #[va,vb] w (gh w (EJ ra.q rb.flip.q)):=by
 obtain⟨A,n,c,A2,n2,c2,rfl,h1,h2⟩:=ha.raw_cases;obtain⟨A3,n3,c3,A4,n4,c4,rfl,h3,h4⟩:=hb.raw_cases;have bq:Below w.heap.size w (((w.alloc (.cells #[.bool ra.neg,.slice A n c,.slice A2 n2 c2] 28)).alloc (.cells #[.bool (!rb.neg),.slice A3 n3 c3,.slice A4 n4 c4] 28)).alloc (.cells #[.bool false,.slice none 0 0,.slice none 0 0] 28)):=
  (((Below.refl _ _).alloc (Nat.le_refl _) _).alloc (by simp) _).alloc (by simp;omega) _
 obtain⟨w1,bj⟩:∃x,((w.alloc (.cells #[.bool ra.neg,.slice A n c,.slice A2 n2 c2] 28)).alloc (.cells #[.bool (!rb.neg),.slice A3 n3 c3,.slice A4 n4 c4] 28)).alloc (.cells #[.bool false,.slice none 0 0,.slice none 0 0] 28)=x:=⟨_,rfl⟩;have jF:w1.heap.size=w.heap.size+3:=by rw[←bj];simp
 have fM:aK w1 (w.heap.size+1+1) 28 #[.bool false,.slice none 0 0,.slice none 0 0]:=by rw[←bj];exact aK.new' (by simp) _ _
 rw[bj] at bq;have CP:SV w1 S2 (.agg #[.bool (!rb.neg),.slice A3 n3 c3,.slice A4 n4 c4]) rb.flip:=⟨_,rfl,A3,n3,c3,A4,n4,c4,rfl,h3.below bq eF,h4.below bq eF⟩;have Zw:=zH (ha.below bq hS);have Mr:=zH CP;have dO:=zH bj;have jc:=zH bq;have jg:=zH fM;have oh:=zH jF;obtain⟨q,hq⟩:∃q,EJ ra.q rb.flip.q=q:=⟨_,rfl⟩;rw[hq];have HQ:=zH hq;clear ha hb h1 h2 h3 h4 bj bq fM jF hq CP;go_enter Tryz.func106,Tryz.ntmps106;go_wp2_with fail;rw[dO.out];refine(Zn Zw.out Mr.out (fun b hb=>Nat.lt_of_lt_of_le (hS b hb) jc.out.size) (fun b hb=>Nat.lt_of_lt_of_le (eF b hb) jc.out.size) dT qB).mono ?_;rintro e w2 ⟨v,rfl,⟨cs,rfl,hr⟩,hb⟩;have qN:=hr;obtain⟨A5,n5,c5,A6,n6,c6,rfl,_,_⟩:=qN;obtain⟨c0,c1,Pw,f0,f1,f2⟩:=(jg.out.keep hb).facts3;have HK:=zH (jg.out.keep hb);have bX:=zH (ae jc.out hb);rw[HQ.out] at hr ⊢;have HR:=zH hr;clear hr hb;go_wp2_with fail;refine bC (x:=q) (S:=bz w1 w2) (cs:=[.bool q.neg,.slice A5 n5 c5,.slice A6 n6 c6]) rfl rfl (by omega) HK.out rfl Tryz.underlying28 rfl (by kernel_rfl) HR.out (fun b hb=>?_) bX.out rfl id;have h1:=hb.1;rw[oh.out] at h1;exact⟨⟨by omega,hb.2⟩,by omega⟩
def xz (a b:Q):Int:=if(EJ a b).neg then -1 else if(EJ a b).n=0 then 0 else 1
theorem ID {n:Nat}:(fC n).length=0↔n=0:=by rw[List.length_eq_zero_iff,li]
set_option maxRecDepth 20000 in
set_option maxHeartbeats 2000000 in
theorem Pv {S S2:Nat→Prop} {va vb:Value} {ra rb:Raw} {w:World} (ha:SV w S va ra) (hb:SV w S2 vb rb) (hS:∀b,S b→b<w.heap.size) (eF:∀b,S2 b→b<w.heap.size) (dT:ra.short 67108864) (qB:rb.short 67108864) : Calls Tryz.prog 81 #[va,vb] w (gy w (.int .i64 (xz ra.q rb.flip.q))):=by
 obtain⟨A,n,c,A2,n2,c2,rfl,h1,h2⟩:=ha.raw_cases;obtain⟨A3,n3,c3,A4,n4,c4,rfl,h3,h4⟩:=hb.raw_cases;have bq:Below w.heap.size w ((w.alloc (.cells #[.bool ra.neg,.slice A n c,.slice A2 n2 c2] 28)).alloc (.cells #[.bool rb.neg,.slice A3 n3 c3,.slice A4 n4 c4] 28)):=
  ((Below.refl _ _).alloc (Nat.le_refl _) _).alloc (by simp) _
 obtain⟨w1,bj⟩:∃x,(w.alloc (.cells #[.bool ra.neg,.slice A n c,.slice A2 n2 c2] 28)).alloc (.cells #[.bool rb.neg,.slice A3 n3 c3,.slice A4 n4 c4] 28)=x:=⟨_,rfl⟩;rw[bj] at bq;have Zw:=zH (ha.below bq hS);have Mr:=zH (hb.below bq eF);have dO:=zH bj;have jc:=zH bq;obtain⟨q,hq⟩:∃q,EJ ra.q rb.flip.q=q:=⟨_,rfl⟩;have hc:xz ra.q rb.flip.q=if q.neg then -1 else if q.n=0 then 0 else 1:=by unfold xz;rw[hq]
 obtain⟨z,hz⟩:∃z,xz ra.q rb.flip.q=z:=⟨_,rfl⟩;rw[hz] at hc ⊢;have HC:=zH hc;have HQ:=zH hq;clear ha hb h1 h2 h3 h4 bj bq hq hc hz;go_enter Tryz.func81,Tryz.ntmps81;go_wp2_with fail;rw[dO.out];refine(XH Zw.out Mr.out (fun b hb=>Nat.lt_of_lt_of_le (hS b hb) jc.out.size) (fun b hb=>Nat.lt_of_lt_of_le (eF b hb) jc.out.size) dT qB).mono ?_;rintro e w2 ⟨v,rfl,⟨cs,rfl,A5,n5,c5,A6,n6,c6,rfl,h5,h6⟩,hb⟩;rw[HQ.out] at h5 h6 ⊢;have bX:=zH (ae jc.out hb);have hn5:=h5.len;have h0:=ID (n:=q.n);rw[hn5] at h0;have H0:=zH h0;have hm:=h5.max;clear h5 h6 hb hn5 h0 HQ;obtain⟨abY,qn,qd⟩:=q;cases abY with
 | true=>
  go_wp2_with fail;go_ret
  exact⟨by rw[HC.out];rfl,bX.out.alloc bX.out.size _⟩
 | false=>
  by_cases hz:n5=0
  ·have Md:qn=0:=H0.out.1 hz;subst hz;subst Md;go_wp2_with fail;go_ret
   exact⟨by rw[HC.out];rfl,bX.out.alloc bX.out.size _⟩
  ·have hb0:((n5:Int)==0)=false:=by rw[beq_eq_false_iff_ne];omega
   have Md:qn≠0:=fun e=>hz (H0.out.2 e);have HQ0:=zH Md;clear Md hz;go_wp2_with fail;go_ret
   exact⟨by rw[HC.out];simp[HQ0.out],bX.out.alloc bX.out.size _⟩
def Raw.valid (r:Raw):Bool:=r.neg==r.q.neg&&(decide (r.num=fC r.q.n)&&decide (r.den=fC r.q.d))
set_option maxRecDepth 20000 in
set_option maxHeartbeats 2000000 in
theorem PT {S:Nat→Prop} {v:Value} {r:Raw} {w:World} (h:SV w S v r) (hS:∀b,S b→b<w.heap.size) (hl:r.short 536870912) : Calls Tryz.prog 43 #[v] w (gy w (.bool r.valid)):=by
 obtain⟨A,n,c,A2,n2,c2,rfl,h1,h2⟩:=h.raw_cases;have bq:Below w.heap.size w (w.alloc (.cells #[.bool r.neg,.slice A n c,.slice A2 n2 c2] 28)):=(Below.refl _ _).alloc (Nat.le_refl _) _;have ct:aK (w.alloc (.cells #[.bool r.neg,.slice A n c,.slice A2 n2 c2] 28)) w.heap.size 28 #[.bool r.neg,.slice A n c,.slice A2 n2 c2]:=aK.new _ _ _;obtain⟨w1,bj⟩:∃x,w.alloc (.cells #[.bool r.neg,.slice A n c,.slice A2 n2 c2] 28)=x:=⟨_,rfl⟩;rw[bj] at bq ct;have HV:=zH (h.below bq hS);have dO:=zH bj;have jc:=zH bq;have mY:=zH ct;have H1:=zH (h1.below bq hS);have H2:=zH (h2.below bq hS);obtain⟨q,hq⟩:∃q,r.q=q:=⟨_,rfl⟩;obtain⟨z,hz⟩:∃z,r.valid=z:=⟨_,rfl⟩;have eh:z=(r.neg==q.neg&&(decide (r.num=fC q.n)&&decide (r.den=fC q.d))):=by rw[←hz,←hq];rfl
 rw[hz];obtain⟨neg,num,den⟩:=r;have HQ:=zH hq;have HZ:=zH eh;clear h h1 h2 bj bq ct hq hz eh;go_enter Tryz.func43,Tryz.ntmps43;go_wp2_with fail;rw[dO.out];refine(uJ HV.out (fun b hb=>Nat.lt_of_lt_of_le (hS b hb) jc.out.size) hl).mono ?_;rintro e w2 ⟨v,rfl,⟨cs,rfl,A5,n5,c5,A6,n6,c6,rfl,h5,h6⟩,hb⟩;rw[HQ.out] at h5 h6 ⊢;obtain⟨d0,d1,d2,_,_,_⟩:=((mY.out.keep hb).alloc (.cells #[.bool q.neg,.slice A5 n5 c5,.slice A6 n6 c6] 28)).facts3;have bY:Below w.heap.size w (w2.alloc (.cells #[.bool q.neg,.slice A5 n5 c5,.slice A6 n6 c6] 28)):=(ae jc.out hb).alloc (ae jc.out hb).size _;have hn1:RS (w2.alloc (.cells #[.bool q.neg,.slice A5 n5 c5,.slice A6 n6 c6] 28)) S A n c num:=(H1.out.below hb (fun b hb=>Nat.lt_of_lt_of_le (hS b hb) jc.out.size)).below ((Below.refl _ _).alloc (Nat.le_refl _) _) (fun b h=>Nat.lt_of_lt_of_le (hS b h) (ae jc.out hb).size);have hn2:RS (w2.alloc (.cells #[.bool q.neg,.slice A5 n5 c5,.slice A6 n6 c6] 28)) S A2 n2 c2 den:=(H2.out.below hb (fun b hb=>Nat.lt_of_lt_of_le (hS b hb) jc.out.size)).below ((Below.refl _ _).alloc (Nat.le_refl _) _) (fun b h=>Nat.lt_of_lt_of_le (hS b h) (ae jc.out hb).size);have hn5:RS (w2.alloc (.cells #[.bool q.neg,.slice A5 n5 c5,.slice A6 n6 c6] 28)) (bz w1 w2) A5 n5 c5 (fC q.n):=h5.below ((Below.refl _ _).alloc (Nat.le_refl _) _) (fun b h=>h.2);have hn6:RS (w2.alloc (.cells #[.bool q.neg,.slice A5 n5 c5,.slice A6 n6 c6] 28)) (bz w1 w2) A6 n6 c6 (fC q.d):=h6.below ((Below.refl _ _).alloc (Nat.le_refl _) _) (fun b h=>h.2);have N1:=zH hn1;have N2:=zH hn2;have N5:=zH hn5;have N6:=zH hn6;have B2:=zH bY;clear h5 h6 hb bY hn1 hn2 hn5 hn6;by_cases he:neg=q.neg
 ·have he':(neg==q.neg)=true:=by simpa using he
  have Sz:(!neg==!q.neg)=true:=by simpa using he
  go_wp2_with fail;refine(Hg N1.out N5.out).mono ?_;rintro e w' ⟨rfl,m,rfl⟩;by_cases hx:num=fC q.n
  ·rw[decide_eq_true hx];go_wp2_with fail;refine(Hg (N2.out.drewN m) (N6.out.drewN m)).mono ?_;rintro e w' ⟨rfl,m2,rfl⟩;obtain⟨y,hy⟩:∃y,decide (den=fC q.d)=y:=⟨_,rfl⟩;have hzy:z=y:=by rw[HZ.out,decide_eq_true hx,hy];simp[he]
   rw[hy,←hzy];clear hy hzy hx;go_wp2_with fail;go_ret
   exact⟨rfl,below_drewN B2.out _⟩
  ·have av:z=false:=by rw[HZ.out,decide_eq_false hx];simp
   rw[decide_eq_false hx];have bm:=zH av;clear hx av;go_wp2_with fail;go_ret
   exact⟨by rw[bm.out];rfl,below_drewN B2.out _⟩
 ·have he':(neg==q.neg)=false:=by simpa using he
  have av:z=false:=by rw[HZ.out];simp[he]
  have bm:=zH av;clear av he;go_wp2_with fail;go_ret
  exact⟨by rw[bm.out];rfl,B2.out⟩
theorem aC {y:ByteArray} {l:List UInt8} (h:y≠⟨l.toArray⟩):(y.toList==l)=false:=by
 rw[ByteArray.toList_eq];rw[beq_eq_false_iff_ne];intro e;apply h;apply ByteArray.ext;rw[←e]
theorem fb (a b:List UInt8):((⟨a.toArray⟩:ByteArray)++⟨b.toArray⟩)=⟨(a++b).toArray⟩:=by
 apply ByteArray.ext;rw[ByteArray.data_append];simp
def iV (q:Q):List UInt8:=(if q.neg then[45] else[])++ek q.n++(if ek q.d=[49] then[] else 47::ek q.d)
set_option maxRecDepth 20000 in
set_option maxHeartbeats 2000000 in
theorem Tq {S:Nat→Prop} {v:Value} {r:Raw} {w:World} (h:SV w S v r) (hS:∀b,S b→b<w.heap.size) (hl:r.short 67108864) : Calls Tryz.prog 73 #[v] w (gy w (.string ⟨(iV r.q).toArray⟩)):=by
 obtain⟨A,n,c,A2,n2,c2,rfl,h1,h2⟩:=h.raw_cases;have bq:Below w.heap.size w (w.alloc (.cells #[.bool r.neg,.slice A n c,.slice A2 n2 c2] 28)):=(Below.refl _ _).alloc (Nat.le_refl _) _;have ct:aK (w.alloc (.cells #[.bool r.neg,.slice A n c,.slice A2 n2 c2] 28)) w.heap.size 28 #[.bool r.neg,.slice A n c,.slice A2 n2 c2]:=aK.new _ _ _;obtain⟨w1,bj⟩:∃x,w.alloc (.cells #[.bool r.neg,.slice A n c,.slice A2 n2 c2] 28)=x:=⟨_,rfl⟩;rw[bj] at bq ct;have jF:w1.heap.size=w.heap.size+1:=by rw[←bj];simp
 have HV:=zH (h.below bq hS);have dO:=zH bj;have jc:=zH bq;have mY:=zH ct;have oh:=zH jF;have Eb:=(te hl (by omega)).1;have GX:=(te hl (by omega)).2;obtain⟨q,hq⟩:∃q,r.q=q:=⟨_,rfl⟩;rw[hq] at Eb GX;rw[hq];obtain⟨neg,num,den⟩:=r;have HQ:=zH hq;have uq:=zH Eb;have vn:=zH GX;obtain⟨T,hT⟩:∃T:ByteArray,⟨(iV q).toArray⟩=T:=⟨_,rfl⟩;rw[hT];have HT:=zH hT;clear h h1 h2 bj bq ct hq Eb GX jF hT;go_enter Tryz.func73,Tryz.ntmps73;go_wp2_with fail;rw[dO.out];refine(uJ HV.out (fun b hb=>Nat.lt_of_lt_of_le (hS b hb) jc.out.size) ⟨Nat.le_trans hl.1 (by omega),Nat.le_trans hl.2 (by omega)⟩).mono ?_;rintro e w2 ⟨v,rfl,⟨cs,rfl,A5,n5,c5,A6,n6,c6,rfl,h5,h6⟩,hb⟩;rw[HQ.out] at h5 h6 ⊢;obtain⟨c0,c1,Pw,f0,f1,f2⟩:=(mY.out.keep hb).facts3;have b3:Below w.heap.size w (setAll w2 w.heap.size 0 [.bool q.neg,.slice A5 n5 c5,.slice A6 n6 c6]):=fY (ae jc.out hb) (Nat.le_refl _) _ 0;have k3:aK (setAll w2 w.heap.size 0 [.bool q.neg,.slice A5 n5 c5,.slice A6 n6 c6]) w.heap.size 28 #[.bool q.neg,.slice A5 n5 c5,.slice A6 n6 c6]:=(mY.out.keep hb).setAll [.bool q.neg,.slice A5 n5 c5,.slice A6 n6 c6] rfl;have kp:aD (bz w1 w2) w2 (setAll w2 w.heap.size 0 [.bool q.neg,.slice A5 n5 c5,.slice A6 n6 c6]):=(aD.refl _ _).setAll (fun h=>by have:=h.1;have:=oh.out;omega) _ 0;have r5:=h5.keep (fun _ h=>h) kp;have r6:=h6.keep (fun _ h=>h) kp;have z3:(setAll w2 w.heap.size 0 [.bool q.neg,.slice A5 n5 c5,.slice A6 n6 c6]).heap.size=w2.heap.size:=jt _ _ _;obtain⟨w3,qc⟩:∃x,setAll w2 w.heap.size 0 [.bool q.neg,.slice A5 n5 c5,.slice A6 n6 c6]=x:=⟨_,rfl⟩;rw[qc] at b3 k3 r5 r6 z3;have hl5:n5≤67108864:=by have:=uq.out;have:=r5.len;omega
 have hl6:n6≤67108864:=by have:=vn.out;have:=r6.len;omega
 have Rx:Hid (((w2.setCell ⟨w.heap.size,0,none⟩ (.bool q.neg)).setCell ⟨w.heap.size,1,none⟩ (.slice A5 n5 c5)).setCell ⟨w.heap.size,2,none⟩ (.slice A6 n6 c6)=w3):=zH qc;have B3:=zH b3;have K3:=zH k3;have R5:=zH r5;have R6:=zH r6;have Z3:=zH z3;clear h5 h6 hb b3 k3 kp r5 r6 qc z3;go_wp2_with fail;rw[Rx.out];have t5:=OZ R5.out (fun b h=>by rw[Z3.out];exact h.2) (by omega);rw[dj] at t5;obtain⟨x,hx⟩:∃x:ByteArray,⟨(ek q.n).toArray⟩=x:=⟨_,rfl⟩;rw[hx] at t5;have GU:x.size≤1000000000:=by
  have:=rq uq.out;rw[←hx];show(ek q.n).toArray.size≤_;rw[List.size_toArray];omega
 have HX:=zH hx;have T5:=zH t5;clear hx t5;refine T5.out.mono ?_;rintro e w4 ⟨rfl,fa⟩;obtain⟨d0,d1,d2,_,_,_⟩:=(K3.out.keep fa).facts3;have R64:=zH (R6.out.below fa (fun b h=>by rw[Z3.out];exact h.2));have zE:=fa.size;have t6:=OZ R64.out (fun b h=>Nat.lt_of_lt_of_le h.2 (by rw[←Z3.out];exact zE)) (by omega);rw[dj] at t6;obtain⟨y,hy⟩:∃y:ByteArray,⟨(ek q.d).toArray⟩=y:=⟨_,rfl⟩;rw[hy] at t6;have hys:y.size≤1000000000:=by
  have:=rq vn.out;rw[←hy];show(ek q.d).toArray.size≤_;rw[List.size_toArray];omega
 have HY:=zH hy;have T6:=zH t6;have B4:=zH (ae B3.out fa);clear hy t6 fa zE;have Pf:(y=⟨#[49]⟩)↔ek q.d=[49]:=by
  rw[←HY.out];constructor
  ·intro e;have:=congrArg (fun b=>b.data.toList) e;simpa using this
  ·intro e;rw[e]
 have HY1:=zH Pf;clear Pf;obtain⟨abY,qn,qd⟩:=q;cases abY with
 | true=>
  go_wp2_with fail;refine T6.out.mono ?_;rintro e w5 ⟨rfl,mE⟩;have B5:=zH (ae B4.out mE);clear mE;by_cases h1:y=⟨#[49]⟩
  ·have hT:(⟨#[45]⟩:ByteArray)++x=T:=by
    rw[←HT.out,←HX.out];unfold iV;rw[if_pos rfl,if_pos (HY1.out.1 h1),List.append_nil];exact fb [45] _
   have C1:=zH hT;clear hT;go_wp2_with fail;go_ret
   exact⟨congrArg (fun t=>Ending.returned (.string t)) C1.out,B5.out⟩
  ·have dA:(y.toList==[49])=false:=aC h1;have hT:(⟨#[45]⟩:ByteArray)++x++(⟨#[47]⟩++y)=T:=by
    rw[←HT.out,←HX.out,←HY.out];unfold iV;rw[if_pos rfl,if_neg (fun e=>h1 (HY1.out.2 e))];exact(congr (congrArg HAppend.hAppend (fb [45] _)) (fb [47] _)).trans (fb _ _)
   have C1:=zH hT;clear hT h1;have aBg:((⟨#[45]⟩:ByteArray)++x).size≤1000000001:=by rw[ByteArray.size_append];show 1+_≤_;omega
   have ah5:((⟨#[47]⟩:ByteArray)++y).size≤1000000001:=by rw[ByteArray.size_append];show 1+_≤_;omega
   go_wp2_with fail;go_ret
   exact⟨congrArg (fun t=>Ending.returned (.string t)) C1.out,B5.out⟩
 | false=>
  go_wp2_with fail;refine T6.out.mono ?_;rintro e w5 ⟨rfl,mE⟩;have B5:=zH (ae B4.out mE);clear mE;by_cases h1:y=⟨#[49]⟩
  ·have hT:x=T:=by
    rw[←HT.out,←HX.out];unfold iV;rw[if_neg (by simp),if_pos (HY1.out.1 h1),List.append_nil,List.nil_append]
   have C1:=zH hT;clear hT;go_wp2_with fail;go_ret
   exact⟨congrArg (fun t=>Ending.returned (.string t)) C1.out,B5.out⟩
  ·have dA:(y.toList==[49])=false:=aC h1;have hT:x++((⟨#[47]⟩:ByteArray)++y)=T:=by
    rw[←HT.out,←HX.out,←HY.out];unfold iV;rw[if_neg (by simp),if_neg (fun e=>h1 (HY1.out.2 e)),List.nil_append];exact(congrArg _ (fb [47] _)).trans (fb _ _)
   have C1:=zH hT;clear hT h1;go_wp2_with fail;go_ret
   exact⟨congrArg (fun t=>Ending.returned (.string t)) C1.out,B5.out⟩
def kK (c:UInt8):Bool:=decide (97≤c.toNat)&&decide (c.toNat≤122)
def digitB (c:UInt8):Bool:=decide (48≤c.toNat)&&decide (c.toNat≤57)
def mO (c:UInt8):Bool:=kK c||digitB c||c==45
def qp (c:UInt8):Bool:=decide (32≤c.toNat)&&decide (c.toNat≤126)
theorem ll {a b:Bool} (h:a=true↔b=true):Ending.returned (.bool a)=.returned (.bool b):=by rw[Bool.eq_iff_iff.2 h]
theorem GJ (c:UInt8) (w:World):Calls Tryz.prog 173 #[.int .u8 (c.toNat:Int)] w (gq w (.bool (kK c))):=by
 have hc:=c.toNat_lt;obtain⟨n,hn⟩:∃n,c.toNat=n:=⟨_,rfl⟩;unfold kK;rw[hn] at hc ⊢;go_enter Tryz.func173,Tryz.ntmps173;go_wp2_with fail
 all_goals
  go_ret
  exact⟨ll (by simp;omega),rfl⟩
theorem Lp (c:UInt8) (w:World):Calls Tryz.prog 176 #[.int .u8 (c.toNat:Int)] w (gq w (.bool (digitB c))):=by
 have hc:=c.toNat_lt;obtain⟨n,hn⟩:∃n,c.toNat=n:=⟨_,rfl⟩;unfold digitB;rw[hn] at hc ⊢;go_enter Tryz.func176,Tryz.ntmps176;go_wp2_with fail
 all_goals
  go_ret
  exact⟨ll (by simp;omega),rfl⟩
theorem Iu (c:UInt8) (w:World):Calls Tryz.prog 117 #[.int .u8 (c.toNat:Int)] w (gq w (.bool (qp c))):=by
 have hc:=c.toNat_lt;obtain⟨n,hn⟩:∃n,c.toNat=n:=⟨_,rfl⟩;unfold qp;rw[hn] at hc ⊢;go_enter Tryz.func117,Tryz.ntmps117;go_wp2_with fail
 all_goals
  go_ret
  exact⟨ll (by simp;omega),rfl⟩
theorem aa7 (c:UInt8):(c==45)=decide (c.toNat=45):=by
 rw[Bool.eq_iff_iff,beq_iff_eq,decide_eq_true_iff];exact⟨fun h=>by rw[h];rfl,fun h=>UInt8.toNat_inj.1 (by rw[h];rfl)⟩
theorem GQ (c:UInt8) (w:World):Calls Tryz.prog 175 #[.int .u8 (c.toNat:Int)] w (gq w (.bool (mO c))):=by
 have hl:=GJ c w;have hd:=Lp c w;obtain⟨a,ha⟩:∃a,kK c=a:=⟨_,rfl⟩;obtain⟨b,hb⟩:∃a,digitB c=a:=⟨_,rfl⟩;unfold mO;rw[aa7,ha,hb];rw[ha] at hl;rw[hb] at hd;have hc:=c.toNat_lt;obtain⟨n,hn⟩:∃n,c.toNat=n:=⟨_,rfl⟩;rw[hn] at hc hl hd ⊢;have HL:=zH hl;have HD:=zH hd;clear hl hd ha hb hn;go_enter Tryz.func175,Tryz.ntmps175;go_wp2_with fail;refine HL.out.mono ?_;rintro e w' ⟨rfl,rfl⟩;cases a with
 | true=>
  go_wp2_with fail;go_ret
  exact⟨ll (by simp),rfl⟩
 | false=>
  go_wp2_with fail;refine HD.out.mono ?_;rintro e w' ⟨rfl,rfl⟩;cases b with
  | true=>
   go_wp2_with fail;go_ret
   exact⟨ll (by simp),rfl⟩
  | false=>
   go_wp2_with fail;go_ret
   exact⟨ll (by simp;omega),rfl⟩
theorem jA {p:UInt8→Bool}:∀{l:List UInt8} {n:Nat},(∀i x,i<n→l[i]?=some x→p x=true)→n≤l.length→(n=l.length∨∃x,l[n]?=some x∧p x=false)→(l.takeWhile p).length=n
 | [],n,_,hn,_=>by simp at hn;subst hn;rfl
 | y::l,0,_,_,hx=>by
  rcases hx with hx|⟨x,hx,hp⟩
  ·simp at hx
  ·simp at hx;subst hx;simp[hp]
 | y::l,n+1,h,hn,hx=>by
  have hy:p y=true:=h 0 y (by omega) rfl;simp only[List.length_cons] at hn hx;rw[List.takeWhile_cons,if_pos hy,List.length_cons,jA (n:=n) (fun i x hi hx=>h (i+1) x (by omega) (by simpa using hx)) (by omega)];rcases hx with hx|⟨x,hx,hp⟩
  ·exact .inl (by omega)
  ·exact .inr ⟨x,by simpa using hx,hp⟩
theorem str_at {s:ByteArray} {k:Nat} (h:k<s.size):s.data.toList[k]?=some s[k]:=by
 have:k<s.data.toList.length:=by simpa using h
 rw[List.getElem?_eq_getElem this];rfl
theorem fo (s:ByteArray):s.data.toList.length=s.size:=by simp
set_option maxHeartbeats 1000000 in
theorem Ty (s:ByteArray) (w:World) (hs:s.size≤9223372036854775807):Calls Tryz.prog 174 #[.string s,.func (.func 175) #[] #[]] w (gq w (.int .i64 ((s.data.toList.takeWhile mO).length:Nat))):=by
 obtain⟨z,hz⟩:∃z,(s.data.toList.takeWhile mO).length=z:=⟨_,rfl⟩;rw[hz];have HZ:=zH hz;clear hz;go_enter Tryz.func174,Tryz.ntmps174;go_wp2_with fail;go_loopw [5] (fun v wr=>∃n:Nat,v=.int .i64 n∧n≤s.size∧(∀i x,i<n→s.data.toList[i]?=some x→mO x=true)∧wr=w) (fun v _=>s.size-(intOf v).toNat)
 case atStart=>exact⟨0,rfl,Nat.zero_le _,fun i x hi=>absurd hi (Nat.not_lt_zero _),rfl⟩
 case round=>
  obtain⟨n,rfl,hn,bA,rfl⟩:=hrel;have HA:=zH bA;clear bA;by_cases bn:n<s.size
  ·have dK:(n:Int)<(s.size:Int):=by omega
   have hx:=str_at bn;have hw:=GQ s[n] wr;obtain⟨x,rh⟩:∃x,s[n]=x:=⟨_,rfl⟩;rw[rh] at hx hw;obtain⟨b,hb⟩:∃b,mO x=b:=⟨_,rfl⟩;rw[hb] at hw;have HX:=zH hx;have HW:=zH hw;have HB:=zH hb;clear hx hw hb;go_wp2_with fail;refine HW.out.mono ?_;rintro e w' ⟨rfl,rfl⟩;cases b with
   | true=>
    go_wp2_with fail;go_roundw
    case rel=>
     refine⟨n+1,by go_num,by omega,fun i y hi hy=>?_,trivial⟩;rcases(show i<n∨i=n by omega) with h|h
     ·exact HA.out i y h hy
     ·subst h;rw[HX.out] at hy;injection hy with hy
      rw[←hy];exact HB.out
    case measure=>simp[intOf];omega
   | false=>
    have tv:z=n:=by rw[←HZ.out];exact jA HA.out (by rw[fo];exact hn) (.inr ⟨x,HX.out,HB.out⟩)
    have HN:=zH tv;clear tv;go_wp2_with fail;go_ret
    exact⟨by rw[HN.out];rfl,rfl⟩
  ·have dA:n=s.size:=by omega
   have tv:z=n:=by rw[←HZ.out];exact jA HA.out (by rw[fo];exact hn) (.inl (by rw[fo];exact dA))
   have HN:=zH tv;clear tv dA;go_wp2_with fail;go_ret
   exact⟨by rw[HN.out];rfl,rfl⟩
set_option maxHeartbeats 1000000 in
theorem Tz (s:ByteArray) (w:World) (hs:s.size≤9223372036854775807):Calls Tryz.prog 174 #[.string s,.func (.func 176) #[] #[]] w (gq w (.int .i64 ((s.data.toList.takeWhile digitB).length:Nat))):=by
 obtain⟨z,hz⟩:∃z,(s.data.toList.takeWhile digitB).length=z:=⟨_,rfl⟩;rw[hz];have HZ:=zH hz;clear hz;go_enter Tryz.func174,Tryz.ntmps174;go_wp2_with fail;go_loopw [5] (fun v wr=>∃n:Nat,v=.int .i64 n∧n≤s.size∧(∀i x,i<n→s.data.toList[i]?=some x→digitB x=true)∧wr=w) (fun v _=>s.size-(intOf v).toNat)
 case atStart=>exact⟨0,rfl,Nat.zero_le _,fun i x hi=>absurd hi (Nat.not_lt_zero _),rfl⟩
 case round=>
  obtain⟨n,rfl,hn,bA,rfl⟩:=hrel;have HA:=zH bA;clear bA;by_cases bn:n<s.size
  ·have dK:(n:Int)<(s.size:Int):=by omega
   have hx:=str_at bn;have hw:=Lp s[n] wr;obtain⟨x,rh⟩:∃x,s[n]=x:=⟨_,rfl⟩;rw[rh] at hx hw;obtain⟨b,hb⟩:∃b,digitB x=b:=⟨_,rfl⟩;rw[hb] at hw;have HX:=zH hx;have HW:=zH hw;have HB:=zH hb;clear hx hw hb;go_wp2_with fail;refine HW.out.mono ?_;rintro e w' ⟨rfl,rfl⟩;cases b with
   | true=>
    go_wp2_with fail;go_roundw
    case rel=>
     refine⟨n+1,by go_num,by omega,fun i y hi hy=>?_,trivial⟩;rcases(show i<n∨i=n by omega) with h|h
     ·exact HA.out i y h hy
     ·subst h;rw[HX.out] at hy;injection hy with hy
      rw[←hy];exact HB.out
    case measure=>simp[intOf];omega
   | false=>
    have tv:z=n:=by rw[←HZ.out];exact jA HA.out (by rw[fo];exact hn) (.inr ⟨x,HX.out,HB.out⟩)
    have HN:=zH tv;clear tv;go_wp2_with fail;go_ret
    exact⟨by rw[HN.out];rfl,rfl⟩
  ·have dA:n=s.size:=by omega
   have tv:z=n:=by rw[←HZ.out];exact jA HA.out (by rw[fo];exact hn) (.inl (by rw[fo];exact dA))
   have HN:=zH tv;clear tv dA;go_wp2_with fail;go_ret
   exact⟨by rw[HN.out];rfl,rfl⟩
def pT (l:List UInt8):Nat:=match l with|[]=>0|c::_=>if kK c then(l.takeWhile mO).length else 0
def kZ (l:List UInt8):Nat:=
 if(l.takeWhile digitB).length=0∨6<(l.takeWhile digitB).length∨(l.head?=some 48∧1<(l.takeWhile digitB).length)∨((l[(l.takeWhile digitB).length]?.map mO).getD false=true) then 0 else(l.takeWhile digitB).length
theorem S5 (s:ByteArray) (w:World) (hs:s.size≤9223372036854775807):Calls Tryz.prog 146 #[.string s] w (gq w (.int .i64 (pT s.data.toList:Nat))):=by
 by_cases h:s=⟨#[]⟩
 ·subst h;go_enter Tryz.func146,Tryz.ntmps146;go_wp2_with fail;go_ret
  exact⟨rfl,rfl⟩
 ·have dA:(s.toList==[])=false:=aC (l:=[]) h;have h0:0<s.size:=by
   rcases Nat.eq_zero_or_pos s.size with h0|h0
   ·exact absurd (ByteArray.ext (Array.eq_empty_of_size_eq_zero h0)) h
   ·exact h0
  have hsp:=Ty s w hs;have hl:=GJ s[0] w;have hx:=str_at h0;obtain⟨x,rh⟩:∃x,s[0]=x:=⟨_,rfl⟩;rw[rh] at hl hx;obtain⟨b,hb⟩:∃b,kK x=b:=⟨_,rfl⟩;obtain⟨z,hz⟩:∃z,(s.data.toList.takeWhile mO).length=z:=⟨_,rfl⟩;have hw:pT s.data.toList=if b then z else 0:=by
   unfold pT;cases hd:s.data.toList with
   | nil=>rw[hd] at hx;cases hx
   | cons y l=>
    rw[hd] at hx;simp at hx;subst hx;simp only[hb];rw[←hd,hz]
  rw[hz] at hsp;rw[hb] at hl;have HS:=zH hsp;have HL:=zH hl;rw[hw];clear hsp hl hb hz hw hx h;cases b with
  | true=>
   rw[if_pos rfl];go_enter Tryz.func146,Tryz.ntmps146;go_wp2_with fail;refine HL.out.mono ?_;rintro e w' ⟨rfl,rfl⟩;go_wp2_with fail;refine HS.out.mono ?_;rintro e w' ⟨rfl,rfl⟩;go_wp2_with fail;go_ret
   exact⟨rfl,rfl⟩
  | false=>
   rw[if_neg (by simp)];go_enter Tryz.func146,Tryz.ntmps146;go_wp2_with fail;refine HL.out.mono ?_;rintro e w' ⟨rfl,rfl⟩;go_wp2_with fail;go_ret
   exact⟨rfl,rfl⟩
theorem ahH (p:UInt8→Bool) (l:List UInt8):(l.takeWhile p).length≤l.length:=(List.takeWhile_sublist p).length_le
theorem xe (s:ByteArray) (w:World) (hs:s.size≤9223372036854775807):Calls Tryz.prog 147 #[.string s] w (gq w (.int .i64 (kZ s.data.toList:Nat))):=by
 have hsp:=Tz s w hs;have G0:=ahH digitB s.data.toList;rw[fo] at G0;have ajB:kZ s.data.toList=kZ s.data.toList:=rfl;unfold kZ at ajB;obtain⟨z,hz⟩:∃z,kZ s.data.toList=z:=⟨_,rfl⟩;obtain⟨n,hn⟩:∃n,(s.data.toList.takeWhile digitB).length=n:=⟨_,rfl⟩;rw[hn] at hsp G0;have eh:z=if n=0∨6<n∨(s.data.toList.head?=some 48∧1<n)∨((s.data.toList[n]?.map mO).getD false=true) then 0 else n:=by rw[←hz];unfold kZ;rw[hn]
 rw[hz];have HS:=zH hsp;have HZ:=zH eh;clear hsp hz hn eh ajB;go_enter Tryz.func147,Tryz.ntmps147;go_wp2_with fail;refine HS.out.mono ?_;rintro e w' ⟨rfl,rfl⟩;by_cases h0:n=0
 ·have kR:z=0:=by rw[HZ.out,if_pos (.inl h0)]
  have xE:=zH kR;subst h0;clear kR;go_wp2_with fail;go_ret
  exact⟨by rw[xE.out];rfl,rfl⟩
 ·have hb0:((n:Int)==0)=false:=by rw[beq_eq_false_iff_ne];omega
  have xo:0<s.size:=by omega
  by_cases h6:6<n
  ·have kR:z=0:=by rw[HZ.out,if_pos (.inr (.inl h6))]
   have xE:=zH kR;have kC:(6<(n:Int))=True:=eq_true (by omega);clear kR h0;go_wp2_with fail;go_ret
   exact⟨by rw[xE.out];rfl,rfl⟩
  ·have kC:(6<(n:Int))=False:=eq_false (by omega);have hx:=str_at xo;have Eh:s.data.toList.head?=some s[0]:=by rw[List.head?_eq_getElem?];exact hx
   obtain⟨x,rh⟩:∃x,s[0]=x:=⟨_,rfl⟩;rw[rh] at hx Eh;have acF:((x.toNat:Int)==48)=decide (x=48):=by
    rw[Bool.eq_iff_iff,beq_iff_eq,decide_eq_true_iff];exact⟨fun h=>UInt8.toNat_inj.1 (by
     have:x.toNat=48:=by omega
     rw[this];rfl),fun h=>by rw[h];rfl⟩
   have HH:=zH Eh;clear hx Eh;by_cases h48:x=48∧1<n
   ·have kR:z=0:=by rw[HZ.out,if_pos (.inr (.inr (.inl ⟨by rw[HH.out,h48.1],h48.2⟩)))]
    have xE:=zH kR;rw[decide_eq_true h48.1] at acF;have bd:(1<(n:Int))=True:=eq_true (by omega);clear kR h0 h6 h48;go_wp2_with fail;go_ret
    exact⟨by rw[xE.out];rfl,rfl⟩
   ·have sx:∀b,(s.data.toList[n]?.map mO).getD false=b→z=if b then 0 else n:=fun b hb=>by
     rw[HZ.out];cases b with
     | true=>rw[if_pos (.inr (.inr (.inr hb))),if_pos rfl]
     | false=>
      rw[if_neg,if_neg (by simp)];rintro(h|h|h|h)
      ·exact h0 h
      ·exact h6 h
      ·rw[HH.out] at h;exact h48 ⟨by simpa using h.1,h.2⟩
      ·rw[hb] at h;cases h
    have C6:=zH sx;have cJ:∀(c:Bool),((x.toNat:Int)==48)=c→(c=true→¬1<n):=fun c hc h h1=>h48 ⟨by rw[acF] at hc;simpa[h] using hc,h1⟩;obtain⟨c,hc⟩:∃c,((x.toNat:Int)==48)=c:=⟨_,rfl⟩;have hc1:=cJ c hc;clear sx cJ acF h48;by_cases bn:n<s.size
    ·have dK:((n:Int)<(s.size:Int))=True:=eq_true (by omega);have hy:=str_at bn;have hiw:=GQ s[n] w;obtain⟨y,Pe⟩:∃y,s[n]=y:=⟨_,rfl⟩;rw[Pe] at hy hiw;obtain⟨b,hb⟩:∃b,mO y=b:=⟨_,rfl⟩;rw[hb] at hiw;have jE:=C6.out b (by rw[hy];simpa using hb);have iL:=zH jE;have HI:=zH hiw;clear hy hiw hb jE;cases c with
     | true=>
      have bd:(1<(n:Int))=False:=eq_false (by have:=hc1 rfl;omega);go_wp2_with fail;refine HI.out.mono ?_;rintro e w' ⟨rfl,rfl⟩;cases b with
      | true=>go_wp2_with fail;go_ret;exact⟨by rw[iL.out];rfl,rfl⟩
      | false=>go_wp2_with fail;go_ret;exact⟨by rw[iL.out];rfl,rfl⟩
     | false=>
      go_wp2_with fail;refine HI.out.mono ?_;rintro e w' ⟨rfl,rfl⟩;cases b with
      | true=>go_wp2_with fail;go_ret;exact⟨by rw[iL.out];rfl,rfl⟩
      | false=>go_wp2_with fail;go_ret;exact⟨by rw[iL.out];rfl,rfl⟩
    ·have dK:((n:Int)<(s.size:Int))=False:=eq_false (by omega);have jE:=C6.out false (by rw[List.getElem?_eq_none (by rw[fo];omega)];rfl);have iL:=zH jE;clear jE;cases c with
     | true=>
      have bd:(1<(n:Int))=False:=eq_false (by have:=hc1 rfl;omega);go_wp2_with fail;go_ret
      exact⟨by rw[iL.out];rfl,rfl⟩
     | false=>
      go_wp2_with fail;go_ret
      exact⟨by rw[iL.out];rfl,rfl⟩
end Go.Proofs.YtjlhbfbdcfajfaaGreatDoor
