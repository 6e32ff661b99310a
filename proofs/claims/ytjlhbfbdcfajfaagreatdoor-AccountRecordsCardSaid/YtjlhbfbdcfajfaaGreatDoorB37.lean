/- Acc3 -/
import Derived.Test.YtjlhbfbdcfajfaaGreatDoorB36
import Derived.Test.YtjlhbfbdcfajfaaGreatDoorB29
namespace Go.Proofs.YtjlhbfbdcfajfaaGreatDoor
open Go.RowKit
def u9:List lU→List Int→Option (List Int)
 | [],cs=>some cs
 | r::l,cs=>if r.prec<0∨(cs.length:Int)≤r.prec then none else u9 l (cs.set r.prec.toNat (cs.getD r.prec.toNat 0+1))
def sE (k:Nat) (x:aY) (q:Int):kA:=⟨(k:Int),x.cast,q,max (x.cast-q) 0,max (q-x.cast) 0,x.issued !=x.spoilt+x.cast⟩
def iA:Nat→List aY→List Int→List kA
 | i,a::l,q::m=>sE i a q::iA (i+1) l m
 | _,_,_=>[]
def pz (e:am) (ig:List aY) (rs:List lU):List kA×Int:=
 if nc e ig=false then([],8) else match u9 rs (List.replicate ig.length 0) with|none=>([],4)|some cs=>(iA 0 ig cs,0)
theorem AW:∀{i:Nat} {l:List aY},qG i l=true→∀a∈l,(0≤a.issued∧a.issued≤400)∧(0≤a.spoilt∧a.spoilt≤400)∧(0≤a.cast∧a.cast≤400)
 | _,[],_=>fun a h=>by cases h
 | i,x::l,h=>by
  simp only[qG,Bool.and_eq_true,oF] at h;intro a ha;rcases List.mem_cons.1 ha with rfl|ha
  ·exact⟨h.2.1,h.2.2.1,h.2.2.2.1⟩
  ·exact AW h.2.2.2.2 a ha
theorem Tryz.gapTy:cW Tryz.prog 36 45 6 48:=cW.mk' (z:=.agg #[.int .i64 0,.int .i64 0,.int .i64 0,.int .i64 0,.int .i64 0,.bool false]) Tryz.underlying36 (by kernel_rfl) rfl (by omega)
theorem Tryz.intInfo:∃i,Tryz.prog.info? 3=some i∧i.zero=some (.int .i64 0)∧i.size=1∧i.bytes=8:=info_parts (by kernel_rfl)
theorem VH {w:World} {S S':Nat→Prop} {cs:List Value} {xs:List kA} (h:Flat w S cs xs):Flat w S' cs xs:=by
 induction h with
 | nil=>exact .nil
 | snoc _ hr ih=>exact .snoc ih hr
theorem Ha:∀{i:Nat} {l:List aY} {m:List Int} {a:aY} {q:Int},l.length=m.length→iA i (l++[a]) (m++[q])=iA i l m++[sE (i+l.length) a q]
 | i,[],[],a,q,_=>rfl
 | i,x::l,y::m,a,q,h=>by
  simp only[List.cons_append,iA];rw[Ha (by simpa using h),List.length_cons,Nat.add_assoc,Nat.add_comm 1]
theorem Lk:∀{i:Nat} {l:List aY} {m:List Int},l.length=m.length→(iA i l m).length=l.length
 | i,[],[],_=>rfl
 | i,x::l,y::m,h=>by
  simp only[iA,List.length_cons];rw[Lk (by simpa using h)]
def Ja (w:World) (x:List kA×Int) (e:Ending) (w':World):Prop:=∃A n c,e=.returned (.tuple #[.slice A n c,.int .i64 x.2])∧RS w' (bz w w') A n c x.1∧Below w.heap.size w w'
set_option maxRecDepth 20000 in
set_option maxHeartbeats 8000000 in
theorem Dn {B:Nat} {w:World} (htab:EL B w) (hB:B≤w.heap.size) {S S2 S3:Nat→Prop} {v:Value} {e:am} (h:SV w S v e) (hS:∀b,S b→b<w.heap.size) (lZ:og e) (sS:kB e) {A A3:Option Addr} {n c n3 c3:Nat} {ig:List aY} (ha:RS w S2 A n c ig) (eF:∀b,S2 b→b<w.heap.size) {rs:List lU} (hr:RS w S3 A3 n3 c3 rs) (IV:∀b,S3 b→b<w.heap.size):Calls Tryz.prog 14 #[v,.slice A n c,.slice A3 n3 c3] w (Ja w (pz e ig rs)):=by
 obtain⟨cs,rfl,AP,fe,fO,AC,gA,gH,AS,gz,gF,AN,gi,gm,AD,gj,gp,rfl,uS,xQ,xP,xm,xn⟩:=h;have bd:Below w.heap.size w (w.alloc (.cells #[.string e.title,.int .i64 e.dots,.int .i64 e.blank,.int .i64 e.marked,.slice AP fe fO,.slice AC gA gH,.slice AS gz gF,.int .i64 e.scan,.int .i64 e.batch,.bool e.risk.neg,.slice AN gi gm,.slice AD gj gp,.int .i64 e.cell,.string e.seed] 30)):=(Below.refl _ _).alloc (Nat.le_refl _) _;have dy:aK (w.alloc (.cells #[.string e.title,.int .i64 e.dots,.int .i64 e.blank,.int .i64 e.marked,.slice AP fe fO,.slice AC gA gH,.slice AS gz gF,.int .i64 e.scan,.int .i64 e.batch,.bool e.risk.neg,.slice AN gi gm,.slice AD gj gp,.int .i64 e.cell,.string e.seed] 30)) w.heap.size 30 #[.string e.title,.int .i64 e.dots,.int .i64 e.blank,.int .i64 e.marked,.slice AP fe fO,.slice AC gA gH,.slice AS gz gF,.int .i64 e.scan,.int .i64 e.batch,.bool e.risk.neg,.slice AN gi gm,.slice AD gj gp,.int .i64 e.cell,.string e.seed]:=aK.new _ _ _;obtain⟨w1,bj⟩:∃q,w.alloc (.cells #[.string e.title,.int .i64 e.dots,.int .i64 e.blank,.int .i64 e.marked,.slice AP fe fO,.slice AC gA gH,.slice AS gz gF,.int .i64 e.scan,.int .i64 e.batch,.bool e.risk.neg,.slice AN gi gm,.slice AD gj gp,.int .i64 e.cell,.string e.seed] 30)=q:=⟨_,rfl⟩;rw[bj] at bd dy;have ku:=vh (htab.up hB bd) (Nat.le_trans hB bd.size) (S:=S) (e:=e) (w:=w1) ⟨_,rfl,AP,fe,fO,AC,gA,gH,AS,gz,gF,AN,gi,gm,AD,gj,gp,rfl,uS.below bd hS,xQ.below bd hS,xP.below bd hS,xm.below bd hS,xn.below bd hS⟩ (fun b h=>Nat.lt_of_lt_of_le (hS b h) bd.size) lZ sS (ha.below bd eF) (fun b h=>Nat.lt_of_lt_of_le (eF b h) bd.size);obtain⟨z,hz⟩:∃z,pz e ig rs=z:=⟨_,rfl⟩;rw[hz];have eh:=hz.symm;unfold pz at eh;obtain⟨vb,Ph⟩:∃q,nc e ig=q:=⟨_,rfl⟩;have bA:vb=true→n≤274877906944∧∀a∈ig,(0≤a.issued∧a.issued≤400)∧(0≤a.spoilt∧a.spoilt≤400)∧(0≤a.cast∧a.cast≤400):=fun hv=>by
  rw[hv] at Ph;unfold nc at Ph;simp only[Bool.and_eq_true,decide_eq_true_eq] at Ph;refine⟨by rw[←ha.len,Ph.2.1];exact lZ.lp,AW Ph.2.2.1⟩
 rw[Ph] at ku eh;have NN:=ha.len;rw[NN] at eh;obtain⟨i0,QQ,G1,JI,U5⟩:=Tryz.intInfo;have d0:w1.cell? ⟨w.heap.size,0,none⟩=some (.string e.title):=dy.cell 0;have d1:w1.cell? ⟨w.heap.size,1,none⟩=some (.int .i64 e.dots):=dy.cell 1;have d2:w1.cell? ⟨w.heap.size,2,none⟩=some (.int .i64 e.blank):=dy.cell 2;have d3:w1.cell? ⟨w.heap.size,3,none⟩=some (.int .i64 e.marked):=dy.cell 3;have d4:w1.cell? ⟨w.heap.size,4,none⟩=some (.slice AP fe fO):=dy.cell 4;have d5:w1.cell? ⟨w.heap.size,5,none⟩=some (.slice AC gA gH):=dy.cell 5;have d6:w1.cell? ⟨w.heap.size,6,none⟩=some (.slice AS gz gF):=dy.cell 6;have d7:w1.cell? ⟨w.heap.size,7,none⟩=some (.int .i64 e.scan):=dy.cell 7;have d8:w1.cell? ⟨w.heap.size,8,none⟩=some (.int .i64 e.batch):=dy.cell 8;have d9:w1.cell? ⟨w.heap.size,9,none⟩=some (.bool e.risk.neg):=dy.cell 9;have zg:w1.cell? ⟨w.heap.size,10,none⟩=some (.slice AN gi gm):=dy.cell 10;have ze:w1.cell? ⟨w.heap.size,11,none⟩=some (.slice AD gj gp):=dy.cell 11;have zb:w1.cell? ⟨w.heap.size,12,none⟩=some (.int .i64 e.cell):=dy.cell 12;have za:w1.cell? ⟨w.heap.size,13,none⟩=some (.string e.seed):=dy.cell 13;have sO:=zH ku;have HZ:=zH eh;have Gq:=zH bA;have dO:=zH bj;have bS:=zH bd;have HA:=zH (ha.below bd eF);have HR:=zH (hr.below bd IV);have C6:=zH NN;have RH:=zH hr.len;have hmA:=ha.max;have hmR:=hr.max;have mf:Hid (∀b,S2 b→b<w1.heap.size):=zH fun b h=>Nat.lt_of_lt_of_le (eF b h) bd.size;have BO:Hid (∀b,S3 b→b<w1.heap.size):=zH fun b h=>Nat.lt_of_lt_of_le (IV b h) bd.size;have ZN:=zH QQ;have ZM:=zH G1;have ZL:=zH JI;have PK:=zH U5;show Calls _ _ #[.agg #[.string e.title,.int .i64 e.dots,.int .i64 e.blank,.int .i64 e.marked,.slice AP fe fO,.slice AC gA gH,.slice AS gz gF,.int .i64 e.scan,.int .i64 e.batch,.bool e.risk.neg,.slice AN gi gm,.slice AD gj gp,.int .i64 e.cell,.string e.seed],.slice A n c,.slice A3 n3 c3] w _;clear ku hz eh Ph bA NN bj bd dy ha hr eF IV hS lZ sS htab uS xQ xP xm xn QQ G1 JI U5;go_enter Tryz.func14,Tryz.ntmps14;go_upto_region 1 with(fail);rw[dO.out];go_wp2_with fail;refine sO.out.mono ?_;rintro en w2 ⟨rfl,bY⟩;have bX:=zH bY;clear bY d0 d1 d2 d3 d4 d5 d6 d7 d8 d9 zg ze zb za;cases vb
 case false=>
  have av:z=([],8):=by rw[HZ.out];rfl
  have bm:=zH av;clear av;go_wp2_with fail;go_ret2
  exact⟨none,0,0,by rw[bm.out];rfl,by rw[bm.out];exact RS.nil _ _,ae bS.out bX.out⟩
 obtain⟨hn,bA⟩:=Gq.out rfl;have Ii:=zH bA;have eQ:=HZ.out;simp only[Bool.true_eq_false,if_false] at eQ;have fy:=zH eQ;clear eQ HZ Gq bA;go_upto_region 4 with(refine dh (α:=Int) _ rfl _ _ _ rfl rfl w2.heap.size i0 (.int .i64 0) Tryz.underlying84 ZN.out ZM.out ZL.out rfl .i64 .i64 (n:Int) (n:Int) n rfl rfl rfl rfl (by rw[PK.out];omega) (by unfold maxLen;omega) (Nat.le_refl _) 0 aA (fun _ h=>h.elim) (fun _ _=>rfl) ?_;intro w3 dl hg3;have fN:=zH dl;have iT:=zH ((Below.refl w2.heap.size w2).grown hg3 (Nat.le_refl _) (fun k hk=>by cases hk));clear dl hg3);obtain⟨gR,hgR⟩:∃q,w2.heap.size=q:=⟨_,rfl⟩;rw[hgR] at fN;rw[hgR];have HGR:=zH hgR;clear hgR;go_wp2_with fail;go_loopw [23] (fun iv wr=>∃(k:Nat) (qs:List Int),iv=.int .i64 k∧k≤n3∧qs.length=n∧(∀q∈qs,0≤q∧q≤(k:Int))∧u9 rs (List.replicate n 0)=u9 (rs.drop k) qs∧Own wr aA gR 3 (.slice (some ⟨gR,0,none⟩) n n) qs∧Below gR w2 wr) (fun iv _=>n3-(intOf iv).toNat)
 case atStart=>exact⟨0,_,rfl,Nat.zero_le _,by simp,fun q hq=>by rw[List.eq_of_mem_replicate hq];exact⟨Int.le_refl _,Int.le_refl _⟩,rfl,fN.out,by rw[←HGR.out];exact iT.out⟩
 case round=>
  clear fN iT;obtain⟨k,qs,rfl,hk,Ea,Mc,hcn,ho,hb⟩:=hrel;have Fw:=zH Ea;have HQR:=zH Mc;have HCN:=zH hcn;have HO:=zH ho;have HB:=zH hb;have YQ:Below w1.heap.size w1 wr:=bX.out.trans (hb.mono (by rw[←HGR.out];exact bX.out.size));have kU:=zH (HR.out.below YQ BO.out);have HAA:=zH (HA.out.below YQ mf.out);have RV:=zH YQ;clear Ea Mc hcn ho hb YQ;by_cases bn:k<n3
  ·have dK:(k:Int)<(n3:Int):=by omega
   obtain⟨b,o,x,cs,rfl,yR,hx,nQ,jG⟩:=kU.out.load_at (fun b h=>Nat.lt_of_lt_of_le (BO.out b h) RV.out.size) bn;have gO:(k:Int)≤(c3:Int):=by have:=kU.out.cap;omega
   obtain⟨Av,nv,cv,hxv,rfl⟩:=nQ;have dT:=jG wr (Below.refl _ _);have r0:wr.cell? ⟨b,o+k*3,none⟩=some (.int .i64 x.prec):=dT.1 _ rfl;have r1:wr.cell? ⟨b,o+k*3+1,none⟩=some (.slice Av nv cv):=dT.2 1 _ rfl;have r2:wr.cell? ⟨b,o+k*3+2,none⟩=some (.bool x.doubt):=dT.2 2 _ rfl;have bV:u9 rs (List.replicate n 0)=if x.prec<0∨(n:Int)≤x.prec then none else u9 (rs.drop (k+1)) (qs.set x.prec.toNat (qs.getD x.prec.toNat 0+1)):=by rw[HCN.out,bR hx,u9,Fw.out]
   have ey:Below wr.heap.size wr (wr.alloc (.cells #[.int .i64 x.prec,.slice Av nv cv,.bool x.doubt] 42)):=(Below.refl _ _).alloc (Nat.le_refl _) _;have iF:aK (wr.alloc (.cells #[.int .i64 x.prec,.slice Av nv cv,.bool x.doubt] 42)) wr.heap.size 42 #[.int .i64 x.prec,.slice Av nv cv,.bool x.doubt]:=aK.new _ _ _;obtain⟨w4,Ck⟩:∃q,wr.alloc (.cells #[.int .i64 x.prec,.slice Av nv cv,.bool x.doubt] 42)=q:=⟨_,rfl⟩;rw[Ck] at ey iF;have p0:w4.cell? ⟨wr.heap.size,0,none⟩=some (.int .i64 x.prec):=iF.cell 0;have jI:=zH bV;have qL:=zH (HO.out.below ey);have arT:gR≤wr.heap.size:=by have:=HB.out.size;rw[HGR.out] at this;exact this
   have lH:=zH (HB.out.trans (ey.mono arT));have Wh:=zH Ck;clear dT jG hx bV ey iF Ck;go_upto_region 7 with(fail);rw[Wh.out];clear r0 r1 r2;have iM:Hid (Below w.heap.size w w4):=zH ((bS.out.trans (bX.out.mono bS.out.size)).trans (lH.out.mono (by rw[←HGR.out];exact Nat.le_trans bS.out.size bX.out.size)));by_cases h0:x.prec<0
   ·have av:z=([],4):=by rw[fy.out,jI.out,if_pos (.inl h0)]
    have bm:=zH av;have d0:(x.prec<0)=True:=eq_true h0;clear av h0;go_wp2_with fail;go_ret2
    exact⟨none,0,0,by rw[bm.out];rfl,by rw[bm.out];exact RS.nil _ _,iM.out⟩
   by_cases h1:(n:Int)≤x.prec
   ·have av:z=([],4):=by rw[fy.out,jI.out,if_pos (.inr h1)]
    have bm:=zH av;have d0:(x.prec<0)=False:=eq_false h0;have d1:((n:Int)≤x.prec)=True:=eq_true h1;clear av h0 h1;go_wp2_with fail;go_ret2
    exact⟨none,0,0,by rw[bm.out];rfl,by rw[bm.out];exact RS.nil _ _,iM.out⟩
   obtain⟨j,hj⟩:∃j:Nat,x.prec=(j:Int):=⟨x.prec.toNat,by omega⟩;have lx:=jI.out;rw[if_neg (by omega),hj,Int.toNat_natCast] at lx;have hjn:j<n:=by omega
   rw[hj];rw[hj] at p0;obtain⟨q,hq⟩:∃q,qs[j]?=some q:=⟨_,List.getElem?_eq_getElem (by rw[Fw.out];exact hjn)⟩;obtain⟨gX,uX,yP,_,_,Sk,Vh,hfX⟩:=qL.out.get1 rfl hq;injection yP with yP
   injection yP with yP
   subst yP;have tx:[uX]=[.int .i64 q]:=Sk;injection tx with tx
   subst tx;have Sl:=HQR.out q (List.mem_of_getElem? hq);have hwq:IntKind.i64.wrap (q+1)=q+1:=by rw[IntKind.wrap_i64]<;>omega
   rw[List.getD_eq_getElem?_getD,hq,Option.getD_some] at lx;have d0:((j:Int)<0)=False:=eq_false (by omega);have d1:((n:Int)≤(j:Int))=False:=eq_false (by omega);have d2:(j:Int)<(n:Int):=by omega
   have d3:(j:Int)≤(n:Int):=by omega
   have ia:=zH lx;have GX:∀q'∈qs.set j (q+1),0≤q'∧q'≤((k+1:Nat):Int):=fun q' QB=>by
    rcases List.mem_or_eq_of_mem_set QB with h|h
    ·have:=HQR.out q' h;omega
    ·subst h;omega
   have vn:=zH GX;have db:=qL.out.stored (k:=j) (u:=.int .i64 (q+1)) (x:=q+1) rfl rfl;have au1:=zH db.1;have qM:=zH (lH.out.setCell (p:=⟨gR,j,none⟩) (Nat.le_refl gR) (.int .i64 (q+1)));clear lx db GX Sk hq h0 h1 hj Sl;go_wp2_with fail;go_roundw
   case rel=>exact⟨k+1,qs.set j (q+1),by go_num,by omega,by rw[List.length_set];exact Fw.out,vn.out,ia.out,au1.out,qM.out⟩
   case measure=>simp[intOf];omega
  ·have fI:k=n3:=by omega
   have ajD:u9 rs (List.replicate n 0)=some qs:=by
    rw[HCN.out,List.drop_eq_nil_of_le (by rw[RH.out];omega)];rfl
   have jE:=fy.out;rw[ajD] at jE;have iL:=zH jE;clear ajD jE fy HCN;go_wp2_with fail;obtain⟨gB,Sy⟩:∃q,wr.heap.size=q:=⟨_,rfl⟩;have zK:=zH Sy;have awd:Hid (gR<gB):=zH (by rw[←Sy];exact(HO.out.lt gR rfl).2);obtain⟨W0,hW0⟩:∃q,q=wr:=⟨_,rfl⟩;subst hW0;clear Sy fI;go_loopw [11,47] (fun gv iv wr=>∃k:Nat,iv=.int .i64 k∧k≤n∧Own wr aA gB 45 gv (iA 0 (ig.take k) (qs.take k))∧Below gB W0 wr) (fun _ iv _=>n-(intOf iv).toNat)
   case atStart=>exact⟨0,rfl,Nat.zero_le _,Own.nil _ _ _,Below.refl _ _⟩
   case round=>
    obtain⟨k,rfl,hk,hog,Fo⟩:=hrel;have QY:gB≤wr.heap.size:=by rw[←zK.out];exact Fo.size
    have amw:=zH Fo;have aFG:=zH QY;obtain⟨AG,nG,cG,rfl,hnG⟩:=hog.slice;have alR:=zH hog;have amL:=zH (HAA.out.below (by rw[zK.out];exact Fo) (fun b h=>Nat.lt_of_lt_of_le (mf.out b h) RV.out.size));have C4:=zH (HO.out.below (by rw[zK.out];exact Fo));clear hog Fo hnG;by_cases bn:k<n
    ·have dK:(k:Int)<(n:Int):=by omega
     have ly:(k:Int)≤(n:Int):=by omega
     obtain⟨b,o,x,cs,rfl,yR,hx,nQ,jG⟩:=amL.out.load_at (fun b h=>Nat.lt_of_lt_of_le (mf.out b h) (Nat.le_trans RV.out.size (by rw[zK.out];exact QY))) bn;have gO:(k:Int)≤(c:Int):=by have:=amL.out.cap;omega
     have rY:cs=[.int .i64 x.prec,.int .i64 x.issued,.int .i64 x.spoilt,.int .i64 x.cast]:=nQ;subst rY;have dT:=jG wr (Below.refl _ _);have r0:wr.cell? ⟨b,o+k*4,none⟩=some (.int .i64 x.prec):=dT.1 _ rfl;have r1:wr.cell? ⟨b,o+k*4+1,none⟩=some (.int .i64 x.issued):=dT.2 1 _ rfl;have r2:wr.cell? ⟨b,o+k*4+2,none⟩=some (.int .i64 x.spoilt):=dT.2 2 _ rfl;have r3:wr.cell? ⟨b,o+k*4+3,none⟩=some (.int .i64 x.cast):=dT.2 3 _ rfl;obtain⟨q,hq⟩:∃q,qs[k]?=some q:=⟨_,List.getElem?_eq_getElem (by rw[Fw.out];exact bn)⟩;obtain⟨gX,uX,yP,_,_,Sk,Vh,hfX⟩:=C4.out.get1 rfl hq;injection yP with yP
     injection yP with yP
     subst yP;have tx:[uX]=[.int .i64 q]:=Sk;injection tx with tx
     subst tx;have Sl:=HQR.out q (List.mem_of_getElem? hq);have F0:=Ii.out x (List.mem_of_getElem? hx);have aif:IntKind.i64.wrap (x.cast-q)=x.cast-q:=by rw[IntKind.wrap_i64]<;>omega
     have aie:IntKind.i64.wrap (q-x.cast)=q-x.cast:=by rw[IntKind.wrap_i64]<;>omega
     have aid:IntKind.i64.wrap (x.spoilt+x.cast)=x.spoilt+x.cast:=by rw[IntKind.wrap_i64]<;>omega
     have o7:Hid (iA 0 (ig.take (k+1)) (qs.take (k+1))=iA 0 (ig.take k) (qs.take k)++[sE k x q]):=zH (by
      rw[du hx,du hq,Ha (by rw[List.length_take,List.length_take,C6.out,Fw.out]),List.length_take,C6.out,Nat.zero_add,Nat.min_eq_left hk])
     have HLG:Hid ((iA 0 (ig.take k) (qs.take k)).length=k):=zH (by rw[Lk (by rw[List.length_take,List.length_take,C6.out,Fw.out]),List.length_take,C6.out,Nat.min_eq_left hk]);have ey:Below wr.heap.size wr (wr.alloc (.cells #[.int .i64 x.prec,.int .i64 x.issued,.int .i64 x.spoilt,.int .i64 x.cast] 73)):=(Below.refl _ _).alloc (Nat.le_refl _) _;have iF:aK (wr.alloc (.cells #[.int .i64 x.prec,.int .i64 x.issued,.int .i64 x.spoilt,.int .i64 x.cast] 73)) wr.heap.size 73 #[.int .i64 x.prec,.int .i64 x.issued,.int .i64 x.spoilt,.int .i64 x.cast]:=aK.new _ _ _;obtain⟨w4,Ck⟩:∃q,wr.alloc (.cells #[.int .i64 x.prec,.int .i64 x.issued,.int .i64 x.spoilt,.int .i64 x.cast] 73)=q:=⟨_,rfl⟩;rw[Ck] at ey iF;obtain⟨gx,Sx⟩:∃q,wr.heap.size=q:=⟨_,rfl⟩;rw[Sx] at iF;have HGX:=zH Sx;have kq:=zH iF;have HOG:=zH (alR.out.below ey);have HBG:Hid (gB≤w4.heap.size):=zH (Nat.le_trans QY ey.size);have JU:=zH (amw.out.trans (ey.mono QY));have xX:Hid (gR<w4.heap.size):=zH (by have:=awd.out;have:=HBG.out;omega);have HCR:Hid (w4.cell? ⟨gR,k,none⟩=some (.int .i64 q)):=zH ((ey.cell (World.block_lt_of_cell? wr _ Vh)).trans Vh);have Wh:=zH Ck;clear dT jG hx nQ hq Sk Vh hfX Sl F0 ey iF Ck Sx;go_upto_region 15 with(fail);rw[Wh.out,HGX.out];clear r0 r1 r2 r3;refine cf 34 1 (fun i=>match i with
      | 0=>ΦV (.slice AG nG cG)
      | 1=>ΦV (.int .i64 (k:Int))
      | 2=>ΦV (.pointer (some ⟨gx,3,none⟩))
      | 3=>ΦV (.int .i64 x.cast)
      | 4=>ΦV (.slice (some ⟨gR,0,none⟩) n n)
      | 5=>ΦV (.int .i64 (k:Int))
      | 6=>ΦV (.pointer (some ⟨gR,k,none⟩))
      | 7=>ΦV (.int .i64 q)
      | 8=>ΦV (.pointer (some ⟨gx,3,none⟩))
      | 9=>ΦV (.int .i64 x.cast)
      | 10=>ΦV (.slice (some ⟨gR,0,none⟩) n n)
      | 11=>ΦV (.int .i64 (k:Int))
      | 12=>ΦV (.pointer (some ⟨gR,k,none⟩))
      | 13=>ΦV (.int .i64 q)
      | 14=>ΦV (.int .i64 (x.cast-q))
      | 15=>ΦV (.int .i64 (max (x.cast-q) 0))
      | 16=>ΦV (.slice (some ⟨gR,0,none⟩) n n)
      | 17=>ΦV (.int .i64 (k:Int))
      | 18=>ΦV (.pointer (some ⟨gR,k,none⟩))
      | 19=>ΦV (.int .i64 q)
      | 20=>ΦV (.pointer (some ⟨gx,3,none⟩))
      | 21=>ΦV (.int .i64 x.cast)
      | 22=>ΦV (.int .i64 (q-x.cast))
      | 23=>ΦV (.int .i64 (max (q-x.cast) 0))
      | 24=>ΦV (.pointer (some ⟨gx,1,none⟩))
      | 25=>ΦV (.int .i64 x.issued)
      | 26=>ΦV (.pointer (some ⟨gx,2,none⟩))
      | 27=>ΦV (.int .i64 x.spoilt)
      | 28=>ΦV (.pointer (some ⟨gx,3,none⟩))
      | 29=>ΦV (.int .i64 x.cast)
      | 30=>ΦV (.int .i64 (x.spoilt+x.cast))
      | 31=>ΦV (.bool (x.issued !=x.spoilt+x.cast))
      | 32=>ΦV (.agg #[.int .i64 (k:Int),.int .i64 x.cast,.int .i64 q,.int .i64 (max (x.cast-q) 0),.int .i64 (max (q-x.cast) 0),.bool (x.issued !=x.spoilt+x.cast)])
      | 33=>@ΦR kA _ w4 99 33 45 ([sE k x q]) 1
      | _=>fun _ _ _=>False) (by kernel_rfl) (by kernel_rfl) (by kernel_rfl) (by kernel_rfl) ?_ ?_ ?_
     ·intro i v c1 w1 c2 w2 h hb hc
      match i with
      | 0=>exact h
      | 1=>exact h
      | 2=>exact h
      | 3=>exact h
      | 4=>exact h
      | 5=>exact h
      | 6=>exact h
      | 7=>exact h
      | 8=>exact h
      | 9=>exact h
      | 10=>exact h
      | 11=>exact h
      | 12=>exact h
      | 13=>exact h
      | 14=>exact h
      | 15=>exact h
      | 16=>exact h
      | 17=>exact h
      | 18=>exact h
      | 19=>exact h
      | 20=>exact h
      | 21=>exact h
      | 22=>exact h
      | 23=>exact h
      | 24=>exact h
      | 25=>exact h
      | 26=>exact h
      | 27=>exact h
      | 28=>exact h
      | 29=>exact h
      | 30=>exact h
      | 31=>exact h
      | 32=>exact h
      | 33=>exact ΦR.mono h hb hc
      | _+34=>exact h
     ·intro Q0 i hi a1 col wc aW aH eN ac;have ga:=aH.size
      match i,hi with
      | 0,_=>
       have rZ:a1.tmps[11]?=some (.slice AG nG cG):=(aW.2 11 (by kernel_rfl)).trans rfl;clear ac;refine aa rfl rfl (.slice AG nG cG) ?_ (Below.refl _ _) rfl;go_simp
      | 1,_=>
       have vL:a1.tmps[12]?=some (.int .i64 (k:Int)):=(aW.2 12 (by kernel_rfl)).trans rfl;clear ac;refine aa rfl rfl (.int .i64 (k:Int)) ?_ (Below.refl _ _) rfl;go_simp
      | 2,_=>
       have vK:a1.tmps[13]?=some (.pointer (some ⟨gx,0,none⟩)):=(aW.2 13 (by kernel_rfl)).trans rfl;clear ac;refine aa rfl rfl (.pointer (some ⟨gx,3,none⟩)) ?_ (Below.refl _ _) rfl;go_simp
      | 3,_=>
       obtain⟨v54,ev,apA⟩:=ac 2 (by kernel_rfl);have e54:=ev 54 rfl;clear ev;obtain rfl:v54=_:=apA;clear ac;have lj:wc.cell? ⟨gx,3,none⟩=some (.int .i64 x.cast):=(kq.out.keep aH).cell 3;refine aa rfl rfl (.int .i64 x.cast) ?_ (Below.refl _ _) rfl;go_simp
      | 4,_=>
       have e8:a1.tmps[8]?=some (.slice (some ⟨gR,0,none⟩) n n):=(aW.2 8 (by kernel_rfl)).trans rfl;clear ac;refine aa rfl rfl (.slice (some ⟨gR,0,none⟩) n n) ?_ (Below.refl _ _) rfl;go_simp
      | 5,_=>
       have vL:a1.tmps[12]?=some (.int .i64 (k:Int)):=(aW.2 12 (by kernel_rfl)).trans rfl;clear ac;refine aa rfl rfl (.int .i64 (k:Int)) ?_ (Below.refl _ _) rfl;go_simp
      | 6,_=>
       obtain⟨v56,ev,apy⟩:=ac 4 (by kernel_rfl);have e56:=ev 56 rfl;clear ev;obtain rfl:v56=_:=apy;obtain⟨v57,ev,apx⟩:=ac 5 (by kernel_rfl);have e57:=ev 57 rfl;clear ev;obtain rfl:v57=_:=apx;clear ac;refine aa rfl rfl (.pointer (some ⟨gR,k,none⟩)) ?_ (Below.refl _ _) rfl;go_simp
      | 7,_=>
       obtain⟨v58,ev,apw⟩:=ac 6 (by kernel_rfl);have e58:=ev 58 rfl;clear ev;obtain rfl:v58=_:=apw;clear ac;have lj:wc.cell? ⟨gR,k,none⟩=some (.int .i64 q):=(aH.cell xX.out).trans HCR.out;refine aa rfl rfl (.int .i64 q) ?_ (Below.refl _ _) rfl;go_simp
      | 8,_=>
       have vK:a1.tmps[13]?=some (.pointer (some ⟨gx,0,none⟩)):=(aW.2 13 (by kernel_rfl)).trans rfl;clear ac;refine aa rfl rfl (.pointer (some ⟨gx,3,none⟩)) ?_ (Below.refl _ _) rfl;go_simp
      | 9,_=>
       obtain⟨v60,ev,apu⟩:=ac 8 (by kernel_rfl);have e60:=ev 60 rfl;clear ev;obtain rfl:v60=_:=apu;clear ac;have lj:wc.cell? ⟨gx,3,none⟩=some (.int .i64 x.cast):=(kq.out.keep aH).cell 3;refine aa rfl rfl (.int .i64 x.cast) ?_ (Below.refl _ _) rfl;go_simp
      | 10,_=>
       have e8:a1.tmps[8]?=some (.slice (some ⟨gR,0,none⟩) n n):=(aW.2 8 (by kernel_rfl)).trans rfl;clear ac;refine aa rfl rfl (.slice (some ⟨gR,0,none⟩) n n) ?_ (Below.refl _ _) rfl;go_simp
      | 11,_=>
       have vL:a1.tmps[12]?=some (.int .i64 (k:Int)):=(aW.2 12 (by kernel_rfl)).trans rfl;clear ac;refine aa rfl rfl (.int .i64 (k:Int)) ?_ (Below.refl _ _) rfl;go_simp
      | 12,_=>
       obtain⟨v62,ev,aps⟩:=ac 10 (by kernel_rfl);have e62:=ev 62 rfl;clear ev;obtain rfl:v62=_:=aps;obtain⟨v63,ev,apr⟩:=ac 11 (by kernel_rfl);have e63:=ev 63 rfl;clear ev;obtain rfl:v63=_:=apr;clear ac;refine aa rfl rfl (.pointer (some ⟨gR,k,none⟩)) ?_ (Below.refl _ _) rfl;go_simp
      | 13,_=>
       obtain⟨v64,ev,apq⟩:=ac 12 (by kernel_rfl);have e64:=ev 64 rfl;clear ev;obtain rfl:v64=_:=apq;clear ac;have lj:wc.cell? ⟨gR,k,none⟩=some (.int .i64 q):=(aH.cell xX.out).trans HCR.out;refine aa rfl rfl (.int .i64 q) ?_ (Below.refl _ _) rfl;go_simp
      | 14,_=>
       obtain⟨v61,ev,apt⟩:=ac 9 (by kernel_rfl);have e61:=ev 61 rfl;clear ev;obtain rfl:v61=_:=apt;obtain⟨v65,ev,acd⟩:=ac 13 (by kernel_rfl);have e65:=ev 65 rfl;clear ev;obtain rfl:v65=_:=acd;clear ac;refine aa rfl rfl (.int .i64 (x.cast-q)) ?_ (Below.refl _ _) rfl;go_simp
      | 15,_=>
       obtain⟨v66,ev,apo⟩:=ac 14 (by kernel_rfl);have e66:=ev 66 rfl;clear ev;obtain rfl:v66=_:=apo;clear ac;refine aa rfl rfl (.int .i64 (max (x.cast-q) 0)) ?_ (Below.refl _ _) rfl;go_simp
      | 16,_=>
       have e8:a1.tmps[8]?=some (.slice (some ⟨gR,0,none⟩) n n):=(aW.2 8 (by kernel_rfl)).trans rfl;clear ac;refine aa rfl rfl (.slice (some ⟨gR,0,none⟩) n n) ?_ (Below.refl _ _) rfl;go_simp
      | 17,_=>
       have vL:a1.tmps[12]?=some (.int .i64 (k:Int)):=(aW.2 12 (by kernel_rfl)).trans rfl;clear ac;refine aa rfl rfl (.int .i64 (k:Int)) ?_ (Below.refl _ _) rfl;go_simp
      | 18,_=>
       obtain⟨v68,ev,aca⟩:=ac 16 (by kernel_rfl);have e68:=ev 68 rfl;clear ev;obtain rfl:v68=_:=aca;obtain⟨v69,ev,ab9⟩:=ac 17 (by kernel_rfl);have e69:=ev 69 rfl;clear ev;obtain rfl:v69=_:=ab9;clear ac;refine aa rfl rfl (.pointer (some ⟨gR,k,none⟩)) ?_ (Below.refl _ _) rfl;go_simp
      | 19,_=>
       obtain⟨v70,ev,ab8⟩:=ac 18 (by kernel_rfl);have e70:=ev 70 rfl;clear ev;obtain rfl:v70=_:=ab8;clear ac;have lj:wc.cell? ⟨gR,k,none⟩=some (.int .i64 q):=(aH.cell xX.out).trans HCR.out;refine aa rfl rfl (.int .i64 q) ?_ (Below.refl _ _) rfl;go_simp
      | 20,_=>
       have vK:a1.tmps[13]?=some (.pointer (some ⟨gx,0,none⟩)):=(aW.2 13 (by kernel_rfl)).trans rfl;clear ac;refine aa rfl rfl (.pointer (some ⟨gx,3,none⟩)) ?_ (Below.refl _ _) rfl;go_simp
      | 21,_=>
       obtain⟨v72,ev,ab6⟩:=ac 20 (by kernel_rfl);have e72:=ev 72 rfl;clear ev;obtain rfl:v72=_:=ab6;clear ac;have lj:wc.cell? ⟨gx,3,none⟩=some (.int .i64 x.cast):=(kq.out.keep aH).cell 3;refine aa rfl rfl (.int .i64 x.cast) ?_ (Below.refl _ _) rfl;go_simp
      | 22,_=>
       obtain⟨v71,ev,ab7⟩:=ac 19 (by kernel_rfl);have e71:=ev 71 rfl;clear ev;obtain rfl:v71=_:=ab7;obtain⟨v73,ev,ab5⟩:=ac 21 (by kernel_rfl);have e73:=ev 73 rfl;clear ev;obtain rfl:v73=_:=ab5;clear ac;refine aa rfl rfl (.int .i64 (q-x.cast)) ?_ (Below.refl _ _) rfl;go_simp
      | 23,_=>
       obtain⟨v74,ev,ab4⟩:=ac 22 (by kernel_rfl);have e74:=ev 74 rfl;clear ev;obtain rfl:v74=_:=ab4;clear ac;refine aa rfl rfl (.int .i64 (max (q-x.cast) 0)) ?_ (Below.refl _ _) rfl;go_simp
      | 24,_=>
       have vK:a1.tmps[13]?=some (.pointer (some ⟨gx,0,none⟩)):=(aW.2 13 (by kernel_rfl)).trans rfl;clear ac;refine aa rfl rfl (.pointer (some ⟨gx,1,none⟩)) ?_ (Below.refl _ _) rfl;go_simp
      | 25,_=>
       obtain⟨v76,ev,ab2⟩:=ac 24 (by kernel_rfl);have e76:=ev 76 rfl;clear ev;obtain rfl:v76=_:=ab2;clear ac;have lj:wc.cell? ⟨gx,1,none⟩=some (.int .i64 x.issued):=(kq.out.keep aH).cell 1;refine aa rfl rfl (.int .i64 x.issued) ?_ (Below.refl _ _) rfl;go_simp
      | 26,_=>
       have vK:a1.tmps[13]?=some (.pointer (some ⟨gx,0,none⟩)):=(aW.2 13 (by kernel_rfl)).trans rfl;clear ac;refine aa rfl rfl (.pointer (some ⟨gx,2,none⟩)) ?_ (Below.refl _ _) rfl;go_simp
      | 27,_=>
       obtain⟨v78,ev,XV⟩:=ac 26 (by kernel_rfl);have e78:=ev 78 rfl;clear ev;obtain rfl:v78=_:=XV;clear ac;have lj:wc.cell? ⟨gx,2,none⟩=some (.int .i64 x.spoilt):=(kq.out.keep aH).cell 2;refine aa rfl rfl (.int .i64 x.spoilt) ?_ (Below.refl _ _) rfl;go_simp
      | 28,_=>
       have vK:a1.tmps[13]?=some (.pointer (some ⟨gx,0,none⟩)):=(aW.2 13 (by kernel_rfl)).trans rfl;clear ac;refine aa rfl rfl (.pointer (some ⟨gx,3,none⟩)) ?_ (Below.refl _ _) rfl;go_simp
      | 29,_=>
       obtain⟨v80,ev,apn⟩:=ac 28 (by kernel_rfl);have e80:=ev 80 rfl;clear ev;obtain rfl:v80=_:=apn;clear ac;have lj:wc.cell? ⟨gx,3,none⟩=some (.int .i64 x.cast):=(kq.out.keep aH).cell 3;refine aa rfl rfl (.int .i64 x.cast) ?_ (Below.refl _ _) rfl;go_simp
      | 30,_=>
       obtain⟨v79,ev,ab0⟩:=ac 27 (by kernel_rfl);have e79:=ev 79 rfl;clear ev;obtain rfl:v79=_:=ab0;obtain⟨v81,ev,apm⟩:=ac 29 (by kernel_rfl);have e81:=ev 81 rfl;clear ev;obtain rfl:v81=_:=apm;clear ac;refine aa rfl rfl (.int .i64 (x.spoilt+x.cast)) ?_ (Below.refl _ _) rfl;go_simp
      | 31,_=>
       obtain⟨v77,ev,ab1⟩:=ac 25 (by kernel_rfl);have e77:=ev 77 rfl;clear ev;obtain rfl:v77=_:=ab1;obtain⟨v82,ev,apl⟩:=ac 30 (by kernel_rfl);have e82:=ev 82 rfl;clear ev;obtain rfl:v82=_:=apl;clear ac;refine aa rfl rfl (.bool (x.issued !=x.spoilt+x.cast)) ?_ (Below.refl _ _) rfl;go_simp
      | 32,_=>
       obtain⟨v53,ev,apB⟩:=ac 1 (by kernel_rfl);have e53:=ev 53 rfl;clear ev;obtain rfl:v53=_:=apB;obtain⟨v55,ev,apz⟩:=ac 3 (by kernel_rfl);have e55:=ev 55 rfl;clear ev;obtain rfl:v55=_:=apz;obtain⟨v59,ev,apv⟩:=ac 7 (by kernel_rfl);have e59:=ev 59 rfl;clear ev;obtain rfl:v59=_:=apv;obtain⟨v67,ev,acb⟩:=ac 15 (by kernel_rfl);have e67:=ev 67 rfl;clear ev;obtain rfl:v67=_:=acb;obtain⟨v75,ev,ab3⟩:=ac 23 (by kernel_rfl);have e75:=ev 75 rfl;clear ev;obtain rfl:v75=_:=ab3;obtain⟨v83,ev,apk⟩:=ac 31 (by kernel_rfl);have e83:=ev 83 rfl;clear ev;obtain rfl:v83=_:=apk;clear ac;refine aa rfl rfl (.agg #[.int .i64 (k:Int),.int .i64 x.cast,.int .i64 q,.int .i64 (max (x.cast-q) 0),.int .i64 (max (q-x.cast) 0),.bool (x.issued !=x.spoilt+x.cast)]) ?_ (Below.refl _ _) rfl;go_simp
      | 33,_=>
       obtain⟨v84,ev,abZ⟩:=ac 32 (by kernel_rfl);have e84:=ev 84 rfl;clear ev;obtain rfl:v84=_:=abZ;clear ac;have hf:Flat wc (RD w4 99 col wc) [.int .i64 (k:Int),.int .i64 x.cast,.int .i64 q,.int .i64 (max (x.cast-q) 0),.int .i64 (max (q-x.cast) 0),.bool (x.issued !=x.spoilt+x.cast)] ([sE k x q]):=Flat.cons (ds:=[_,_,_,_,_,_]) rfl Flat.nil;refine aa rfl rfl (.slice (some ⟨wc.heap.size,0,none⟩) 1 1) (w':=wc.alloc (.cells #[.int .i64 (k:Int),.int .i64 x.cast,.int .i64 q,.int .i64 (max (x.cast-q) 0),.int .i64 (max (q-x.cast) 0),.bool (x.issued !=x.spoilt+x.cast)] 45)) ?_ (aT _ _) (ΦR.built (cs:=[.int .i64 (k:Int),.int .i64 x.cast,.int .i64 q,.int .i64 (max (x.cast-q) 0),.int .i64 (max (q-x.cast) 0),.bool (x.issued !=x.spoilt+x.cast)]) (t:=45) hf (fun b hb=>eN b hb.1 hb.2.1) rfl (by simp[Value.oneCell']) ga);go_simp;try rfl
      | k+34,hk=>exact absurd hk (by omega)
     intro Jz col wc hl0 aH hΦ;obtain⟨v0,J4,rfl,hl1⟩:=aj hl0;clear hl0;obtain⟨v1,JY,rfl,hl2⟩:=aj hl1;clear hl1;obtain⟨v2,L2,rfl,hl3⟩:=aj hl2;clear hl2;obtain⟨v3,L1,rfl,hl4⟩:=aj hl3;clear hl3;obtain⟨v4,OX,rfl,hl5⟩:=aj hl4;clear hl4;obtain⟨v5,PS,rfl,hl6⟩:=aj hl5;clear hl5;obtain⟨v6,Td,rfl,hl7⟩:=aj hl6;clear hl6;obtain⟨v7,Tc,rfl,hl8⟩:=aj hl7;clear hl7;obtain⟨v8,Tb,rfl,hl9⟩:=aj hl8;clear hl8;obtain⟨v9,Ij,rfl,hl10⟩:=aj hl9;clear hl9;obtain⟨Bg,J3,rfl,hl11⟩:=aj hl10;clear hl10;obtain⟨zQ,J2,rfl,hl12⟩:=aj hl11;clear hl11;obtain⟨zO,J1,rfl,hl13⟩:=aj hl12;clear hl12;obtain⟨CF,J0,rfl,hl14⟩:=aj hl13;clear hl13;obtain⟨dw,JZ,rfl,hl15⟩:=aj hl14;clear hl14;obtain⟨dE,MF,rfl,hl16⟩:=aj hl15;clear hl15;obtain⟨dQ,Te,rfl,hl17⟩:=aj hl16;clear hl16;obtain⟨OY,XB,rfl,hl18⟩:=aj hl17;clear hl17;obtain⟨Sb,Xz,rfl,hl19⟩:=aj hl18;clear hl18;obtain⟨XC,ahu,rfl,hl20⟩:=aj hl19;clear hl19;obtain⟨v20,aht,rfl,hl21⟩:=aj hl20;clear hl20;obtain⟨v21,ahs,rfl,hl22⟩:=aj hl21;clear hl21;obtain⟨v22,ahr,rfl,hl23⟩:=aj hl22;clear hl22;obtain⟨Tl,ahq,rfl,hl24⟩:=aj hl23;clear hl23;obtain⟨v24,ahp,rfl,hl25⟩:=aj hl24;clear hl24;obtain⟨v25,aoQ,rfl,hl26⟩:=aj hl25;clear hl25;obtain⟨v26,aoP,rfl,hl27⟩:=aj hl26;clear hl26;obtain⟨v27,aoO,rfl,hl28⟩:=aj hl27;clear hl27;obtain⟨v28,aoN,rfl,hl29⟩:=aj hl28;clear hl28;obtain⟨WX,aoM,rfl,hl30⟩:=aj hl29;clear hl29;obtain⟨v30,azZ,rfl,hl31⟩:=aj hl30;clear hl30;obtain⟨v31,azY,rfl,hl32⟩:=aj hl31;clear hl31;obtain⟨Z7,azX,rfl,hl33⟩:=aj hl32;clear hl32;obtain⟨v33,azW,rfl,hl34⟩:=aj hl33;clear hl33;obtain rfl:=List.length_eq_zero_iff.1 hl34;clear hl34;have p0:=hΦ 0 _ rfl;obtain rfl:v0=_:=p0;have p1:=hΦ 1 _ rfl;obtain rfl:v1=_:=p1;have p2:=hΦ 2 _ rfl;obtain rfl:v2=_:=p2;have p3:=hΦ 3 _ rfl;obtain rfl:v3=_:=p3;have p4:=hΦ 4 _ rfl;obtain rfl:v4=_:=p4;have p5:=hΦ 5 _ rfl;obtain rfl:v5=_:=p5;have p6:=hΦ 6 _ rfl;obtain rfl:v6=_:=p6;have p7:=hΦ 7 _ rfl;obtain rfl:v7=_:=p7;have p8:=hΦ 8 _ rfl;obtain rfl:v8=_:=p8;have p9:=hΦ 9 _ rfl;obtain rfl:v9=_:=p9;have DG:=hΦ 10 _ rfl;obtain rfl:Bg=_:=DG;have DF:=hΦ 11 _ rfl;obtain rfl:zQ=_:=DF;have DD:=hΦ 12 _ rfl;obtain rfl:zO=_:=DD;have DC:=hΦ 13 _ rfl;obtain rfl:CF=_:=DC;have p14:=hΦ 14 _ rfl;obtain rfl:dw=_:=p14;have Ng:=hΦ 15 _ rfl;obtain rfl:dE=_:=Ng;have TY:=hΦ 16 _ rfl;obtain rfl:dQ=_:=TY;have X1:=hΦ 17 _ rfl;obtain rfl:OY=_:=X1;have X0:=hΦ 18 _ rfl;obtain rfl:Sb=_:=X0;have p19:=hΦ 19 _ rfl;obtain rfl:XC=_:=p19;have p20:=hΦ 20 _ rfl;obtain rfl:v20=_:=p20;have p21:=hΦ 21 _ rfl;obtain rfl:v21=_:=p21;have p22:=hΦ 22 _ rfl;obtain rfl:v22=_:=p22;have p23:=hΦ 23 _ rfl;obtain rfl:Tl=_:=p23;have p24:=hΦ 24 _ rfl;obtain rfl:v24=_:=p24;have p25:=hΦ 25 _ rfl;obtain rfl:v25=_:=p25;have p26:=hΦ 26 _ rfl;obtain rfl:v26=_:=p26;have p27:=hΦ 27 _ rfl;obtain rfl:v27=_:=p27;have p28:=hΦ 28 _ rfl;obtain rfl:v28=_:=p28;have p29:=hΦ 29 _ rfl;obtain rfl:WX=_:=p29;have p30:=hΦ 30 _ rfl;obtain rfl:v30=_:=p30;have p31:=hΦ 31 _ rfl;obtain rfl:v31=_:=p31;have p32:=hΦ 32 _ rfl;obtain rfl:Z7=_:=p32;have p33:=hΦ 33 _ rfl;obtain⟨g33,akR,rfl,hg33,ajH,NQ,ajw,hn33,aiO⟩:=p33;clear hΦ;simp only[List.take_succ_cons,List.take_zero,iD,gd,Act.put,List.setIfInBounds_toArray,List.set_cons_zero,List.set_cons_succ];refine bB rfl rfl fun K hK=>?_;refine cw (α:=kA) _ _ 36 rfl 48 Tryz.gapTy rfl (HOG.out.below aH) ⟨g33,0,none⟩ 1 1 akR [sE k x q] rfl rfl (VH ajw) (iu NQ) aiO (by rw[HLG.out];simp;omega) (Nat.le_trans HBG.out aH.size) fun v9 w9 q1 q2 q3=>hK _ _ ?_;clear hK K;obtain⟨A9,n9,c9,rfl,zG⟩:=q1.slice;have uq:=zH q1;have xI:=zH ((JU.out.trans (aH.mono HBG.out)).grown q2 (Nat.le_trans HBG.out aH.size) (fun k hk=>(HOG.out.lt k hk).1));clear q1 q2 q3 zG hg33 ajH NQ ajw hn33 aiO aH;refine eH (w':=w9) rfl rfl (.slice A9 n9 c9) ?_ ?_
     ·go_simp
     try simp only[Act.put,List.getElem_toArray,List.getElem_cons_zero,List.getElem_cons_succ,List.setIfInBounds_toArray,List.set_cons_zero,List.set_cons_succ]
     go_wp2_with fail;go_roundw
     case rel=>exact⟨k+1,by go_num,by omega,by rw[o7.out];exact uq.out,xI.out⟩
     case measure=>simp[intOf];omega
    ·have fI:k=n:=by omega
     have av:z=(iA 0 (ig.take k) (qs.take k),0):=by
      rw[iL.out,List.take_of_length_le (by rw[C6.out];omega),List.take_of_length_le (by rw[Fw.out];omega)]
     have bm:=zH av;have iM:Hid (Below w.heap.size w wr):=zH (((bS.out.trans (RV.out.mono bS.out.size)).trans (amw.out.mono (by rw[←zK.out];exact Nat.le_trans bS.out.size RV.out.size))));clear av fI;go_wp2_with fail;go_ret2
     refine⟨AG,nG,cG,by rw[bm.out];rfl,by rw[bm.out];exact alR.out.rs (fun _ h=>h.elim) (fun g h1 h2=>⟨Nat.le_trans (by rw[←zK.out];exact Nat.le_trans bS.out.size RV.out.size) h1,h2⟩),iM.out⟩
end Go.Proofs.YtjlhbfbdcfajfaaGreatDoor
