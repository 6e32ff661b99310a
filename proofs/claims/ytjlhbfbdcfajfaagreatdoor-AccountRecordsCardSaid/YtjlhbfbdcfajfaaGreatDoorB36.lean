/- Vld2 Smp1 Acc1 Acc2 -/
import Derived.Test.YtjlhbfbdcfajfaaGreatDoorB34
import Derived.Test.YtjlhbfbdcfajfaaGreatDoorB35
namespace Go.Proofs.YtjlhbfbdcfajfaaGreatDoor
open Go.RowKit
set_option maxRecDepth 20000 in
set_option maxHeartbeats 8000000 in
theorem Ti {B:Nat} {w:World} (htab:EL B w) (hB:B≤w.heap.size) {S:Nat→Prop} {v:Value} {e:am} (h:SV w S v e) (hS:∀b,S b→b<w.heap.size) (lZ:og e) (sS:kB e) : Calls Tryz.prog 28 #[v] w (gy w (.bool (kW e))):=by
 obtain⟨cs,rfl,AP,fe,fO,AC,gA,gH,AS,gz,gF,AN,gi,gm,AD,gj,gp,rfl,uS,xQ,xP,xm,xn⟩:=h;have bd:Below w.heap.size w (w.alloc (.cells #[.string e.title,.int .i64 e.dots,.int .i64 e.blank,.int .i64 e.marked,.slice AP fe fO,.slice AC gA gH,.slice AS gz gF,.int .i64 e.scan,.int .i64 e.batch,.bool e.risk.neg,.slice AN gi gm,.slice AD gj gp,.int .i64 e.cell,.string e.seed] 30)):=(Below.refl _ _).alloc (Nat.le_refl _) _;have dy:aK (w.alloc (.cells #[.string e.title,.int .i64 e.dots,.int .i64 e.blank,.int .i64 e.marked,.slice AP fe fO,.slice AC gA gH,.slice AS gz gF,.int .i64 e.scan,.int .i64 e.batch,.bool e.risk.neg,.slice AN gi gm,.slice AD gj gp,.int .i64 e.cell,.string e.seed] 30)) w.heap.size 30 #[.string e.title,.int .i64 e.dots,.int .i64 e.blank,.int .i64 e.marked,.slice AP fe fO,.slice AC gA gH,.slice AS gz gF,.int .i64 e.scan,.int .i64 e.batch,.bool e.risk.neg,.slice AN gi gm,.slice AD gj gp,.int .i64 e.cell,.string e.seed]:=aK.new _ _ _;obtain⟨w1,bj⟩:∃q,w.alloc (.cells #[.string e.title,.int .i64 e.dots,.int .i64 e.blank,.int .i64 e.marked,.slice AP fe fO,.slice AC gA gH,.slice AS gz gF,.int .i64 e.scan,.int .i64 e.batch,.bool e.risk.neg,.slice AN gi gm,.slice AD gj gp,.int .i64 e.cell,.string e.seed] 30)=q:=⟨_,rfl⟩;rw[bj] at bd dy;have Ct:∀b,S b→b<w1.heap.size:=fun b h=>Nat.lt_of_lt_of_le (hS b h) bd.size;have hE:∀w',Up w1 w'→SV w' S (.agg #[.string e.title,.int .i64 e.dots,.int .i64 e.blank,.int .i64 e.marked,.slice AP fe fO,.slice AC gA gH,.slice AS gz gF,.int .i64 e.scan,.int .i64 e.batch,.bool e.risk.neg,.slice AN gi gm,.slice AD gj gp,.int .i64 e.cell,.string e.seed]) e:=fun w' hu=>⟨_,rfl,AP,fe,fO,AC,gA,gH,AS,gz,gF,AN,gi,gm,AD,gj,gp,rfl,(uS.below bd hS).below hu.out Ct,(xQ.below bd hS).below hu.out Ct,(xP.below bd hS).below hu.out Ct,(xm.below bd hS).below hu.out Ct,(xn.below bd hS).below hu.out Ct⟩;have hRK:∀w',Up w1 w'→SV w' S (.agg #[.bool e.risk.neg,.slice AN gi gm,.slice AD gj gp]) e.risk:=fun w' hu=>⟨_,rfl,_,_,_,_,_,_,rfl,(xm.below bd hS).below hu.out Ct,(xn.below bd hS).below hu.out Ct⟩;have KU:=MR (htab.up hB bd) (Nat.le_trans hB bd.size) (hE w1 (Below.refl _ _)) Ct lZ;obtain⟨z,hz⟩:∃z,kW e=z:=⟨_,rfl⟩;rw[hz];have eh:=hz.symm;unfold kW at eh;have d0:w1.cell? ⟨w.heap.size,0,none⟩=some (.string e.title):=dy.cell 0;have d1:w1.cell? ⟨w.heap.size,1,none⟩=some (.int .i64 e.dots):=dy.cell 1;have d2:w1.cell? ⟨w.heap.size,2,none⟩=some (.int .i64 e.blank):=dy.cell 2;have d3:w1.cell? ⟨w.heap.size,3,none⟩=some (.int .i64 e.marked):=dy.cell 3;have d4:w1.cell? ⟨w.heap.size,4,none⟩=some (.slice AP fe fO):=dy.cell 4;have d5:w1.cell? ⟨w.heap.size,5,none⟩=some (.slice AC gA gH):=dy.cell 5;have d6:w1.cell? ⟨w.heap.size,6,none⟩=some (.slice AS gz gF):=dy.cell 6;have d7:w1.cell? ⟨w.heap.size,7,none⟩=some (.int .i64 e.scan):=dy.cell 7;have d8:w1.cell? ⟨w.heap.size,8,none⟩=some (.int .i64 e.batch):=dy.cell 8;have d9:w1.cell? ⟨w.heap.size,9,none⟩=some (.bool e.risk.neg):=dy.cell 9;have zg:w1.cell? ⟨w.heap.size,10,none⟩=some (.slice AN gi gm):=dy.cell 10;have ze:w1.cell? ⟨w.heap.size,11,none⟩=some (.slice AD gj gp):=dy.cell 11;have zb:w1.cell? ⟨w.heap.size,12,none⟩=some (.int .i64 e.cell):=dy.cell 12;have za:w1.cell? ⟨w.heap.size,13,none⟩=some (.string e.seed):=dy.cell 13;have HE:=zH hE;have Wq:=zH hRK;have Wo:=zH KU;have HZ:=zH eh;have dO:=zH bj;have bS:=zH bd;have oW:=zH dy;have oh:=zH Ct;have SP:=zH lZ;have o7:=zH sS;show Calls _ _ #[.agg #[.string e.title,.int .i64 e.dots,.int .i64 e.blank,.int .i64 e.marked,.slice AP fe fO,.slice AC gA gH,.slice AS gz gF,.int .i64 e.scan,.int .i64 e.batch,.bool e.risk.neg,.slice AN gi gm,.slice AD gj gp,.int .i64 e.cell,.string e.seed]] w _;clear hE hRK KU eh hz bj bd dy Ct lZ sS htab uS xQ xP xm xn hS;go_enter Tryz.func28,Tryz.ntmps28;go_upto_region 1 with(fail);rw[dO.out];go_wp2_with fail;refine Wo.out.mono ?_;rintro en w2 ⟨v2,rfl,⟨I1,rfl,ri⟩,bY⟩;obtain⟨A2,n2,c2,rfl,JG⟩:=ri;have Ek:=Om (s:=mC e) JG (fun b hb=>hb.2) (Tx SP.out o7.out);obtain⟨⟨r,⟨no,ln⟩⟩,hq⟩:∃q,iZ (mC e)=q:=⟨_,rfl⟩;have xl:=EA (mC e);rw[hq] at Ek xl;have eQ:=HZ.out;rw[hq] at eQ;have fy:=zH eQ;have afM:=zH Ek;have HSH:=zH xl;have bX:=zH bY;clear JG Ek hq xl eQ HZ bY d0 d1 d2 d3 d4 d5 d6 d7 d8 d9 zg ze zb za;go_wp2_with fail;refine afM.out.mono ?_;rintro en w3 ⟨cs3,hen,D8,ey⟩;obtain⟨BP,Jq,Jv,BC,Jt,Jy,BS,Jp,Ju,BN,Jr,Jw,BD,Js,Jx,adL,gP,gC,gS,gN,gD⟩:=D8;have adF:en=.returned (.tuple #[.agg #[.string r.title,.int .i64 r.dots,.int .i64 r.blank,.int .i64 r.marked,.slice BP Jq Jv,.slice BC Jt Jy,.slice BS Jp Ju,.int .i64 r.scan,.int .i64 r.batch,.bool r.risk.neg,.slice BN Jr Jw,.slice BD Js Jx,.int .i64 r.cell,.string r.seed],.agg #[.int .i64 no,.int .i64 ln]]):=by rw[hen,adL];rfl
 clear hen;subst adF;have xv:Below w1.heap.size w1 w3:=ae bX.out ey;have fa:Below w3.heap.size w3 ((w3.alloc (.cells #[.string r.title,.int .i64 r.dots,.int .i64 r.blank,.int .i64 r.marked,.slice BP Jq Jv,.slice BC Jt Jy,.slice BS Jp Ju,.int .i64 r.scan,.int .i64 r.batch,.bool r.risk.neg,.slice BN Jr Jw,.slice BD Js Jx,.int .i64 r.cell,.string r.seed] 30)).alloc (.cells #[.int .i64 no,.int .i64 ln] 76)):=((Below.refl _ _).alloc (Nat.le_refl _) _).alloc (by simp) _;have iF:aK ((w3.alloc (.cells #[.string r.title,.int .i64 r.dots,.int .i64 r.blank,.int .i64 r.marked,.slice BP Jq Jv,.slice BC Jt Jy,.slice BS Jp Ju,.int .i64 r.scan,.int .i64 r.batch,.bool r.risk.neg,.slice BN Jr Jw,.slice BD Js Jx,.int .i64 r.cell,.string r.seed] 30)).alloc (.cells #[.int .i64 no,.int .i64 ln] 76)) w3.heap.size 30 #[.string r.title,.int .i64 r.dots,.int .i64 r.blank,.int .i64 r.marked,.slice BP Jq Jv,.slice BC Jt Jy,.slice BS Jp Ju,.int .i64 r.scan,.int .i64 r.batch,.bool r.risk.neg,.slice BN Jr Jw,.slice BD Js Jx,.int .i64 r.cell,.string r.seed]:=(aK.new _ _ _).alloc _;have jj:aK ((w3.alloc (.cells #[.string r.title,.int .i64 r.dots,.int .i64 r.blank,.int .i64 r.marked,.slice BP Jq Jv,.slice BC Jt Jy,.slice BS Jp Ju,.int .i64 r.scan,.int .i64 r.batch,.bool r.risk.neg,.slice BN Jr Jw,.slice BD Js Jx,.int .i64 r.cell,.string r.seed] 30)).alloc (.cells #[.int .i64 no,.int .i64 ln] 76)) (w3.heap.size+1) 76 #[.int .i64 no,.int .i64 ln]:=aK.new' (by simp) _ _;obtain⟨w4,Ck⟩:∃q,(w3.alloc (.cells #[.string r.title,.int .i64 r.dots,.int .i64 r.blank,.int .i64 r.marked,.slice BP Jq Jv,.slice BC Jt Jy,.slice BS Jp Ju,.int .i64 r.scan,.int .i64 r.batch,.bool r.risk.neg,.slice BN Jr Jw,.slice BD Js Jx,.int .i64 r.cell,.string r.seed] 30)).alloc (.cells #[.int .i64 no,.int .i64 ln] 76)=q:=⟨_,rfl⟩;rw[Ck] at fa iF jj;have hu4:Up w1 w4:=Up.more xv fa;have hC:∀w',Up w4 w'→SV w' (bz w2 w3) (.agg #[.string r.title,.int .i64 r.dots,.int .i64 r.blank,.int .i64 r.marked,.slice BP Jq Jv,.slice BC Jt Jy,.slice BS Jp Ju,.int .i64 r.scan,.int .i64 r.batch,.bool r.risk.neg,.slice BN Jr Jw,.slice BD Js Jx,.int .i64 r.cell,.string r.seed]) r:=fun w' hu=>⟨_,rfl,BP,Jq,Jv,BC,Jt,Jy,BS,Jp,Ju,BN,Jr,Jw,BD,Js,Jx,rfl,(gP.below fa (fun _ h=>h.2)).below hu.out (fun b h=>Nat.lt_of_lt_of_le h.2 fa.size),(gC.below fa (fun _ h=>h.2)).below hu.out (fun b h=>Nat.lt_of_lt_of_le h.2 fa.size),(gS.below fa (fun _ h=>h.2)).below hu.out (fun b h=>Nat.lt_of_lt_of_le h.2 fa.size),(gN.below fa (fun _ h=>h.2)).below hu.out (fun b h=>Nat.lt_of_lt_of_le h.2 fa.size),(gD.below fa (fun _ h=>h.2)).below hu.out (fun b h=>Nat.lt_of_lt_of_le h.2 fa.size)⟩;have t0:w4.cell? ⟨w3.heap.size+1,0,none⟩=some (.int .i64 no):=jj.cell 0;have om:=oW.out.keep hu4;have x9:w4.cell? ⟨w.heap.size,9,none⟩=some (.bool e.risk.neg):=om.cell 9;have x10:w4.cell? ⟨w.heap.size,10,none⟩=some (.slice AN gi gm):=om.cell 10;have x11:w4.cell? ⟨w.heap.size,11,none⟩=some (.slice AD gj gp):=om.cell 11;have HC:=zH hC;have Wk:=zH hu4;have Wh:=zH Ck;have un:=zH iF;have lH:=zH fa.size;clear xv fa iF jj Ck hu4 hC gP gC gS gN gD ey om;go_upto_region 2 with(fail);rw[Wh.out];by_cases iR:no=0
 case neg=>
  have dA:(no==0)=false:=by rw[beq_eq_false_iff_ne];exact iR
  have av:z=false:=by rw[fy.out,decide_eq_false iR,Bool.false_and]
  have bm:=zH av;clear av iR;go_wp2_with fail;go_ret
  exact⟨by rw[bm.out];rfl,bS.out.trans (Wk.out.out.mono bS.out.size)⟩
 subst iR;obtain⟨rv,hrv⟩:∃q,e.risk.valid=q:=⟨_,rfl⟩;have ku:=PT (Wq.out w4 Wk.out) (fun b h=>Nat.lt_of_lt_of_le (oh.out b h) Wk.out.out.size) ⟨Nat.le_trans SP.out.short.1 (by omega),Nat.le_trans SP.out.short.2 (by omega)⟩;have jE:=fy.out;rw[decide_eq_true (rfl:(0:Int)=0),Bool.true_and] at jE;rw[hrv] at ku jE;have sO:=zH ku;have iL:=zH jE;clear ku jE hrv;go_wp2_with fail;refine sO.out.mono ?_;rintro en w5 ⟨rfl,mE⟩;have hu5:Up w4 w5:=mE;cases rv
 case false=>
  have av:z=false:=by rw[iL.out,Bool.false_and]
  have bm:=zH av;have HU5:=zH (Wk.out.more mE);clear av hu5 mE;go_wp2_with fail;go_ret
  exact⟨by rw[bm.out];rfl,bS.out.trans (HU5.out.out.mono bS.out.size)⟩
 have UB:Up w1 w5:=Wk.out.more mE;obtain⟨eq,Fl⟩:∃q,AQ r e=q:=⟨_,rfl⟩;have aw:=VN (HC.out w5 hu5) (HE.out w5 UB) (fun b h=>Nat.lt_of_lt_of_le h.2 (Nat.le_trans lH.out hu5.out.size)) (fun b h=>Nat.lt_of_lt_of_le (oh.out b h) UB.out.size) HSH.out SP.out.short;have xN:=iL.out;rw[Bool.true_and] at xN;rw[Fl] at aw xN;have sA:=oW.out.keep UB;have tA:=un.out.keep hu5;have p0:w5.cell? ⟨w.heap.size,0,none⟩=some (.string e.title):=sA.cell 0;have p1:w5.cell? ⟨w.heap.size,1,none⟩=some (.int .i64 e.dots):=sA.cell 1;have p2:w5.cell? ⟨w.heap.size,2,none⟩=some (.int .i64 e.blank):=sA.cell 2;have p3:w5.cell? ⟨w.heap.size,3,none⟩=some (.int .i64 e.marked):=sA.cell 3;have p4:w5.cell? ⟨w.heap.size,4,none⟩=some (.slice AP fe fO):=sA.cell 4;have p5:w5.cell? ⟨w.heap.size,5,none⟩=some (.slice AC gA gH):=sA.cell 5;have p6:w5.cell? ⟨w.heap.size,6,none⟩=some (.slice AS gz gF):=sA.cell 6;have p7:w5.cell? ⟨w.heap.size,7,none⟩=some (.int .i64 e.scan):=sA.cell 7;have p8:w5.cell? ⟨w.heap.size,8,none⟩=some (.int .i64 e.batch):=sA.cell 8;have p9:w5.cell? ⟨w.heap.size,9,none⟩=some (.bool e.risk.neg):=sA.cell 9;have DG:w5.cell? ⟨w.heap.size,10,none⟩=some (.slice AN gi gm):=sA.cell 10;have DF:w5.cell? ⟨w.heap.size,11,none⟩=some (.slice AD gj gp):=sA.cell 11;have DD:w5.cell? ⟨w.heap.size,12,none⟩=some (.int .i64 e.cell):=sA.cell 12;have DC:w5.cell? ⟨w.heap.size,13,none⟩=some (.string e.seed):=sA.cell 13;have q0:w5.cell? ⟨w3.heap.size,0,none⟩=some (.string r.title):=tA.cell 0;have q1:w5.cell? ⟨w3.heap.size,1,none⟩=some (.int .i64 r.dots):=tA.cell 1;have q2:w5.cell? ⟨w3.heap.size,2,none⟩=some (.int .i64 r.blank):=tA.cell 2;have q3:w5.cell? ⟨w3.heap.size,3,none⟩=some (.int .i64 r.marked):=tA.cell 3;have q4:w5.cell? ⟨w3.heap.size,4,none⟩=some (.slice BP Jq Jv):=tA.cell 4;have q5:w5.cell? ⟨w3.heap.size,5,none⟩=some (.slice BC Jt Jy):=tA.cell 5;have q6:w5.cell? ⟨w3.heap.size,6,none⟩=some (.slice BS Jp Ju):=tA.cell 6;have q7:w5.cell? ⟨w3.heap.size,7,none⟩=some (.int .i64 r.scan):=tA.cell 7;have q8:w5.cell? ⟨w3.heap.size,8,none⟩=some (.int .i64 r.batch):=tA.cell 8;have q9:w5.cell? ⟨w3.heap.size,9,none⟩=some (.bool r.risk.neg):=tA.cell 9;have q10:w5.cell? ⟨w3.heap.size,10,none⟩=some (.slice BN Jr Jw):=tA.cell 10;have q11:w5.cell? ⟨w3.heap.size,11,none⟩=some (.slice BD Js Jx):=tA.cell 11;have q12:w5.cell? ⟨w3.heap.size,12,none⟩=some (.int .i64 r.cell):=tA.cell 12;have q13:w5.cell? ⟨w3.heap.size,13,none⟩=some (.string r.seed):=tA.cell 13;have eu:=zH aw;have rU:=zH xN;have HU5:=zH UB;clear aw xN Fl sA tA hu5 UB mE x9 x10 x11 t0;go_wp2_with fail;refine eu.out.mono ?_;rintro en w6 ⟨rfl,kC⟩;have HU6:=zH (HU5.out.more kC);clear kC;go_wp2_with fail;go_ret
 exact⟨by rw[rU.out];rfl,bS.out.trans (HU6.out.out.mono bS.out.size)⟩
def aG:am:=⟨⟨#[]⟩,2,20,50,[⟨#[97]⟩,⟨#[98]⟩],[⟨⟨#[109]⟩,[⟨#[120]⟩,⟨#[121]⟩,⟨#[122]⟩],1,1,3,0,3,1,1⟩],[⟨⟨#[115]⟩,[0,1],[0]⟩],1,4,⟨false,[1#32],[20#32]⟩,2,⟨#[]⟩⟩
theorem t1:(iV aG.risk.q)=[49,47,50,48]:=by kernel_rfl
theorem t2:Br 20=⟨#[50,48]⟩:=by kernel_rfl
theorem t3:kW aG=true:=by kernel_rfl
structure aY where
 prec:Int
 issued:Int
 spoilt:Int
 cast:Int
instance:bG aY where
 sz:=4
 rep _ _ cs x:=cs=[.int .i64 x.prec,.int .i64 x.issued,.int .i64 x.spoilt,.int .i64 x.cast]
 len h:=by rw[h];rfl
 keep h _ _:=h
structure kA where
 prec:Int
 papers:Int
 recs:Int
 missing:Int
 extra:Int
 unbal:Bool
instance:bG kA where
 sz:=6
 rep _ _ cs x:=cs=[.int .i64 x.prec,.int .i64 x.papers,.int .i64 x.recs,.int .i64 x.missing,.int .i64 x.extra,.bool x.unbal]
 len h:=by rw[h];rfl
 keep h _ _:=h
structure lU where
 prec:Int
 votes:Value
 doubt:Bool
instance:bG lU where
 sz:=3
 rep _ _ cs x:=∃A n c,x.votes=.slice A n c∧cs=[.int .i64 x.prec,.slice A n c,.bool x.doubt]
 len h:=by obtain⟨_,_,_,_,rfl⟩:=h;rfl
 keep h _ _:=h
def iE (n:Int):Bool:=decide (0≤n)&&decide (n≤400)
theorem CI (n:Int) (w:World):Calls Tryz.prog 29 #[.int .i64 n] w (gq w (.bool (iE n))):=by
 obtain⟨z,hz⟩:∃z,iE n=z:=⟨_,rfl⟩;have eh:=hz.symm;unfold iE at eh;rw[hz];have HZ:=zH eh;clear hz eh;go_enter Tryz.func29,Tryz.ntmps29;by_cases h0:0≤n
 ·have d0:(0≤n)=True:=eq_true h0;by_cases h1:n≤400
  ·have av:z=true:=by rw[HZ.out,decide_eq_true h0,decide_eq_true h1];rfl
   have bm:=zH av;have d1:(n≤400)=True:=eq_true h1;clear av h0 h1;go_wp2_with fail;go_ret
   exact⟨by rw[bm.out];rfl,rfl⟩
  ·have av:z=false:=by rw[HZ.out,decide_eq_false h1,Bool.and_false]
   have bm:=zH av;have d1:(n≤400)=False:=eq_false h1;clear av h0 h1;go_wp2_with fail;go_ret
   exact⟨by rw[bm.out];rfl,rfl⟩
 ·have av:z=false:=by rw[HZ.out,decide_eq_false h0,Bool.false_and]
  have bm:=zH av;have d0:(0≤n)=False:=eq_false h0;clear av h0;go_wp2_with fail;go_ret
  exact⟨by rw[bm.out];rfl,rfl⟩
def lO (n:Int) (g:kA):Int:=min (n+min (max g.missing 0) 400) 400
def xa (l:List kA):Int:=l.foldl lO 0
theorem yq {n:Int} (g:kA) (h:0≤n∧n≤400):0≤lO n g∧lO n g≤400:=by unfold lO;omega
set_option maxRecDepth 20000 in
set_option maxHeartbeats 2000000 in
theorem Dz {w:World} {S:Nat→Prop} {A:Option Addr} {n c:Nat} {xs:List kA} (h:RS w S A n c xs) (hS:∀b,S b→b<w.heap.size):Calls Tryz.prog 16 #[.slice A n c] w (gy w (.int .i64 (xa xs))):=by
 obtain⟨z,hz⟩:∃z,xa xs=z:=⟨_,rfl⟩;rw[hz];have eh:=hz.symm;have Cn:=h.max;have H1:=zH h;have HZ:=zH eh;have vw:=zH h.len;clear h hz eh;go_enter Tryz.func16,Tryz.ntmps16;go_wp2_with fail;go_loopw [3,8] (fun nv iv wr=>∃(k:Nat) (m:Int),iv=.int .i64 k∧k≤n∧nv=.int .i64 m∧0≤m∧m≤400∧z=(xs.drop k).foldl lO m∧Below w.heap.size w wr) (fun _ iv _=>n-(intOf iv).toNat)
 case atStart=>exact⟨0,0,rfl,Nat.zero_le _,rfl,by omega,by omega,HZ.out,Below.refl _ _⟩
 case round=>
  clear HZ;obtain⟨k,m,rfl,hk,rfl,AH,NK,pF,hb⟩:=hrel;have ql:=zH pF;have HB:=zH hb;have HR:=zH (H1.out.below hb hS);clear pF hb;by_cases bn:k<n
  ·have dK:(k:Int)<(n:Int):=by omega
   obtain⟨b,o,x,cs,rfl,yR,hx,hr,jG⟩:=HR.out.load_at (fun b h=>Nat.lt_of_lt_of_le (hS b h) HB.out.size) bn;have gO:(k:Int)≤(c:Int):=by have:=HR.out.cap;omega
   have eQ:z=(xs.drop (k+1)).foldl lO (lO m x):=by rw[ql.out,bR hx];rfl
   have hrg:=yq x ⟨AH,NK⟩;have rY:cs=[.int .i64 x.prec,.int .i64 x.papers,.int .i64 x.recs,.int .i64 x.missing,.int .i64 x.extra,.bool x.unbal]:=hr;subst rY;have dT:=jG wr (Below.refl _ _);have r0:wr.cell? ⟨b,o+k*6,none⟩=some (.int .i64 x.prec):=dT.1 _ rfl;have r1:wr.cell? ⟨b,o+k*6+1,none⟩=some (.int .i64 x.papers):=dT.2 1 _ rfl;have r2:wr.cell? ⟨b,o+k*6+2,none⟩=some (.int .i64 x.recs):=dT.2 2 _ rfl;have r3:wr.cell? ⟨b,o+k*6+3,none⟩=some (.int .i64 x.missing):=dT.2 3 _ rfl;have r4:wr.cell? ⟨b,o+k*6+4,none⟩=some (.int .i64 x.extra):=dT.2 4 _ rfl;have r5:wr.cell? ⟨b,o+k*6+5,none⟩=some (.bool x.unbal):=dT.2 5 _ rfl;have bd:Below wr.heap.size wr (wr.alloc (.cells #[.int .i64 x.prec,.int .i64 x.papers,.int .i64 x.recs,.int .i64 x.missing,.int .i64 x.extra,.bool x.unbal] 45)):=(Below.refl _ _).alloc (Nat.le_refl _) _;have dy:aK (wr.alloc (.cells #[.int .i64 x.prec,.int .i64 x.papers,.int .i64 x.recs,.int .i64 x.missing,.int .i64 x.extra,.bool x.unbal] 45)) wr.heap.size 45 #[.int .i64 x.prec,.int .i64 x.papers,.int .i64 x.recs,.int .i64 x.missing,.int .i64 x.extra,.bool x.unbal]:=aK.new _ _ _;obtain⟨w1,bj⟩:∃q,wr.alloc (.cells #[.int .i64 x.prec,.int .i64 x.papers,.int .i64 x.recs,.int .i64 x.missing,.int .i64 x.extra,.bool x.unbal] 45)=q:=⟨_,rfl⟩;rw[bj] at bd dy;have p3:w1.cell? ⟨wr.heap.size,3,none⟩=some (.int .i64 x.missing):=dy.cell 3;obtain⟨y,hy⟩:∃y,max x.missing 0=y:=⟨_,rfl⟩;obtain⟨u,hu⟩:∃u,min y 400=u:=⟨_,rfl⟩;obtain⟨s,hs⟩:∃s,lO m x=s:=⟨_,rfl⟩;have xO:s=min (m+u) 400:=by rw[←hs,←hu,←hy];rfl
   have hwr:IntKind.i64.wrap (m+u)=m+u:=by rw[IntKind.wrap_i64]<;>omega
   rw[hs] at eQ hrg;have fy:=zH eQ;have bS:=zH (ae HB.out bd);have dO:=zH bj;have HS:=zH hs;obtain⟨hs0,hs4⟩:=hrg;clear dT jG hx hr eQ bd dy bj hs;go_upto_region 5 with(fail);rw[dO.out];clear r0 r1 r2 r3 r4 r5;go_wp2_with fail;refine⟨⟨k+1,s,by go_num,by omega,by rw[xO],hs0,hs4,fy.out,bS.out⟩,?_⟩;simp[intOf];omega
  ·have fI:k=n:=by omega
   have av:z=m:=by
    rw[ql.out,List.drop_eq_nil_of_le (by rw[vw.out];omega)];rfl
   have bm:=zH av;clear av fI;go_wp2_with fail;go_ret
   exact⟨by rw[bm.out];rfl,HB.out⟩
def qG:Nat→List aY→Bool
 | _,[]=>true
 | i,a::l=>decide (a.prec=(i:Int))&&(iE a.issued&&(iE a.spoilt&&(iE a.cast&&qG (i+1) l)))
def iJ (l:List aY):Int:=(l.map (·.cast)).sum
def nc (e:am) (ig:List aY):Bool:=kW e&&(decide (ig.length=e.prec.length)&&(qG 0 ig&&iE (iJ ig)))
theorem oF {n:Int}:iE n=true↔0≤n∧n≤400:=by unfold iE;simp
set_option maxRecDepth 20000 in
set_option maxHeartbeats 4000000 in
theorem vh {B:Nat} {w:World} (htab:EL B w) (hB:B≤w.heap.size) {S S2:Nat→Prop} {v:Value} {e:am} (h:SV w S v e) (hS:∀b,S b→b<w.heap.size) (lZ:og e) (sS:kB e) {A:Option Addr} {n c:Nat} {ig:List aY} (ha:RS w S2 A n c ig) (eF:∀b,S2 b→b<w.heap.size) : Calls Tryz.prog 11 #[v,.slice A n c] w (gy w (.bool (nc e ig))):=by
 obtain⟨cs,rfl,AP,fe,fO,AC,gA,gH,AS,gz,gF,AN,gi,gm,AD,gj,gp,rfl,uS,xQ,xP,xm,xn⟩:=h;have bd:Below w.heap.size w (w.alloc (.cells #[.string e.title,.int .i64 e.dots,.int .i64 e.blank,.int .i64 e.marked,.slice AP fe fO,.slice AC gA gH,.slice AS gz gF,.int .i64 e.scan,.int .i64 e.batch,.bool e.risk.neg,.slice AN gi gm,.slice AD gj gp,.int .i64 e.cell,.string e.seed] 30)):=(Below.refl _ _).alloc (Nat.le_refl _) _;have dy:aK (w.alloc (.cells #[.string e.title,.int .i64 e.dots,.int .i64 e.blank,.int .i64 e.marked,.slice AP fe fO,.slice AC gA gH,.slice AS gz gF,.int .i64 e.scan,.int .i64 e.batch,.bool e.risk.neg,.slice AN gi gm,.slice AD gj gp,.int .i64 e.cell,.string e.seed] 30)) w.heap.size 30 #[.string e.title,.int .i64 e.dots,.int .i64 e.blank,.int .i64 e.marked,.slice AP fe fO,.slice AC gA gH,.slice AS gz gF,.int .i64 e.scan,.int .i64 e.batch,.bool e.risk.neg,.slice AN gi gm,.slice AD gj gp,.int .i64 e.cell,.string e.seed]:=aK.new _ _ _;obtain⟨w1,bj⟩:∃q,w.alloc (.cells #[.string e.title,.int .i64 e.dots,.int .i64 e.blank,.int .i64 e.marked,.slice AP fe fO,.slice AC gA gH,.slice AS gz gF,.int .i64 e.scan,.int .i64 e.batch,.bool e.risk.neg,.slice AN gi gm,.slice AD gj gp,.int .i64 e.cell,.string e.seed] 30)=q:=⟨_,rfl⟩;rw[bj] at bd dy;have ku:=Ti (htab.up hB bd) (Nat.le_trans hB bd.size) (S:=S) (e:=e) (w:=w1) ⟨_,rfl,AP,fe,fO,AC,gA,gH,AS,gz,gF,AN,gi,gm,AD,gj,gp,rfl,uS.below bd hS,xQ.below bd hS,xP.below bd hS,xm.below bd hS,xn.below bd hS⟩ (fun b h=>Nat.lt_of_lt_of_le (hS b h) bd.size) lZ sS;obtain⟨z,hz⟩:∃z,nc e ig=z:=⟨_,rfl⟩;rw[hz];have eh:=hz.symm;unfold nc at eh;obtain⟨vb,Ph⟩:∃q,kW e=q:=⟨_,rfl⟩;rw[Ph] at ku eh;have IM:=uS.len;have NN:=ha.len;have hmP:fe≤274877906944:=by rw[←IM];exact lZ.lp
 have hmA:=ha.max;rw[IM,NN] at eh;have d0:w1.cell? ⟨w.heap.size,0,none⟩=some (.string e.title):=dy.cell 0;have d1:w1.cell? ⟨w.heap.size,1,none⟩=some (.int .i64 e.dots):=dy.cell 1;have d2:w1.cell? ⟨w.heap.size,2,none⟩=some (.int .i64 e.blank):=dy.cell 2;have d3:w1.cell? ⟨w.heap.size,3,none⟩=some (.int .i64 e.marked):=dy.cell 3;have d4:w1.cell? ⟨w.heap.size,4,none⟩=some (.slice AP fe fO):=dy.cell 4;have d5:w1.cell? ⟨w.heap.size,5,none⟩=some (.slice AC gA gH):=dy.cell 5;have d6:w1.cell? ⟨w.heap.size,6,none⟩=some (.slice AS gz gF):=dy.cell 6;have d7:w1.cell? ⟨w.heap.size,7,none⟩=some (.int .i64 e.scan):=dy.cell 7;have d8:w1.cell? ⟨w.heap.size,8,none⟩=some (.int .i64 e.batch):=dy.cell 8;have d9:w1.cell? ⟨w.heap.size,9,none⟩=some (.bool e.risk.neg):=dy.cell 9;have zg:w1.cell? ⟨w.heap.size,10,none⟩=some (.slice AN gi gm):=dy.cell 10;have ze:w1.cell? ⟨w.heap.size,11,none⟩=some (.slice AD gj gp):=dy.cell 11;have zb:w1.cell? ⟨w.heap.size,12,none⟩=some (.int .i64 e.cell):=dy.cell 12;have za:w1.cell? ⟨w.heap.size,13,none⟩=some (.string e.seed):=dy.cell 13;have sO:=zH ku;have HZ:=zH eh;have dO:=zH bj;have bS:=zH bd;have oW:=zH dy;have HA:=zH (ha.below bd eF);have C6:=zH NN;have mf:Hid (∀b,S2 b→b<w1.heap.size):=zH fun b h=>Nat.lt_of_lt_of_le (eF b h) bd.size;show Calls _ _ #[.agg #[.string e.title,.int .i64 e.dots,.int .i64 e.blank,.int .i64 e.marked,.slice AP fe fO,.slice AC gA gH,.slice AS gz gF,.int .i64 e.scan,.int .i64 e.batch,.bool e.risk.neg,.slice AN gi gm,.slice AD gj gp,.int .i64 e.cell,.string e.seed],.slice A n c] w _;clear ku hz eh Ph IM NN bj bd dy ha eF hS lZ sS htab uS xQ xP xm xn;go_enter Tryz.func11,Tryz.ntmps11;go_upto_region 1 with(fail);rw[dO.out];go_wp2_with fail;refine sO.out.mono ?_;rintro en w2 ⟨rfl,bY⟩;have fM:=oW.out.keep bY;have x4:w2.cell? ⟨w.heap.size,4,none⟩=some (.slice AP fe fO):=fM.cell 4;have bX:=zH bY;clear bY fM d0 d1 d2 d3 d4 d5 d6 d7 d8 d9 zg ze zb za;cases vb
 case false=>
  have av:z=false:=by rw[HZ.out,Bool.false_and]
  have bm:=zH av;clear av;go_wp2_with fail;go_ret
  exact⟨by rw[bm.out];rfl,ae bS.out bX.out⟩
 by_cases hn:n=fe
 case neg=>
  have av:z=false:=by rw[HZ.out,decide_eq_false hn];rfl
  have bm:=zH av;have hb:((n:Int)==(fe:Int))=false:=by rw[beq_eq_false_iff_ne];omega
  have bY:(n==fe)=false:=by rw[beq_eq_false_iff_ne];exact hn
  clear av hn;go_wp2_with fail;go_ret
  exact⟨by rw[bm.out];rfl,ae bS.out bX.out⟩
 subst hn;have eQ:=HZ.out;rw[decide_eq_true rfl,Bool.true_and,Bool.true_and] at eQ;have fy:=zH eQ;clear eQ HZ;go_wp2_with fail;go_loopw [5,21] (fun sv iv wr=>∃(k:Nat) (s:Int),iv=.int .i64 k∧k≤n∧sv=.int .i64 s∧0≤s∧s≤400*(k:Int)∧z=(qG k (ig.drop k)&&iE (s+iJ (ig.drop k)))∧Below w1.heap.size w1 wr) (fun _ iv _=>n-(intOf iv).toNat)
 case atStart=>exact⟨0,0,rfl,Nat.zero_le _,rfl,by omega,by omega,by simpa using fy.out,bX.out⟩
 case round=>
  clear fy;obtain⟨k,s,rfl,hk,rfl,hs0,hs4,pF,hb⟩:=hrel;have ql:=zH pF;have HB:=zH hb;have HR:=zH (HA.out.below hb mf.out);clear pF hb;by_cases bn:k<n
  ·have dK:(k:Int)<(n:Int):=by omega
   obtain⟨b,o,x,cs,rfl,yR,hx,hr,jG⟩:=HR.out.load_at (fun b h=>Nat.lt_of_lt_of_le (mf.out b h) HB.out.size) bn;have gO:(k:Int)≤(c:Int):=by have:=HR.out.cap;omega
   have eQ:z=((decide (x.prec=(k:Int))&&(iE x.issued&&(iE x.spoilt&&(iE x.cast&&qG (k+1) (ig.drop (k+1))))))&&iE (s+(x.cast+iJ (ig.drop (k+1))))):=by rw[ql.out,bR hx];rfl
   have rY:cs=[.int .i64 x.prec,.int .i64 x.issued,.int .i64 x.spoilt,.int .i64 x.cast]:=hr;subst rY;have dT:=jG wr (Below.refl _ _);have r0:wr.cell? ⟨b,o+k*4,none⟩=some (.int .i64 x.prec):=dT.1 _ rfl;have r1:wr.cell? ⟨b,o+k*4+1,none⟩=some (.int .i64 x.issued):=dT.2 1 _ rfl;have r2:wr.cell? ⟨b,o+k*4+2,none⟩=some (.int .i64 x.spoilt):=dT.2 2 _ rfl;have r3:wr.cell? ⟨b,o+k*4+3,none⟩=some (.int .i64 x.cast):=dT.2 3 _ rfl;have ey:Below wr.heap.size wr (wr.alloc (.cells #[.int .i64 x.prec,.int .i64 x.issued,.int .i64 x.spoilt,.int .i64 x.cast] 73)):=(Below.refl _ _).alloc (Nat.le_refl _) _;have iF:aK (wr.alloc (.cells #[.int .i64 x.prec,.int .i64 x.issued,.int .i64 x.spoilt,.int .i64 x.cast] 73)) wr.heap.size 73 #[.int .i64 x.prec,.int .i64 x.issued,.int .i64 x.spoilt,.int .i64 x.cast]:=aK.new _ _ _;obtain⟨w3,qc⟩:∃q,wr.alloc (.cells #[.int .i64 x.prec,.int .i64 x.issued,.int .i64 x.spoilt,.int .i64 x.cast] 73)=q:=⟨_,rfl⟩;rw[qc] at ey iF;have p0:w3.cell? ⟨wr.heap.size,0,none⟩=some (.int .i64 x.prec):=iF.cell 0;have p1:w3.cell? ⟨wr.heap.size,1,none⟩=some (.int .i64 x.issued):=iF.cell 1;have p2:w3.cell? ⟨wr.heap.size,2,none⟩=some (.int .i64 x.spoilt):=iF.cell 2;have p3:w3.cell? ⟨wr.heap.size,3,none⟩=some (.int .i64 x.cast):=iF.cell 3;have fy:=zH eQ;have iT:=zH (HB.out.trans (ey.mono HB.out.size));have Rx:=zH qc;clear dT jG hx hr eQ ey iF qc;go_upto_region 7 with(fail);rw[Rx.out];clear r0 r1 r2 r3;have iM:Hid (Below w.heap.size w w3):=zH (bS.out.trans (iT.out.mono bS.out.size));by_cases hp:x.prec=(k:Int)
   case neg=>
    have av:z=false:=by rw[fy.out,decide_eq_false hp];rfl
    have bm:=zH av;have hq:(x.prec==(k:Int))=false:=by rw[beq_eq_false_iff_ne];exact hp
    have GX:(x.prec !=(k:Int))=true:=by rw[bne_iff_ne];exact hp
    clear av hp;go_wp2_with fail;go_ret
    exact⟨by rw[bm.out];rfl,iM.out⟩
   have hq:(x.prec==(k:Int))=true:=by rw[beq_iff_eq];exact hp
   have GX:(x.prec !=(k:Int))=false:=by simp[hp]
   have jE:=fy.out;rw[decide_eq_true hp,Bool.true_and] at jE;have iL:=zH jE;clear jE hp;obtain⟨b1,bd⟩:∃q,iE x.issued=q:=⟨_,rfl⟩;obtain⟨b2,bY⟩:∃q,iE x.spoilt=q:=⟨_,rfl⟩;obtain⟨b3,ey⟩:∃q,iE x.cast=q:=⟨_,rfl⟩;have h1:=fun w=>CI x.issued w;have h2:=fun w=>CI x.spoilt w;have h3:=fun w=>CI x.cast w;rw[bd] at h1;rw[bY] at h2;rw[ey] at h3;have xN:=iL.out;rw[bd,bY,ey] at xN;have rU:=zH xN;have C3:=zH h1;have EW:=zH h2;have SO:=zH h3;have awA:=zH ey;clear bd bY ey h1 h2 h3 xN;go_wp2_with fail;refine(C3.out _).mono ?_;rintro en w' ⟨rfl,rfl⟩;cases b1
   case false=>
    have av:z=false:=by rw[rU.out];rfl
    have bm:=zH av;clear av;go_wp2_with fail;go_ret
    exact⟨by rw[bm.out];rfl,iM.out⟩
   go_wp2_with fail;refine(EW.out _).mono ?_;rintro en w' ⟨rfl,rfl⟩;cases b2
   case false=>
    have av:z=false:=by rw[rU.out];rfl
    have bm:=zH av;clear av;go_wp2_with fail;go_ret
    exact⟨by rw[bm.out];rfl,iM.out⟩
   go_wp2_with fail;refine(SO.out _).mono ?_;rintro en w' ⟨rfl,rfl⟩;cases b3
   case false=>
    have av:z=false:=by rw[rU.out];rfl
    have bm:=zH av;clear av;go_wp2_with fail;go_ret
    exact⟨by rw[bm.out];rfl,iM.out⟩
   have pH:=oF.1 awA.out;have aia:IntKind.i64.wrap (s+x.cast)=s+x.cast:=by rw[IntKind.wrap_i64]<;>omega
   have zE:z=(qG (k+1) (ig.drop (k+1))&&iE (s+x.cast+iJ (ig.drop (k+1)))):=by
    rw[rU.out,Int.add_assoc];rfl
   have JM:=zH zE;obtain⟨D9,hr4⟩:=pH;obtain⟨s2,xO⟩:∃q,s+x.cast=q:=⟨_,rfl⟩;rw[xO] at aia zE;have HZ5:=zH zE;have hsr:0≤s2∧s2≤400*((k+1:Nat):Int):=by omega
   have HSR:=zH hsr;have HE2:=zH xO;clear zE xO hsr JM;go_wp2_with fail;go_roundw
   case rel=>exact⟨k+1,s2,by go_num,by omega,by rw[HE2.out],HSR.out.1,HSR.out.2,HZ5.out,iT.out⟩
   case measure=>simp[intOf];omega
  ·have fI:k=n:=by omega
   have av:z=iE s:=by
    rw[ql.out,List.drop_eq_nil_of_le (by rw[C6.out];omega)];simp[qG,iJ]
   have aw:=fun w=>CI s w;rw[←av] at aw;have eu:=zH aw;clear av fI aw;go_wp2_with fail;refine(eu.out _).mono ?_;rintro en w' ⟨rfl,rfl⟩;go_wp2_with fail;go_ret
   exact⟨rfl,bS.out.trans (HB.out.mono bS.out.size)⟩
end Go.Proofs.YtjlhbfbdcfajfaaGreatDoor
