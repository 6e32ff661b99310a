/- Smp2 Acc4 Acc5 Open -/
import Derived.Test.YtjlhbfbdcfajfaaGreatDoorB36
import Derived.Test.YtjlhbfbdcfajfaaGreatDoorB37
import Derived.Test.YtjlhbfbdcfajfaaGreatDoorB29
import Derived.Test.YtjlhbfbdcfajfaaGreatDoorB02
import Derived.ProofKit
import Derived.Deep.Slices
import Derived.Deep.Fields
import Derived.ChangeSame
namespace Go.Proofs.YtjlhbfbdcfajfaaGreatDoor
open Go.RowKit Go.ChangeShapes Go.WideShapes Go.Deep
theorem tU {n:Nat}:∀(os:List Obj) (w:World),n≤w.heap.size→Below n w (os.foldl World.alloc w)
 | [],w,_=>Below.refl _ _
 | o::os,w,h=>((Below.refl _ _).alloc h _).trans (tU os (w.alloc o) (by simp;omega))
theorem xB:∀(os:List Obj) (w:World) (i:Nat) {t:TypeId} {cs:Array Value},os[i]?=some (.cells cs t)→aK (os.foldl World.alloc w) (w.heap.size+i) t cs
 | [],_,_,_,_,h=>by simp at h
 | o::os,w,0,t,cs,h=>by
  obtain rfl:o=.cells cs t:=by simpa using h
  exact(aK.new w t cs).keep (tU os _ (Nat.le_refl _))
 | o::os,w,i+1,t,cs,h=>by
  have:=xB os (w.alloc o) i (by simpa using h);have e:(w.alloc o).heap.size+i=w.heap.size+(i+1):=by simp;omega
  rwa [e] at this
def CG (g:Nat) (T0 T1 T2 T3 T4 T5 T6 T7 T8:TypeId):List Obj:=
 [.cells #[.string ⟨#[]⟩,.int .i64 2,.int .i64 20,.int .i64 50,.slice (some ⟨g+1,0,none⟩) 2 2,.slice (some ⟨g+3,0,none⟩) 1 1,.slice (some ⟨g+6,0,none⟩) 1 1,.int .i64 1,.int .i64 4,.bool false,.slice (some ⟨g+7,0,none⟩) 1 1,.slice (some ⟨g+8,0,none⟩) 1 1,.int .i64 2,.string ⟨#[]⟩] T0, .cells #[.string ⟨#[97]⟩,.string ⟨#[98]⟩] T1,.cells #[.string ⟨#[120]⟩,.string ⟨#[121]⟩,.string ⟨#[122]⟩] T2, .cells #[.string ⟨#[109]⟩,.slice (some ⟨g+2,0,none⟩) 3 3,.int .i64 1,.int .i64 1,.int .i64 3,.int .i64 0,.int .i64 3,.int .i64 1,.int .i64 1] T3, .cells #[.int .i64 0,.int .i64 1] T4,.cells #[.int .i64 0] T5,.cells #[.string ⟨#[115]⟩,.slice (some ⟨g+4,0,none⟩) 2 2,.slice (some ⟨g+5,0,none⟩) 1 1] T6,.cells #[.int .u32 1] T7,.cells #[.int .u32 20] T8]
theorem XN {w W:World} {T0 T1 T2 T3 T4 T5 T6 T7 T8:TypeId} (hW:(CG w.heap.size T0 T1 T2 T3 T4 T5 T6 T7 T8).foldl World.alloc w=W) : bG.rep W (bz w W) [.string ⟨#[]⟩,.int .i64 2,.int .i64 20,.int .i64 50,.slice (some ⟨w.heap.size+1,0,none⟩) 2 2,.slice (some ⟨w.heap.size+3,0,none⟩) 1 1,.slice (some ⟨w.heap.size+6,0,none⟩) 1 1,.int .i64 1,.int .i64 4,.bool false,.slice (some ⟨w.heap.size+7,0,none⟩) 1 1,.slice (some ⟨w.heap.size+8,0,none⟩) 1 1,.int .i64 2,.string ⟨#[]⟩] aG:=by
 have hb:∀(i:Nat) {t:TypeId} {cs:Array Value},(CG w.heap.size T0 T1 T2 T3 T4 T5 T6 T7 T8)[i]?=some (.cells cs t)→aK W (w.heap.size+i) t cs:=fun i t cs h=>hW▸xB _ w i h;have hf:∀{g:Nat} {t:TypeId} {cs:Array Value},w.heap.size≤g→aK W g t cs→bz w W g:=fun h hk=>⟨h,hk.lt⟩;have b1:=hb 1 rfl;have b2:=hb 2 rfl;have b3:=hb 3 rfl;have b4:=hb 4 rfl;have b5:=hb 5 rfl;have b6:=hb 6 rfl;have b7:=hb 7 rfl;have b8:=hb 8 rfl;have m:∀k:Nat,k≤3→k≤maxLen:=fun k h=>by unfold maxLen;omega
 have r1:RS W (bz w W) (some ⟨w.heap.size+1,0,none⟩) 2 2 [(⟨#[97]⟩:ByteArray),⟨#[98]⟩]:=RS.of_blk b1 (Flat.cons (ds:=[_]) rfl (Flat.cons (ds:=[_]) rfl Flat.nil)) rfl (Nat.le_refl _) (m 2 (by omega)) (hf (by omega) b1);have r2:RS W (bz w W) (some ⟨w.heap.size+2,0,none⟩) 3 3 [(⟨#[120]⟩:ByteArray),⟨#[121]⟩,⟨#[122]⟩]:=RS.of_blk b2 (Flat.cons (ds:=[_]) rfl (Flat.cons (ds:=[_]) rfl (Flat.cons (ds:=[_]) rfl Flat.nil))) rfl (Nat.le_refl _) (m 3 (by omega)) (hf (by omega) b2);have r4:RS W (bz w W) (some ⟨w.heap.size+4,0,none⟩) 2 2 [(0:Int),1]:=RS.of_blk b4 (Flat.cons (ds:=[_]) rfl (Flat.cons (ds:=[_]) rfl Flat.nil)) rfl (Nat.le_refl _) (m 2 (by omega)) (hf (by omega) b4);have r5:RS W (bz w W) (some ⟨w.heap.size+5,0,none⟩) 1 1 [(0:Int)]:=RS.of_blk b5 (Flat.cons (ds:=[_]) rfl Flat.nil) rfl (Nat.le_refl _) (m 1 (by omega)) (hf (by omega) b5);have r7:RS W (bz w W) (some ⟨w.heap.size+7,0,none⟩) 1 1 [1#32]:=RS.of_blk b7 (Flat.cons (ds:=[_]) rfl Flat.nil) rfl (Nat.le_refl _) (m 1 (by omega)) (hf (by omega) b7);have r8:RS W (bz w W) (some ⟨w.heap.size+8,0,none⟩) 1 1 [20#32]:=RS.of_blk b8 (Flat.cons (ds:=[_]) rfl Flat.nil) rfl (Nat.le_refl _) (m 1 (by omega)) (hf (by omega) b8);have r3:RS W (bz w W) (some ⟨w.heap.size+3,0,none⟩) 1 1 aG.cont:=RS.of_blk b3 (Flat.cons (ds:=[_,_,_,_,_,_,_,_,_]) ⟨_,_,_,rfl,r2⟩ Flat.nil) rfl (Nat.le_refl _) (m 1 (by omega)) (hf (by omega) b3);have r6:RS W (bz w W) (some ⟨w.heap.size+6,0,none⟩) 1 1 aG.styl:=RS.of_blk b6 (Flat.cons (ds:=[_,_,_]) ⟨_,_,_,_,_,_,rfl,r4,r5⟩ Flat.nil) rfl (Nat.le_refl _) (m 1 (by omega)) (hf (by omega) b6);exact⟨_,_,_,_,_,_,_,_,_,_,_,_,_,_,_,rfl,r1,r3,r6,r7,r8⟩
set_option maxRecDepth 20000 in
set_option maxHeartbeats 8000000 in
theorem P1 {w:World}:Calls Tryz.prog 27 #[] w (gh w aG):=by
 go_enter Tryz.func27,Tryz.ntmps27;go_wp2_with fail;refine bodyPost_ret (results_cell_row rfl _ _ w.heap.size _ _ (0,0) _ rfl (xB (CG w.heap.size _ _ _ _ _ _ _ _ _) w 0 rfl) Tryz.underlying30 rfl (by kernel_rfl)) rfl ?_;exact⟨_,rfl,⟨_,rfl,XN rfl⟩,tU (CG w.heap.size _ _ _ _ _ _ _ _ _) w (Nat.le_refl _)⟩
def Ta:List aY:=[⟨0,10,1,8⟩,⟨1,0,0,0⟩]
def OV:lU:=⟨0,.slice none 0 0,false⟩
def Gr:List kA:=[⟨0,8,7,1,0,true⟩,⟨1,0,0,0,0,false⟩]
theorem MD:pz aG Ta (List.replicate 7 OV)=(Gr,0):=by kernel_rfl
theorem ME:xa Gr=1:=by kernel_rfl
theorem FE:og aG where
 dots:=⟨by decide,by decide⟩
 blank:=⟨by decide,by decide⟩
 marked:=⟨by decide,by decide⟩
 scan:=⟨by decide,by decide⟩
 batch:=⟨by decide,by decide⟩
 cell:=⟨by decide,by decide⟩
 conts:=by intro x hx;obtain rfl:=List.mem_singleton.1 hx;unfold Fc Mq;simp
 styls:=by intro x hx;obtain rfl:=List.mem_singleton.1 hx;simp
 lc:=by simp[aG]
 ls:=by simp[aG]
 lp:=by simp[aG]
 short:=by simp[aG,Raw.short]
theorem Ke:kB aG where
 title:=cO (by simp[aG,ByteArray.size])
 seed:=cO (by simp[aG,ByteArray.size])
 prec:=by intro s hs;simp only[aG,List.mem_cons,List.not_mem_nil,or_false] at hs;rcases hs with rfl|rfl<;>exact cO (by simp[ByteArray.size])
 cont:=by
  intro x hx;obtain rfl:=List.mem_singleton.1 hx;refine⟨cO (by simp[ByteArray.size]),fun s hs=>?_⟩;simp only[List.mem_cons,List.not_mem_nil,or_false] at hs;rcases hs with rfl|rfl|rfl<;>exact cO (by simp[ByteArray.size])
 styl:=by intro x hx;obtain rfl:=List.mem_singleton.1 hx;exact cO (by simp[ByteArray.size])
 len:=by simp[aG]
theorem Tryz.recInfo:∃i,Tryz.prog.info? 42=some i∧i.zero=some (.agg #[.int .i64 0,.slice none 0 0,.bool false])∧i.size=3∧i.bytes=40:=info_parts (by kernel_rfl)
theorem apF {w:World} {base:Nat} {v:Value} (h:w.ownsRow base 42 3 v 7 (madeCells (Value.agg #[.int .i64 0,.slice none 0 0,.bool false]).cells (7*3)).toList):Own w aA base 42 v (List.replicate 7 OV):=by
 have e:(madeCells (Value.agg #[.int .i64 0,.slice none 0 0,.bool false]).cells (7*3)).toList=[.int .i64 0,.slice none 0 0,.bool false,.int .i64 0,.slice none 0 0,.bool false,.int .i64 0,.slice none 0 0,.bool false,.int .i64 0,.slice none 0 0,.bool false,.int .i64 0,.slice none 0 0,.bool false,.int .i64 0,.slice none 0 0,.bool false,.int .i64 0,.slice none 0 0,.bool false]:=by kernel_rfl
 rw[e] at h;have r:∀{ds:List Value} {xs:List lU},Flat w aA ds xs→Flat w aA ([.int .i64 0,.slice none 0 0,.bool false]++ds) (OV::xs):=fun h=>Flat.cons ⟨none,0,0,rfl,rfl⟩ h;exact⟨_,h,r (r (r (r (r (r (r .nil)))))),fun b hb=>hb.elim⟩
def uu (W:World) (k:Nat) (x:List kA×Int) (v:Value) (col:Nat→Nat) (w:World):Prop:=∃A n c,v=.tuple #[.slice A n c,.int .i64 x.2]∧RS w (RD W k col w) A n c x.1
theorem uu.mono {W w1 w2:World} {k:Nat} {c1 c2:Nat→Nat} {v:Value} {x:List kA×Int} (h:uu W k x v c1 w1) (hb:Below w1.heap.size w1 w2) (hc:∀b,b<w1.heap.size→c2 b=c1 b):uu W k x v c2 w2:=by
 obtain⟨A,n,c,e,h⟩:=h;exact⟨A,n,c,e,h.keep (RD.mono hb.size hc) ((aD.of_below hb).sub fun b hb=>hb.2.1)⟩
theorem uu.of_ret {W w w':World} {k i:Nat} {col:Nat→Nat} {x:List kA×Int} {e:Ending} (h:Ja w x e w') (hW:W.heap.size≤w.heap.size) (hi:i≠k):∃v,e=.returned v∧Below w.heap.size w w'∧uu W k x v (tJ col w i) w':=by
 obtain⟨A,n,c,rfl,hs,hb⟩:=h;exact⟨_,rfl,hb,A,n,c,rfl,hs.sub fun b hb=>⟨Nat.le_trans hW hb.1,hb.2,by rw[nW hb.1];exact hi⟩⟩
set_option maxRecDepth 20000 in
set_option maxHeartbeats 8000000 in
theorem qF {B:Nat} {w:World} (htab:EL B w) (hB:B≤w.heap.size):Calls Tryz.prog 10 #[] w (gy w (.bool true)):=by
 obtain⟨i0,QQ,G1,JI,U5⟩:=Tryz.recInfo;have ZN:=zH QQ;have ZM:=zH G1;have ZL:=zH JI;have PK:=zH U5;have tW:=zH htab;have Mr:=zH hB;clear QQ G1 JI U5 htab hB;go_enter Tryz.func10,Tryz.ntmps10;go_upto_region 1 with(fail);go_wp2_with fail;refine P1.mono ?_;rintro en w1 ⟨v,rfl,⟨cs,rfl,AP,fe,fO,AC,gA,gH,AS,gz,gF,AN,gi,gm,AD,gj,gp,rfl,uS,xQ,xP,xm,xn⟩,hb⟩;have JL:∀b,bz w w1 b→b<w1.heap.size:=fun b h=>h.2;have bd:Below w1.heap.size w1 (w1.alloc (.cells #[.string aG.title,.int .i64 aG.dots,.int .i64 aG.blank,.int .i64 aG.marked,.slice AP fe fO,.slice AC gA gH,.slice AS gz gF,.int .i64 aG.scan,.int .i64 aG.batch,.bool aG.risk.neg,.slice AN gi gm,.slice AD gj gp,.int .i64 aG.cell,.string aG.seed] 30)):=(Below.refl _ _).alloc (Nat.le_refl _) _;have dy:aK (w1.alloc (.cells #[.string aG.title,.int .i64 aG.dots,.int .i64 aG.blank,.int .i64 aG.marked,.slice AP fe fO,.slice AC gA gH,.slice AS gz gF,.int .i64 aG.scan,.int .i64 aG.batch,.bool aG.risk.neg,.slice AN gi gm,.slice AD gj gp,.int .i64 aG.cell,.string aG.seed] 30)) w1.heap.size 30 #[.string aG.title,.int .i64 aG.dots,.int .i64 aG.blank,.int .i64 aG.marked,.slice AP fe fO,.slice AC gA gH,.slice AS gz gF,.int .i64 aG.scan,.int .i64 aG.batch,.bool aG.risk.neg,.slice AN gi gm,.slice AD gj gp,.int .i64 aG.cell,.string aG.seed]:=aK.new _ _ _;obtain⟨W0,hW0⟩:∃q,w1.alloc (.cells #[.string aG.title,.int .i64 aG.dots,.int .i64 aG.blank,.int .i64 aG.marked,.slice AP fe fO,.slice AC gA gH,.slice AS gz gF,.int .i64 aG.scan,.int .i64 aG.batch,.bool aG.risk.neg,.slice AN gi gm,.slice AD gj gp,.int .i64 aG.cell,.string aG.seed] 30)=q:=⟨_,rfl⟩;rw[hW0] at bd dy;have bS:=zH (hb.trans (bd.mono hb.size));have HRP:=zH (uS.below bd JL);have Bb:=zH (xQ.below bd JL);have H8:=zH (xP.below bd JL);have HRN:=zH (xm.below bd JL);have RG:=zH (xn.below bd JL);have dO:=zH hW0;have If:Hid (∀b,bz w w1 b→b<W0.heap.size):=zH fun b h=>Nat.lt_of_lt_of_le h.2 bd.size;obtain⟨gE,hgE⟩:∃q,w1.heap.size=q:=⟨_,rfl⟩;rw[hgE] at dy;have sa:=zH dy;have HGE:=zH hgE;clear bd dy uS xQ xP xm xn JL hb hgE hW0;unfold iw;go_upto_region 2 with(fail);rw[dO.out,HGE.out];refine cf 10 0 (fun i=>match i with
  | 0=>ΦV (.agg #[.string aG.title,.int .i64 aG.dots,.int .i64 aG.blank,.int .i64 aG.marked,.slice AP fe fO,.slice AC gA gH,.slice AS gz gF,.int .i64 aG.scan,.int .i64 aG.batch,.bool aG.risk.neg,.slice AN gi gm,.slice AD gj gp,.int .i64 aG.cell,.string aG.seed])
  | 1=>ΦV (.agg #[.int .i64 0,.int .i64 10,.int .i64 1,.int .i64 8])
  | 2=>ΦV (.agg #[.int .i64 1,.int .i64 0,.int .i64 0,.int .i64 0])
  | 3=>@ΦL aY _ W0 99 (Ta)
  | 4=>@ΦL lU _ W0 99 (List.replicate 7 OV)
  | 5=>uu W0 99 (Gr,0)
  | 6=>uu W0 99 (Gr,0)
  | 7=>ΦL W0 99 Gr
  | 8=>ΦV (.int .i64 0)
  | 9=>ΦL W0 99 Gr
  | _=>fun _ _ _=>False) (by kernel_rfl) (by kernel_rfl) (by kernel_rfl) (by kernel_rfl) ?_ ?_ ?_
 ·intro i v c1 w1 c2 w2 h hb hc
  match i with
  | 0=>exact h
  | 1=>exact h
  | 2=>exact h
  | 3=>exact ΦL.mono h hb hc
  | 4=>exact ΦL.mono h hb hc
  | 5=>exact uu.mono h hb hc
  | 6=>exact uu.mono h hb hc
  | 7=>exact ΦL.mono h hb hc
  | 8=>exact h
  | 9=>exact ΦL.mono h hb hc
  | _+10=>exact h
 ·intro Q0 i hi a1 col wc aW aH eN ac;have ga:=aH.size
  match i,hi with
  | 0,_=>
   have e1:a1.tmps[1]?=some (.pointer (some ⟨gE,0,none⟩)):=(aW.2 1 (by kernel_rfl)).trans rfl;clear ac;have lj:wc.cell? ⟨gE,0,none⟩=some (.string aG.title):=(sa.out.keep aH).cell 0;have ld1:wc.cell? ⟨gE,1,none⟩=some (.int .i64 aG.dots):=(sa.out.keep aH).cell 1;have ld2:wc.cell? ⟨gE,2,none⟩=some (.int .i64 aG.blank):=(sa.out.keep aH).cell 2;have ld3:wc.cell? ⟨gE,3,none⟩=some (.int .i64 aG.marked):=(sa.out.keep aH).cell 3;have ld4:wc.cell? ⟨gE,4,none⟩=some (.slice AP fe fO):=(sa.out.keep aH).cell 4;have ld5:wc.cell? ⟨gE,5,none⟩=some (.slice AC gA gH):=(sa.out.keep aH).cell 5;have ld6:wc.cell? ⟨gE,6,none⟩=some (.slice AS gz gF):=(sa.out.keep aH).cell 6;have ld7:wc.cell? ⟨gE,7,none⟩=some (.int .i64 aG.scan):=(sa.out.keep aH).cell 7;have ld8:wc.cell? ⟨gE,8,none⟩=some (.int .i64 aG.batch):=(sa.out.keep aH).cell 8;have ld9:wc.cell? ⟨gE,9,none⟩=some (.bool aG.risk.neg):=(sa.out.keep aH).cell 9;have aA9:wc.cell? ⟨gE,10,none⟩=some (.slice AN gi gm):=(sa.out.keep aH).cell 10;have aA8:wc.cell? ⟨gE,11,none⟩=some (.slice AD gj gp):=(sa.out.keep aH).cell 11;have aA7:wc.cell? ⟨gE,12,none⟩=some (.int .i64 aG.cell):=(sa.out.keep aH).cell 12;have aA6:wc.cell? ⟨gE,13,none⟩=some (.string aG.seed):=(sa.out.keep aH).cell 13;refine aa rfl rfl (.agg #[.string aG.title,.int .i64 aG.dots,.int .i64 aG.blank,.int .i64 aG.marked,.slice AP fe fO,.slice AC gA gH,.slice AS gz gF,.int .i64 aG.scan,.int .i64 aG.batch,.bool aG.risk.neg,.slice AN gi gm,.slice AD gj gp,.int .i64 aG.cell,.string aG.seed]) ?_ (Below.refl _ _) rfl;go_simp
  | 1,_=>
   clear ac;refine aa rfl rfl (.agg #[.int .i64 0,.int .i64 10,.int .i64 1,.int .i64 8]) ?_ (Below.refl _ _) rfl;go_simp
  | 2,_=>
   clear ac;refine aa rfl rfl (.agg #[.int .i64 1,.int .i64 0,.int .i64 0,.int .i64 0]) ?_ (Below.refl _ _) rfl;go_simp
  | 3,_=>
   obtain⟨v7,ev,XW⟩:=ac 1 (by kernel_rfl);have e7:=ev 7 rfl;clear ev;obtain rfl:v7=_:=XW;obtain⟨v8,ev,XU⟩:=ac 2 (by kernel_rfl);have e8:=ev 8 rfl;clear ev;obtain rfl:v8=_:=XU;clear ac;have hf:Flat wc (RD W0 99 col wc) [.int .i64 0,.int .i64 10,.int .i64 1,.int .i64 8,.int .i64 1,.int .i64 0,.int .i64 0,.int .i64 0] (Ta):=Flat.cons (ds:=[_,_,_,_]) rfl (Flat.cons (ds:=[_,_,_,_]) rfl Flat.nil);refine aa rfl rfl (.slice (some ⟨wc.heap.size,0,none⟩) 2 2) (w':=wc.alloc (.cells #[.int .i64 0,.int .i64 10,.int .i64 1,.int .i64 8,.int .i64 1,.int .i64 0,.int .i64 0,.int .i64 0] 73)) ?_ (aT _ _) (ΦL.built (cs:=[.int .i64 0,.int .i64 10,.int .i64 1,.int .i64 8,.int .i64 1,.int .i64 0,.int .i64 0,.int .i64 0]) (t:=73) hf rfl (by decide) ga (by decide));go_simp;try rfl
  | 4,_=>
   clear ac;obtain⟨w2,rN,r1,r2⟩:=run_make_full (P:=Tryz.prog) wc wc.heap.size 35 42 i0 (.agg #[.int .i64 0,.slice none 0 0,.bool false]) 3 Tryz.underlying35 ZN.out ZM.out ZL.out .i64 .i64 7 (by rw[PK.out];omega) (by unfold maxLen;omega) (Nat.le_refl _);have bY:=(Below.refl wc.heap.size wc).grown r2 (Nat.le_refl _) (fun k hk=>by cases hk);refine aa rfl rfl _ (by have h7:a1.eval (.const (.int .i64 7))=.int .i64 7:=rfl;have hr:=rN;simp at hr;simp[execOp,h7,hr,Result.andThen]) bY ⟨_,_,_,rfl,(apF r1).rs (fun _ h=>h.elim) fun g h1 h2=>⟨Nat.le_trans ga h1,h2,by rw[nW h1];decide⟩⟩
  | 5,_=>
   obtain⟨v6,ev,XX⟩:=ac 0 (by kernel_rfl);have e6:=ev 6 rfl;clear ev;obtain rfl:v6=_:=XX;obtain⟨v9,ev,TG⟩:=ac 3 (by kernel_rfl);have e9:=ev 9 rfl;clear ev;obtain⟨A9,n9,c9,rfl,h9⟩:=TG;obtain⟨Bg,ev,Dt⟩:=ac 4 (by kernel_rfl);have tG:=ev 10 rfl;clear ev;obtain⟨A10,n10,VZ,rfl,h10⟩:=Dt;clear ac;refine aM rfl rfl 14 #[.agg #[.string aG.title,.int .i64 aG.dots,.int .i64 aG.blank,.int .i64 aG.marked,.slice AP fe fO,.slice AC gA gH,.slice AS gz gF,.int .i64 aG.scan,.int .i64 aG.batch,.bool aG.risk.neg,.slice AN gi gm,.slice AD gj gp,.int .i64 aG.cell,.string aG.seed],.slice A9 n9 c9,.slice A10 n10 VZ] ?_ (Dn (S:=bz w w1) (tW.out.up Mr.out (bS.out.trans (aH.mono bS.out.size))) (Nat.le_trans Mr.out (Nat.le_trans bS.out.size ga)) (e:=aG) ⟨_,rfl,AP,fe,fO,AC,gA,gH,AS,gz,gF,AN,gi,gm,AD,gj,gp,rfl,HRP.out.below aH If.out,Bb.out.below aH If.out,H8.out.below aH If.out,HRN.out.below aH If.out,RG.out.below aH If.out⟩ (fun b hb=>Nat.lt_of_lt_of_le (If.out b hb) ga) FE Ke h9 (fun b hb=>hb.2.1) h10 (fun b hb=>hb.2.1)) (fun e w2 hr=>uu.of_ret (by rw[MD] at hr;exact hr) ga (by decide));go_simp;try rfl
  | 6,_=>
   obtain⟨zQ,ev,Ds⟩:=ac 5 (by kernel_rfl);have rZ:=ev 11 rfl;clear ev;obtain⟨A11,n11,c11,rfl,h11⟩:=Ds;clear ac;refine aa rfl rfl (.tuple #[.slice A11 n11 c11,.int .i64 0]) ?_ (Below.refl _ _) (uu.mono (c1:=col) (w1:=wc) ⟨_,_,_,rfl,h11⟩ (Below.refl _ _) fun b hb=>fE hb);go_simp
  | 7,_=>
   obtain⟨v5,ev,TH⟩:=ac 6 (by kernel_rfl);have e5:=ev 5 rfl;clear ev;obtain⟨A5,n5,c5,rfl,h5⟩:=TH;clear ac;refine aa rfl rfl (.slice A5 n5 c5) ?_ (Below.refl _ _) (ΦL.mono (c1:=col) (w1:=wc) ⟨_,_,_,rfl,h5⟩ (Below.refl _ _) fun b hb=>fE hb);go_simp
  | 8,_=>
   obtain⟨v5,ev,TH⟩:=ac 6 (by kernel_rfl);have e5:=ev 5 rfl;clear ev;obtain⟨A5,n5,c5,rfl,h5⟩:=TH;clear ac;refine aa rfl rfl (.int .i64 0) ?_ (Below.refl _ _) rfl;go_simp
  | 9,_=>
   obtain⟨zO,ev,Dr⟩:=ac 7 (by kernel_rfl);have vL:=ev 12 rfl;clear ev;obtain⟨Z2,n12,SI,rfl,h12⟩:=Dr;clear ac;refine aa rfl rfl (.slice Z2 n12 SI) ?_ (Below.refl _ _) (ΦL.mono (c1:=col) (w1:=wc) ⟨_,_,_,rfl,h12⟩ (Below.refl _ _) fun b hb=>fE hb);go_simp
 intro Jz col wc hl0 aH hΦ;obtain⟨v0,J4,rfl,hl1⟩:=aj hl0;clear hl0;obtain⟨v1,JY,rfl,hl2⟩:=aj hl1;clear hl1;obtain⟨v2,L2,rfl,hl3⟩:=aj hl2;clear hl2;obtain⟨v3,L1,rfl,hl4⟩:=aj hl3;clear hl3;obtain⟨v4,OX,rfl,hl5⟩:=aj hl4;clear hl4;obtain⟨v5,PS,rfl,hl6⟩:=aj hl5;clear hl5;obtain⟨v6,Td,rfl,hl7⟩:=aj hl6;clear hl6;obtain⟨v7,Tc,rfl,hl8⟩:=aj hl7;clear hl7;obtain⟨v8,Tb,rfl,hl9⟩:=aj hl8;clear hl8;obtain⟨v9,Ij,rfl,hl10⟩:=aj hl9;clear hl9;obtain rfl:=List.length_eq_zero_iff.1 hl10;clear hl10;have p0:=hΦ 0 _ rfl;obtain rfl:v0=_:=p0;have p1:=hΦ 1 _ rfl;obtain rfl:v1=_:=p1;have p2:=hΦ 2 _ rfl;obtain rfl:v2=_:=p2;have p3:=hΦ 3 _ rfl;obtain⟨A3,n3,c3,rfl,h3⟩:=p3;have p4:=hΦ 4 _ rfl;obtain⟨A4,n4,c4,rfl,h4⟩:=p4;have p5:=hΦ 5 _ rfl;obtain⟨A5,n5,c5,rfl,h5⟩:=p5;have p6:=hΦ 6 _ rfl;obtain⟨A6,n6,c6,rfl,h6⟩:=p6;have p7:=hΦ 7 _ rfl;obtain⟨A7,n7,c7,rfl,h7⟩:=p7;have p8:=hΦ 8 _ rfl;obtain rfl:v8=_:=p8;have p9:=hΦ 9 _ rfl;obtain⟨A9,n9,c9,rfl,h9⟩:=p9;clear hΦ;simp only[List.take_succ_cons,List.take_zero,iD,gd,Act.put,List.setIfInBounds_toArray,List.set_cons_zero,List.set_cons_succ];have HG:=zH h9;have oz:=zH aH;have hl2:n9=2:=h9.len.symm;subst hl2;obtain⟨b,o,x,cs,rfl,yR,hx,nQ,jG⟩:=h9.load_at (fun b h=>h.2.1) (k:=0) (by omega);have dT:=jG wc (Below.refl _ _);have rh:(⟨0,8,7,1,0,true⟩:kA)=x:=by injection hx
 subst rh;obtain rfl:cs=[.int .i64 0,.int .i64 8,.int .i64 7,.int .i64 1,.int .i64 0,.bool true]:=nQ;have r0:wc.cell? ⟨b,o,none⟩=some (.int .i64 0):=by have:=dT.1 _ rfl;simpa using this
 have r1:wc.cell? ⟨b,o+1,none⟩=some (.int .i64 8):=by have:=dT.2 1 _ rfl;simpa using this
 have r2:wc.cell? ⟨b,o+2,none⟩=some (.int .i64 7):=by have:=dT.2 2 _ rfl;simpa using this
 have r3:wc.cell? ⟨b,o+3,none⟩=some (.int .i64 1):=by have:=dT.2 3 _ rfl;simpa using this
 have r4:wc.cell? ⟨b,o+4,none⟩=some (.int .i64 0):=by have:=dT.2 4 _ rfl;simpa using this
 have r5:wc.cell? ⟨b,o+5,none⟩=some (.bool true):=by have:=dT.2 5 _ rfl;simpa using this
 have sC:2≤c9:=h9.cap.1;clear dT jG hx yR h3 h4 h5 h6 h7 h9 aH;refine eH (w':=wc) rfl rfl (.int .i64 0) ?_ ?_
 ·go_simp
 simp only[Act.put,List.getElem_toArray,List.getElem_cons_zero,List.getElem_cons_succ,List.setIfInBounds_toArray,List.set_cons_zero,List.set_cons_succ];go_wp2_with fail;refine(Dz HG.out (fun b h=>h.2.1)).mono ?_;rintro en w3 ⟨rfl,ey⟩;have iT:=zH ey;clear ey;rw[ME];go_wp2_with fail;go_ret
 exact⟨rfl,ae bS.out (ae oz.out iT.out)⟩
set_option maxRecDepth 20000 in
set_option maxHeartbeats 8000000 in
theorem lawAccountMany_any {B:Nat} {w:World} (htab:EL B w) (hB:B≤w.heap.size) {S:Nat→Prop} {A:Option Addr} {n c:Nat} {xs:List kA} (h:RS w S A n c xs) (hS:∀b,S b→b<w.heap.size):Calls Tryz.prog 6 #[.slice A n c] w (gy w (.bool true)):=by
 have Cn:=h.max;obtain⟨m,hm,AH⟩:∃m:Nat,min (n:Int) 20=(m:Int)∧m=min n 20:=⟨min n 20,by omega,rfl⟩;have hc:=h.cap;have Xg:m≤n:=by omega
 have hmc:m≤c:=by omega
 have HT:=zH (h.take Xg);have tW:=zH htab;have Mr:=zH hB;obtain⟨z,hz⟩:∃z,xa (xs.take m)=z:=⟨_,rfl⟩;have eh:=hz.symm;have HZ:=zH eh;have vw:=zH (h.take Xg).len;clear h htab hB AH;go_enter Tryz.func6,Tryz.ntmps6;go_wp2_with fail;refine(Dz HT.out hS).mono ?_;rintro en w2 ⟨rfl,bY⟩;rw[hz];have bX:=zH bY;clear bY hz eh;go_wp2_with fail;go_loopw [4,16] (fun nv iv wr=>∃(k:Nat) (q:Int),iv=.int .i64 k∧k≤m∧nv=.int .i64 q∧0≤q∧q≤400∧z=((xs.take m).drop k).foldl lO q∧Below w.heap.size w wr) (fun _ iv _=>m-(intOf iv).toNat)
 case atStart=>exact⟨0,0,rfl,Nat.zero_le _,rfl,by omega,by omega,HZ.out,bX.out⟩
 case round=>
  clear HZ bX;obtain⟨k,q,rfl,hk,rfl,AH,NK,pF,hb⟩:=hrel;have ql:=zH pF;have HB:=zH hb;have HR:=zH (HT.out.below hb hS);clear pF hb;by_cases bn:k<m
  ·have dK:(k:Int)<(m:Int):=by omega
   obtain⟨b,o,x,cs,rfl,yR,hx,hr,jG⟩:=HR.out.load_at (fun b h=>Nat.lt_of_lt_of_le (hS b h) HB.out.size) bn;have gO:(k:Int)≤(c:Int):=by have:=HR.out.cap;omega
   have eQ:z=((xs.take m).drop (k+1)).foldl lO (lO q x):=by rw[ql.out,bR hx];rfl
   have hrg:=yq x ⟨AH,NK⟩;have rY:cs=[.int .i64 x.prec,.int .i64 x.papers,.int .i64 x.recs,.int .i64 x.missing,.int .i64 x.extra,.bool x.unbal]:=hr;subst rY;have dT:=jG wr (Below.refl _ _);have r0:wr.cell? ⟨b,o+k*6,none⟩=some (.int .i64 x.prec):=dT.1 _ rfl;have r1:wr.cell? ⟨b,o+k*6+1,none⟩=some (.int .i64 x.papers):=dT.2 1 _ rfl;have r2:wr.cell? ⟨b,o+k*6+2,none⟩=some (.int .i64 x.recs):=dT.2 2 _ rfl;have r3:wr.cell? ⟨b,o+k*6+3,none⟩=some (.int .i64 x.missing):=dT.2 3 _ rfl;have r4:wr.cell? ⟨b,o+k*6+4,none⟩=some (.int .i64 x.extra):=dT.2 4 _ rfl;have r5:wr.cell? ⟨b,o+k*6+5,none⟩=some (.bool x.unbal):=dT.2 5 _ rfl;have bd:Below wr.heap.size wr (wr.alloc (.cells #[.int .i64 x.prec,.int .i64 x.papers,.int .i64 x.recs,.int .i64 x.missing,.int .i64 x.extra,.bool x.unbal] 45)):=(Below.refl _ _).alloc (Nat.le_refl _) _;have dy:aK (wr.alloc (.cells #[.int .i64 x.prec,.int .i64 x.papers,.int .i64 x.recs,.int .i64 x.missing,.int .i64 x.extra,.bool x.unbal] 45)) wr.heap.size 45 #[.int .i64 x.prec,.int .i64 x.papers,.int .i64 x.recs,.int .i64 x.missing,.int .i64 x.extra,.bool x.unbal]:=aK.new _ _ _;obtain⟨w1,bj⟩:∃q,wr.alloc (.cells #[.int .i64 x.prec,.int .i64 x.papers,.int .i64 x.recs,.int .i64 x.missing,.int .i64 x.extra,.bool x.unbal] 45)=q:=⟨_,rfl⟩;rw[bj] at bd dy;have p3:w1.cell? ⟨wr.heap.size,3,none⟩=some (.int .i64 x.missing):=dy.cell 3;obtain⟨y,hy⟩:∃y,min x.missing 400=y:=⟨_,rfl⟩;obtain⟨u,hu⟩:∃u,max 0 y=u:=⟨_,rfl⟩;obtain⟨s,hs⟩:∃s,lO q x=s:=⟨_,rfl⟩;have xO:min 400 (q+u)=s:=by rw[←hs,←hu,←hy];unfold lO;omega
   have hwr:IntKind.i64.wrap (q+u)=q+u:=by rw[IntKind.wrap_i64]<;>omega
   rw[hs] at eQ hrg;have fy:=zH eQ;have bS:=zH (ae HB.out bd);have dO:=zH bj;obtain⟨hs0,hs4⟩:=hrg;clear dT jG hx hr eQ bd dy bj hs;go_upto_region 7 with(fail);rw[dO.out];clear r0 r1 r2 r3 r4 r5;go_wp2_with fail;refine⟨⟨k+1,s,by go_num,by omega,by first|rfl|rw[xO],hs0,hs4,fy.out,bS.out⟩,?_⟩;simp[intOf];omega
  ·have fI:k=m:=by omega
   have av:z=q:=by
    rw[ql.out,List.drop_eq_nil_of_le (by rw[vw.out];omega)];rfl
   subst av;clear fI;go_wp2_with fail;refine(qF (tW.out.up Mr.out HB.out) (Nat.le_trans Mr.out HB.out.size)).mono ?_;rintro en w3 ⟨rfl,ey⟩;have iT:=zH (ae HB.out ey);clear ey;go_wp2_with fail;go_ret
   exact⟨rfl,iT.out⟩
class Fits (α:Type) where
 fits:α→Prop
instance:Fits Int:=⟨fun x=>-9223372036854775808≤x∧x≤9223372036854775807⟩
instance:Fits Bool:=⟨fun _=>True⟩
instance:Fits UInt8:=⟨fun _=>True⟩
instance:Fits ByteArray:=⟨fun s=>s.size≤9223372036854775807⟩
instance {α:Type} [Fits α]:Fits (List α):=⟨fun l=>l.length≤9223372036854775807∧∀x∈l,Fits.fits x⟩
def wQ (P:Program) (t:TypeId) (α:Type) [bG α] [Fits α]:Prop:=
 ∀(H:Type) (enc:TypeId×Value→H) (w:World) (base:Nat) (spare:Nat→Bool) (held:Bool) (fuel:Nat) (cs:List Value) (x:DataW H×List MemPlace),
  DataW.trod enc P w base spare held fuel t cs=some x→∃a:α,bG.rep w (fun b=>b<w.heap.size) cs a∧Fits.fits a
theorem Qe {P:Program} {t:TypeId} (ht:P.underlying t=some (.int .i64)):wQ P t Int:=by
 intro H enc w base spare held fuel cs x h;obtain⟨n,rfl,_,hw⟩:=DataW.trod_int ht h;have Ux:-9223372036854775808≤n∧n≤9223372036854775807:=by simpa[Lit.wf,IntKind.min,IntKind.max,IntKind.signed,IntKind.bits] using hw
 exact⟨n,rfl,Ux⟩
theorem Nh {P:Program} {t:TypeId} (ht:P.underlying t=some .bool):wQ P t Bool:=by
 intro H enc w base spare held fuel cs x h;obtain⟨n,rfl,_⟩:=DataW.trod_bool ht h;exact⟨n,rfl,trivial⟩
theorem X3 {P:Program} {t:TypeId} (ht:P.underlying t=some .string):wQ P t ByteArray:=by
 intro H enc w base spare held fuel cs x h;obtain⟨s,rfl,_,hs⟩:=DataW.trod_string ht h;exact⟨s,rfl,by unfold maxLen at hs;exact hs⟩
theorem acq {P:Program} {t:TypeId} (ht:P.underlying t=some (.int .u8)):wQ P t UInt8:=by
 intro H enc w base spare held fuel cs x h;obtain⟨n,rfl,_,hw⟩:=DataW.trod_int ht h;have hb:0≤n∧n≤255:=by simpa[Lit.wf,IntKind.min,IntKind.max,IntKind.signed,IntKind.bits] using hw
 refine⟨UInt8.ofNat n.toNat,?_,trivial⟩;show[Value.int .u8 n]=[Value.int .u8 ((UInt8.ofNat n.toNat).toNat:Int)];rw[UInt8.toNat_ofNat'];congr 2
 omega
theorem BG {α:Type} (n:Nat) (p:Nat→α→Prop) (h:∀i,i<n→∃a,p i a):∃l:List α,l.length=n∧∀i a,l[i]?=some a→p i a:=by
 induction n with
 | zero=>exact⟨[],rfl,fun i a hi=>by simp at hi⟩
 | succ n ih=>
  obtain⟨l,hl,hp⟩:=ih (fun i hi=>h i (by omega));obtain⟨a,ha⟩:=h n (by omega);refine⟨l++[a],by simp[hl],fun i b hi=>?_⟩;rw[List.getElem?_append] at hi;split at hi
  ·exact hp i b hi
  ·have:i=n:=by
    rcases Nat.lt_or_ge (i-l.length) 1 with h|h
    ·omega
    ·rw[List.getElem?_eq_none (by simpa using h)] at hi;cases hi
   subst this;rw[hl,Nat.sub_self] at hi;simp at hi;subst hi;exact ha
theorem Ks {P:Program} {t e:TypeId} {α:Type} [bG α] [Fits α] (ht:P.underlying t=some (.slice e)) (lk:P.cellsOf e=bG.sz α) (hp:0<bG.sz α) (he:wQ P e α):wQ P t (List α):=by
 intro H enc w base spare held fuel cs x h;rcases open_slice ht h with⟨rfl,_⟩|⟨a,len,cap,m,n,D,Pl,rfl,_,hl,hm,Xh,_,hi⟩
 ·exact⟨[],⟨none,0,0,rfl,RS.nil _ _⟩,Nat.zero_le _,fun x hx=>by simp at hx⟩
 ·have hlm:len≤m:=by rw[Xh];split<;>omega
  obtain⟨l,fL,hl2⟩:=BG (α:=α) len (fun i x=>∃cs,bG.rep w (fun b=>b<w.heap.size) cs x∧eT w (a.add (i*bG.sz α)) cs∧Fits.fits x) (fun i YE=>by
   obtain⟨cs',hc,ht'⟩:=hi i (by omega);obtain⟨x,hx,hf⟩:=he H enc w base spare held n cs' _ ht';rw[lk] at hc;obtain⟨_,yQ,kD⟩:=World.cells?_some hc;refine⟨x,cs',hx,fun j u hj=>?_,hf⟩;have NS:j<bG.sz α:=by
    have:=eP hj;omega
   rw[kD j NS];exact hj)
  refine⟨l,⟨some a,len,cap,rfl,fL.symm,hl,hm,fun hn=>?_⟩,by unfold maxLen at hm;omega,fun x hx=>?_⟩
  ·obtain⟨x0,lJ⟩:∃x0,l[0]?=some x0:=⟨l[0]'(by omega),List.getElem?_eq_getElem (by omega)⟩;obtain⟨Hn,D9,Ld,_⟩:=hl2 0 x0 lJ;have ai3:=bG.len D9;obtain⟨u,hu⟩:∃u,Hn[0]?=some u:=⟨Hn[0]'(by omega),List.getElem?_eq_getElem (by omega)⟩;have ef:=Ld 0 u hu;have uY:w.cell? a=some u:=by simpa[Addr.add] using ef
   have hs:=Gw uY;have hb:=World.block_lt_of_cell? w _ uY;obtain⟨b,o,s⟩:=a;simp at hs;subst hs;exact⟨b,o,rfl,hb,fun i x hx=>by obtain⟨cs,h1,h2,_⟩:=hl2 i x hx;exact⟨cs,h1,h2⟩⟩
  ·obtain⟨i,YE,rfl⟩:=List.getElem_of_mem hx;obtain⟨cs,_,_,hf⟩:=hl2 i _ (List.getElem?_eq_getElem YE);exact hf
theorem J6 {P:Program} {t:TypeId} {fs:Array Field} {H:Type} {enc:TypeId×Value→H} {w:World} {base:Nat} {spare:Nat→Bool} {held:Bool} {fuel:Nat} {cs:List Value} {x:DataW H×List MemPlace} (ht:P.underlying t=some (.struct fs)) (Ec:oneCellFields P fs=true) (h:DataW.trod enc P w base spare held fuel t cs=some x) : cs.length=P.cellsOf t∧∀(j:Nat) (f:Field) (v:Value),fs[j]?=some f→cs[j]?=some v→∃n y,DataW.trod enc P w base spare held n f.type [v]=some y:=by
 obtain⟨xs,n,_,_,fL,sR,hf⟩:=DataW.trod_struct ht h;refine⟨fL,fun j f v hj hv=>?_⟩;obtain⟨ho,hk⟩:=hone_of Ec j f hj;have h1:=hf j f hj;rw[ho,hk] at h1;have NS:=eP hv;have e:(cs.drop j).take 1=[v]:=by
  rw[vM hv];rfl
 rw[e] at h1;have hjf:j<xs.length:=by rw[sR];exact(Array.getElem?_eq_some_iff.1 hj).1
 rw[List.getElem?_eq_getElem hjf] at h1;exact⟨n,_,h1⟩
end Go.Proofs.YtjlhbfbdcfajfaaGreatDoor
