/- Sto4 Sto5 -/
import Derived.Test.YtjlhbfbdcfajfaaGreatDoorB23
import Derived.Test.YtjlhbfbdcfajfaaGreatDoorB22
namespace Go.Proofs.YtjlhbfbdcfajfaaGreatDoor
open Go.RowKit Go.Maps Go.WideMaps
theorem Tryz.stylTy:cW Tryz.prog 24 97 3 64:=cW.mk' (z:=.agg #[.string ⟨#[]⟩,.slice none 0 0,.slice none 0 0]) Tryz.underlying24 (by kernel_rfl) rfl (by omega)
theorem Tryz.valsTy:cW Tryz.prog 133 168 7 96:=cW.mk' (z:=.agg #[.map none,.map none,.map none,.bool false,.slice none 0 0,.slice none 0 0,.string ⟨#[]⟩]) Tryz.underlying133 (by kernel_rfl) rfl (by omega)
theorem sl1 {α:Type} [bG α] {w:World} {S:Nat→Prop} {v:Value} {xs:List α} (h:iB w S v xs):v.oneCell'=true:=by
 obtain⟨A,n,c,rfl,_⟩:=h;rfl
theorem Tg {m1 m2 m3:Option Nat} {r:Bool} {a b:Value} {s:ByteArray} (ha:a.oneCell'=true) (hb:b.oneCell'=true):∀u∈[Value.map m1,Value.map m2,Value.map m3,.bool r,a,b,.string s],u.oneCell'=true:=by
 intro u hu;simp only[List.mem_cons,List.not_mem_nil,or_false] at hu;rcases hu with rfl|rfl|rfl|rfl|rfl|rfl|rfl<;>first|rfl|exact ha|exact hb
structure ale (bb g4 g5:Nat) (vS vV:Value) (nm:ByteArray) (cs:Array Value) (w:World):Prop where
 c6:w.cell? ⟨bb,6,none⟩=some vS
 c15:w.cell? ⟨bb,15,none⟩=some vV
 c4:w.cell? ⟨g4,1,none⟩=some (.string nm)
 c5:aK w g5 168 cs
theorem qq {w w0 w2:World} {B bb i:Nat} {τ:Nat→Tag} {t:Tag} {e ty:TypeId} {α:Type} [bG α] {v v2:Value} {xs ys:List α} {o:Obj} (ho:Own w0 aA B e v xs) (ht:∀g,v.ownBlock=some g→τ g=t) (bq:τ bb=.bb) (dA:t≠.bb) (bn:bb<w0.heap.size) (h0:w0.heap.size≤w.heap.size) (kD:v2.ownBlock=v.ownBlock∨v2.ownBlock=some (w.heap.size+1)) (hg:(w.alloc o).grownBy w2 v.ownBlock) (h2:Own w2 aA B e v2 ys) (hE0:Below w0.heap.size w0 (w.alloc o)) (u:Value) (_:ty=ty) : Kept w0 (w2.setCell ⟨bb,i,none⟩ u) τ (mb t .bb)∧fi w0 τ (cH τ w0.heap.size t)∧Own (w2.setCell ⟨bb,i,none⟩ u) aA B e v2 ys∧(∀g,v2.ownBlock=some g→cH τ w0.heap.size t g=t)∧(some bb≠v.ownBlock):=by
 have hE:fi w0 τ (cH τ w0.heap.size t):=fi.set _ _ _;have rj:some bb≠v.ownBlock:=fun h=>by
  have:=ht bb h.symm;rw[bq] at this;exact dA this.symm
 have hk:Kept (w.alloc o) w2 (cH τ w0.heap.size t) (mb t .bb):=Kept.of_grown hg fun g h _=>.inl ((hE g (ho.lt g h).2).trans (ht g h));refine⟨((Kept.of_below hE0).trans hE hk).trans hE (Kept.of_set (T:=mb t .bb) (τ:=cH τ w0.heap.size t) w2 (p:=⟨bb,i,none⟩) (.inr ((hE bb bn).trans bq)) u),hE,?_,fun g hg=>?_,rj⟩
 ·refine h2.setCell (p:=⟨bb,i,none⟩) (fun e=>?_) (fun b hb=>hb.elim) _;rcases kD with h|h
  ·rw[h] at e;exact rj e.symm
  ·rw[h] at e;injection e with e
   have h1:w.heap.size+1=bb:=e;omega
 ·rcases kD with h|h
  ·rw[h] at hg;exact(hE g (ho.lt g hg).2).trans (ht g hg)
  ·rw[h] at hg;injection hg with hg
   exact fu _ _ (by omega)
set_option maxRecDepth 20000 in
set_option maxHeartbeats 2000000 in
theorem J7 {w:World} {B bb mn N:Nat} {τ:Nat→Tag} {f:ByteArray→Option Value} {vP vC vS vN vD vV:Value} {rC:List (bQ 9)} {rS:List (bQ 3)} {rV:List (bQ 7)} {s:cZ} (h:iO w B bb mn N τ f vP vC vS vN vD vV rC rS rV s) (hl:s.vals.length=s.e.styl.length) (nm:ByteArray) (AF:Option Addr) (nF cF:Nat) (line:Int) {cs:List Value} {v:aS} (hv:xD w B τ cs v) (hN:N<1099511627776) : Calls Tryz.prog 97 #[.pointer (some ⟨bb,0,none⟩),.agg #[.string aQ,.string nm,.slice AF nF cF,.int .i64 line],.agg cs.toArray] w (vj w B bb (N+1) τ (ch aQ nm v s)):=by
 have sw:=hv;obtain⟨m1,m2,m3,M,fl,ml,mo,rfl,d1,d2,d3,hn,GZ,ui,Ef,Cm,Bt⟩:=hv;have jK:Below w.heap.size w ((w.alloc (.cells #[.string aQ,.string nm,.slice AF nF cF,.int .i64 line] 110)).alloc (.cells #[.map (some m1),.map (some m2),.map (some m3),.bool v.risk.neg,ml,mo,.string v.seed] 168)):=((Below.refl _ _).alloc (Nat.le_refl _) _).alloc (by simp) _;have jj:aK ((w.alloc (.cells #[.string aQ,.string nm,.slice AF nF cF,.int .i64 line] 110)).alloc (.cells #[.map (some m1),.map (some m2),.map (some m3),.bool v.risk.neg,ml,mo,.string v.seed] 168)) w.heap.size 110 #[.string aQ,.string nm,.slice AF nF cF,.int .i64 line]:=(aK.new _ _ _).alloc _;have mx:aK ((w.alloc (.cells #[.string aQ,.string nm,.slice AF nF cF,.int .i64 line] 110)).alloc (.cells #[.map (some m1),.map (some m2),.map (some m3),.bool v.risk.neg,ml,mo,.string v.seed] 168)) (w.heap.size+1) 168 #[.map (some m1),.map (some m2),.map (some m3),.bool v.risk.neg,ml,mo,.string v.seed]:=aK.new' (by simp) _ _;have lw:((w.alloc (.cells #[.string aQ,.string nm,.slice AF nF cF,.int .i64 line] 110)).alloc (.cells #[.map (some m1),.map (some m2),.map (some m3),.bool v.risk.neg,ml,mo,.string v.seed] 168)).heap.size=w.heap.size+2:=by simp
 obtain⟨w1,bj⟩:∃x,(w.alloc (.cells #[.string aQ,.string nm,.slice AF nF cF,.int .i64 line] 110)).alloc (.cells #[.map (some m1),.map (some m2),.map (some m3),.bool v.risk.neg,ml,mo,.string v.seed] 168)=x:=⟨_,rfl⟩;rw[bj] at jK jj mx lw;have bn:bb<w.heap.size:=h.blk.lt;have kT:B≤w.heap.size:=Nat.le_of_lt (Nat.lt_of_le_of_lt h.hb bn);have Fp:B≤bb:=h.hb;have jm:aK w1 bb 135 (qh s mn vP vC vS vN vD vV):=h.blk.keep jK;have e0:w1.cell? ⟨w.heap.size,0,none⟩=some (.string ⟨#[115,116,121,108,101]⟩):=jj.cell 0;have e1:w1.cell? ⟨w.heap.size,1,none⟩=some (.string nm):=jj.cell 1;have v0:w1.cell? ⟨w.heap.size+1,0,none⟩=some (.map (some m1)):=mx.cell 0;have v1:w1.cell? ⟨w.heap.size+1,1,none⟩=some (.map (some m2)):=mx.cell 1;have z6:w1.cell? ⟨bb,6,none⟩=some (vS):=jm.cell 6;have y6:w1.frozen? ⟨bb,6,none⟩=false:=jm.frozen 6;have z15:w1.cell? ⟨bb,15,none⟩=some (vV):=jm.cell 15;have y15:w1.frozen? ⟨bb,15,none⟩=false:=jm.frozen 15;have HN:=zH (hn.keep jK);have PH:=zH (GZ.keep jK);have C5:=zH ui;have HVD:=zH sw;have dO:=zH bj;have xW:=zH jm;have Gl:=zH jj;have Xu:=zH mx;have kq:=zH jK;have HH:=zH h;have HL:=zH hl;have Ry:=zH Cm;have Rz:=zH Bt;have Gf:=zH lw;have aj4:bb≠w.heap.size:=by omega
 have Vn:bb≠w.heap.size+1:=by omega
 clear hn bj jm jK h hl jj mx d1 d2 d3 GZ ui Ef Cm Bt sw lw;show Calls _ _ #[.pointer (some ⟨bb,0,none⟩),.agg #[.string ⟨#[115,116,121,108,101]⟩,.string nm,.slice AF nF cF,.int .i64 line],.agg #[.map (some m1),.map (some m2),.map (some m3),.bool v.risk.neg,ml,mo,.string v.seed]] w _;unfold aQ at dO;go_enter Tryz.func97,Tryz.ntmps97;go_upto_region 1 with(fail);rw[dO.out];go_wp2_with fail;have afk:=zH (HH.out.oS.below kq.out);have JO:=zH (show rS.length<1099511627776 from Nat.lt_of_le_of_lt (by rw[HH.out.dS.1];exact HH.out.lS) hN);refine et (ale bb w.heap.size (w.heap.size+1) vS vV nm #[.map (some m1),.map (some m2),.map (some m3),.bool v.risk.neg,ml,mo,.string v.seed]) 14 [(0,true),(1,true),(2,true),(3,true),(4,true),(5,true),(6,true),(7,true),(8,true),(9,false),(10,false),(11,true),(12,true),(13,true)]
  (by kernel_rfl) rfl (by kernel_rfl) (by kernel_rfl) (by kernel_rfl) (fun _ _ d _ _ h=>by cases d<;>exact h) ⟨z6,z15,e1,Xu.out.drew⟩ ?_
 iterate 9
  refine bh (v:=?_) rfl rfl ?_ ?_;rotate_left 1
  ·intro w hS;have c6:=hS.c6;have c15:=hS.c15;have c4:=hS.c4;have v0':=hS.c5.cell 0;have v1':=hS.c5.cell 1;have v2':=hS.c5.cell 2;have v3':=hS.c5.cell 3;have v4':=hS.c5.cell 4;have v5':=hS.c5.cell 5;have v6':=hS.c5.cell 6;simp only[List.getElem?_toArray,List.getElem?_cons_zero,List.getElem?_cons_succ] at v0' v1' v2' v3' v4' v5' v6';clear hS;go_simp;with_reducible rfl
  simp only[Act.put,List.getElem_toArray,List.getElem_cons_zero,List.getElem_cons_succ,List.setIfInBounds_toArray,List.set_cons_zero,List.set_cons_succ]
 refine fB rfl fun K hK=>?_;go_simp;refine hK _ _ ⟨by go_keep,by go_keep,by go_keep,Xu.out.alloc _⟩ ?_;clear hK K;try simp only[Act.put,List.getElem_toArray,List.getElem_cons_zero,List.getElem_cons_succ,List.setIfInBounds_toArray,List.set_cons_zero,List.set_cons_succ]
 refine fB rfl fun K hK=>?_;refine fA (α:=bQ 3) (w0:=w) (B:=B) (base:=B) (wr:=w1) (by rfl) _ _ 24 (by rfl) 64 Tryz.stylTy (by rfl) afk.out (kq.out.mono kT) (Nat.le_refl _) (Nat.le_trans kT kq.out.size) [.string nm,.slice none 0 0,.slice none 0 0] ⟨[.string nm,.slice none 0 0,.slice none 0 0],rfl⟩ 1 (by rfl) rfl 97 (by simp[Value.oneCell']) (by have:=JO.out;omega) ?_;intro v9 w2 fg rl hgrow kD;obtain⟨A9,n9,c9,rfl,hn9⟩:=fg.slice;clear hn9;obtain⟨iF,hE,dl,Mb,rj⟩:=qq (i:=6) (ty:=0) HH.out.oS HH.out.tS HH.out.tb (by simp) bn kq.out.size kD hgrow fg (kq.out.alloc kq.out.size _) (.slice A9 n9 c9) rfl;have FV:aK w2 bb 135 (qh s mn vP vC vS vN vD vV):=(xW.out.alloc _).grown hgrow rj;have wv:=((Gl.out.alloc (.cells #[.string nm,.slice none 0 0,.slice none 0 0] 97)).grown hgrow (fun h=>by have:=(HH.out.oS.lt _ h.symm).2;omega));have QI:=((Xu.out.alloc (.cells #[.string nm,.slice none 0 0,.slice none 0 0] 97)).grown hgrow (fun h=>by have:=(HH.out.oS.lt _ h.symm).2;omega));have g6:w2.cell? ⟨bb,6,none⟩=some vS:=FV.cell 6;have f6:w2.frozen? ⟨bb,6,none⟩=false:=FV.frozen 6;refine hK _ _ ⟨g6,FV.cell 15,wv.cell 1,QI⟩ ?_;clear hK K;have h3:=HH.out.addS (y:=(⟨nm,[],[]⟩:aX)) iF hE (FV.set_ 6 _) dl Mb ⟨rfl,rfl,rfl⟩;have adr:=QI.far (p:=⟨bb,6,none⟩) (by exact Ne.symm Vn) (.slice A9 n9 c9);have QM:=wv.far (p:=⟨bb,6,none⟩) (by exact Ne.symm aj4) (.slice A9 n9 c9);have ey:=rl.setCell (p:=⟨bb,6,none⟩) Fp (.slice A9 n9 c9);have Si:w1.heap.size≤w2.heap.size:=by have:=hgrow.size;simp at this;omega
 have sC:Kept w (w2.setCell ⟨bb,6,none⟩ (.slice A9 n9 c9)) τ (fun t=>t≠.data∧t≠.tmp):=iF.weak fun t h=>by rcases h with h|h<;>rw[h]<;>simp
 obtain⟨w3,qc⟩:∃x,w2.setCell ⟨bb,6,none⟩ (.slice A9 n9 c9)=x:=⟨_,rfl⟩;have aqB:w2.heap.size=w3.heap.size:=by rw[←qc];simp
 rw[qc] at h3 adr QM ey iF sC;have Rx:=zH qc;have H3:=zH h3;have ZJ:=zH adr;have RL:=zH QM;have iT:=zH ey;have HCC:=zH sC;have HE:=zH hE;have BO:=zH (show w1.heap.size≤w3.heap.size by omega);clear fg rl hgrow kD FV wv QI h3 adr QM ey iF sC hE dl Mb rj qc Si aqB;try simp only[Act.put,List.getElem_toArray,List.getElem_cons_zero,List.getElem_cons_succ,List.setIfInBounds_toArray,List.set_cons_zero,List.set_cons_succ]
 iterate 3
  refine bh (v:=?_) rfl rfl ?_ ?_;rotate_left 1
  ·intro w hS;have c6:=hS.c6;have c15:=hS.c15;have c4:=hS.c4;have v0':=hS.c5.cell 0;have v1':=hS.c5.cell 1;have v2':=hS.c5.cell 2;have v3':=hS.c5.cell 3;have v4':=hS.c5.cell 4;have v5':=hS.c5.cell 5;have v6':=hS.c5.cell 6;simp only[List.getElem?_toArray,List.getElem?_cons_zero,List.getElem?_cons_succ] at v0' v1' v2' v3' v4' v5' v6';clear hS;go_simp;with_reducible rfl
  simp only[Act.put,List.getElem_toArray,List.getElem_cons_zero,List.getElem_cons_succ,List.setIfInBounds_toArray,List.set_cons_zero,List.set_cons_succ]
 refine dW rfl rfl fun K hK=>?_;go_simp;rw[Rx.out];refine hK _ _ ?_;clear hK K;clear g6 f6 z6 z15 y6 y15 e0 e1 v0 v1;obtain⟨τ1,FO⟩:∃x,cH τ w.heap.size .ss=x:=⟨_,rfl⟩;have h3:=H3.out;have hE:=HE.out;rw[FO] at h3 hE;have SY:=zH h3;have ZQ:=zH hE;have HT4:Hid (τ1 w.heap.size≠.vs):=zH (by rw[←FO,fu _ _ (Nat.le_refl _)];simp);have HT5:Hid (τ1 (w.heap.size+1)≠.vs):=zH (by rw[←FO,fu _ _ (Nat.le_succ _)];simp);clear h3 hE H3 HE FO;have ly:bb<w3.heap.size:=SY.out.blk.lt;have z15:w3.cell? ⟨bb,15,none⟩=some vV:=SY.out.blk.cell 15;have y15:w3.frozen? ⟨bb,15,none⟩=false:=SY.out.blk.frozen 15;have z6:w3.cell? ⟨bb,6,none⟩=some (.slice A9 n9 c9):=SY.out.blk.cell 6;have alP:=zH SY.out.oV;have hlw:w.heap.size+1<w3.heap.size:=ZJ.out.lt;have avW:=zH (show rV.length<1099511627776 from by rw[HH.out.dV.1];exact Nat.lt_of_le_of_lt HH.out.lV hN);go_wp2_with fail;refine et (ale bb w.heap.size (w.heap.size+1) (.slice A9 n9 c9) vV nm #[.map (some m1),.map (some m2),.map (some m3),.bool v.risk.neg,ml,mo,.string v.seed]) 10 [(0,true),(1,true),(2,true),(3,true),(4,true),(5,true),(6,false),(7,false),(8,true),(9,true)]
  (by kernel_rfl) rfl (by kernel_rfl) (by kernel_rfl) (by kernel_rfl) (fun _ _ d _ _ h=>by cases d<;>exact h) ⟨z6,z15,RL.out.cell 1,ZJ.out.drew⟩ ?_
 iterate 6
  refine bh (v:=?_) rfl rfl ?_ ?_;rotate_left 1
  ·intro w hS;have c6:=hS.c6;have c15:=hS.c15;have c4:=hS.c4;have v0':=hS.c5.cell 0;have v1':=hS.c5.cell 1;have v2':=hS.c5.cell 2;have v3':=hS.c5.cell 3;have v4':=hS.c5.cell 4;have v5':=hS.c5.cell 5;have v6':=hS.c5.cell 6;simp only[List.getElem?_toArray,List.getElem?_cons_zero,List.getElem?_cons_succ] at v0' v1' v2' v3' v4' v5' v6';clear hS;go_simp;with_reducible rfl
  simp only[Act.put,List.getElem_toArray,List.getElem_cons_zero,List.getElem_cons_succ,List.setIfInBounds_toArray,List.set_cons_zero,List.set_cons_succ]
 refine fB rfl fun K hK=>?_;go_simp;refine hK _ _ ⟨by go_keep,by go_keep,(RL.out.alloc _).cell 1,ZJ.out.alloc _⟩ ?_;clear hK K;try simp only[Act.put,List.getElem_toArray,List.getElem_cons_zero,List.getElem_cons_succ,List.setIfInBounds_toArray,List.set_cons_zero,List.set_cons_succ]
 refine fB rfl fun K hK=>?_;refine fA (α:=bQ 7) (w0:=w) (B:=B) (base:=B) (wr:=w3) (by rfl) _ _ 133 (by rfl) 96 Tryz.valsTy (by rfl) alP.out iT.out (Nat.le_refl _) (Nat.le_trans kT (Nat.le_of_lt (Nat.lt_of_lt_of_le (Nat.lt_succ_self _) (Nat.le_of_lt hlw)))) [.map (some m1),.map (some m2),.map (some m3),.bool v.risk.neg,ml,mo,.string v.seed] ⟨[.map (some m1),.map (some m2),.map (some m3),.bool v.risk.neg,ml,mo,.string v.seed],rfl⟩ 1 (by rfl) rfl 168 (Tg (sl1 Ry.out) (sl1 Rz.out)) (by have:=avW.out;omega) ?_;intro v9 w4 hown4 hbel4 hgrow kD;obtain⟨A8,n8,c8,rfl,hn8⟩:=hown4.slice;clear hn8;obtain⟨mx,hE5,NI,ht5,rj⟩:=qq (i:=15) (ty:=0) SY.out.oV SY.out.tV SY.out.tb (by simp) ly (Nat.le_refl _) kD hgrow hown4 ((Below.refl _ _).alloc (Nat.le_refl _) _) (.slice A8 n8 c8) rfl;have UW:=(SY.out.blk.alloc (.cells #[.map (some m1),.map (some m2),.map (some m3),.bool v.risk.neg,ml,mo,.string v.seed] 168)).grown hgrow rj;have UX:=((RL.out.alloc (.cells #[.map (some m1),.map (some m2),.map (some m3),.bool v.risk.neg,ml,mo,.string v.seed] 168)).grown hgrow (fun h=>by
  have h1:=SY.out.tV _ h.symm;exact absurd h1 (HT4.out)))
 have aje:=((ZJ.out.alloc (.cells #[.map (some m1),.map (some m2),.map (some m3),.bool v.risk.neg,ml,mo,.string v.seed] 168)).grown hgrow (fun h=>by
  have h1:=SY.out.tV _ h.symm;exact absurd h1 (HT5.out)))
 have g6:w4.cell? ⟨bb,6,none⟩=some (.slice A9 n9 c9):=UW.cell 6;have g15:w4.cell? ⟨bb,15,none⟩=some vV:=UW.cell 15;have f15:w4.frozen? ⟨bb,15,none⟩=false:=UW.frozen 15;refine hK _ _ ⟨g6,g15,UX.cell 1,aje⟩ ?_;clear hK K;have WA:=zH UW;have ame:=zH mx;have HE5:=zH hE5;have zw:=zH NI;have auX:=zH ht5;have lH:=zH hbel4;clear hown4 hbel4 hgrow kD UW UX aje mx hE5 NI ht5 rj;try simp only[Act.put,List.getElem_toArray,List.getElem_cons_zero,List.getElem_cons_succ,List.setIfInBounds_toArray,List.set_cons_zero,List.set_cons_succ]
 iterate 2
  refine bh (v:=?_) rfl rfl ?_ ?_;rotate_left 1
  ·intro w hS;have c6:=hS.c6;have c15:=hS.c15;have c4:=hS.c4;have v0':=hS.c5.cell 0;have v1':=hS.c5.cell 1;have v2':=hS.c5.cell 2;have v3':=hS.c5.cell 3;have v4':=hS.c5.cell 4;have v5':=hS.c5.cell 5;have v6':=hS.c5.cell 6;simp only[List.getElem?_toArray,List.getElem?_cons_zero,List.getElem?_cons_succ] at v0' v1' v2' v3' v4' v5' v6';clear hS;go_simp;with_reducible rfl
  simp only[Act.put,List.getElem_toArray,List.getElem_cons_zero,List.getElem_cons_succ,List.setIfInBounds_toArray,List.set_cons_zero,List.set_cons_succ]
 refine dW rfl rfl fun K hK=>?_;go_simp;refine hK _ _ ?_;clear hK K;go_wp2_with fail;go_end0
 have hv3:xD w3 B τ1 [.map (some m1),.map (some m2),.map (some m3),.bool v.risk.neg,ml,mo,.string v.seed] v:=HVD.out.tag HCC.out (by simp) ZQ.out;have h5:=SY.out.addV (v':=.slice A8 n8 c8) (r:=(⟨[.map (some m1),.map (some m2),.map (some m3),.bool v.risk.neg,ml,mo,.string v.seed],rfl⟩:bQ 7)) (y:=v) ame.out HE5.out (WA.out.set_ 15 _) zw.out auX.out hv3 (Nat.lt_succ_of_le HH.out.lV);refine⟨rfl,_,ZQ.out.trans (Nat.le_of_lt (Nat.lt_trans (Nat.lt_succ_self _) hlw)) HE5.out,⟨⟨mn,f,vP,vC,.slice A9 n9 c9,vN,vD,.slice A8 n8 c8,rC,rS++[⟨[.string nm,.slice none 0 0,.slice none 0 0],rfl⟩],rV++[⟨[.map (some m1),.map (some m2),.map (some m3),.bool v.risk.neg,ml,mo,.string v.seed],rfl⟩],h5⟩,?_⟩,lH.out.setCell (p:=⟨bb,15,none⟩) Fp _,HCC.out.trans ZQ.out (ame.out.weak fun t h=>by rcases h with h|h<;>rw[h]<;>simp)⟩;show(s.vals++[v]).length=(s.e.styl++[(⟨nm,[],[]⟩:aX)]).length;rw[List.length_append,List.length_append,HL.out];rfl
theorem KM {k:ByteArray} (h:aN k≠[]):k=aB∨k=ak∨k=af∨k=ah∨k=aQ∨k=aI∨k=aJ:=by
 unfold aN at h;split at h
 ·rename_i h1;exact .inl h1
 split at h
 ·rename_i h1;exact .inr (.inl h1)
 split at h
 ·rename_i h1;exact .inr (.inr (.inl h1))
 split at h
 ·rename_i h1;exact .inr (.inr (.inr (.inl h1)))
 split at h
 ·rename_i h1;exact .inr (.inr (.inr (.inr (.inl h1))))
 split at h
 ·rename_i h1;exact .inr (.inr (.inr (.inr (.inr (.inl h1)))))
 split at h
 ·rename_i h1;exact .inr (.inr (.inr (.inr (.inr (.inr h1)))))
 ·exact absurd rfl h
theorem Tv {w:World} {B bb N:Nat} {τ:Nat→Tag} {s:cZ} (h:OT w B bb N τ s) {kind:ByteArray} (hk:aN kind≠[]) (nm:ByteArray) (AF:Option Addr) (nF cF:Nat) (line:Int) {cs:List Value} {v:aS} (hv:xD w B τ cs v) (hN:N<1099511627776) : Calls Tryz.prog 97 #[.pointer (some ⟨bb,0,none⟩),.agg #[.string kind,.string nm,.slice AF nF cF,.int .i64 line],.agg cs.toArray] w (vj w B bb (N+1) τ (ch kind nm v s)):=by
 obtain⟨⟨mn,f,vP,vC,vS,vN,vD,vV,rC,rS,rV,h⟩,hl⟩:=h;rcases KM hk with rfl|rfl|rfl|rfl|rfl|rfl|rfl
 ·exact ML h hl nm AF nF cF line hv hN
 ·exact Di h hl nm AF nF cF line hv hN
 ·exact BV h hl nm AF nF cF line hv hN
 ·exact FD h hl nm AF nF cF line hv hN
 ·exact J7 h hl nm AF nF cF line hv hN
 ·exact J8 h hl nm AF nF cF line hv hN
 ·exact FC h hl nm AF nF cF line hv hN
end Go.Proofs.YtjlhbfbdcfajfaaGreatDoor
