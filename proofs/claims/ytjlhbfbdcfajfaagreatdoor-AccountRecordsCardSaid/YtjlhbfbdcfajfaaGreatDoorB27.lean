/- Lnk5 Cmp1 -/
import Derived.Test.YtjlhbfbdcfajfaaGreatDoorB26
namespace Go.Proofs.YtjlhbfbdcfajfaaGreatDoor
open Go.RowKit Go.Maps Go.WideMaps
set_option maxRecDepth 20000 in
set_option maxHeartbeats 4000000 in
theorem X8 {w:World} {B bb N:Nat} {τ:Nat→Tag} {s:cZ} (h:OT w B bb N τ s) (hN:N<274877906944) (hp:s.e.prec.length≤274877906944) (ui:∀v∈s.vals,∀k,(v.s k).length≤274877906944) : Calls Tryz.prog 67 #[.pointer (some ⟨bb,0,none⟩)] w (OA w B bb s (wJ s)):=by
 obtain⟨⟨mn,f,vP,vC,vS,vN,vD,vV,rC,rS,rV,h⟩,hl⟩:=h;obtain⟨AP,nP,cP,rfl,yJ⟩:=h.dP;obtain⟨AC,nC,cC,rfl,hnC⟩:=h.oC.slice;obtain⟨AS,nS,cS,rfl,hnS⟩:=h.oS.slice;obtain⟨AV,nV,cV,rfl,hnV⟩:=h.oV.slice;have bd:Below w.heap.size w (w.alloc (.cells #[.int .i64 0,.int .i64 0] 76)):=(Below.refl _ _).alloc (Nat.le_refl _) _;have fM:aK (w.alloc (.cells #[.int .i64 0,.int .i64 0] 76)) w.heap.size 76 #[.int .i64 0,.int .i64 0]:=aK.new _ _ _;have jF:(w.alloc (.cells #[.int .i64 0,.int .i64 0] 76)).heap.size=w.heap.size+1:=by simp
 obtain⟨w1,bj⟩:∃x,w.alloc (.cells #[.int .i64 0,.int .i64 0] 76)=x:=⟨_,rfl⟩;rw[bj] at bd fM jF;have bq:=h.blk.keep bd;have c4:w1.cell? ⟨bb,4,none⟩=some (.slice AP nP cP):=bq.cell 4;have kT:B≤w.heap.size:=Nat.le_of_lt (Nat.lt_of_le_of_lt h.hb h.blk.lt);have IM:=yJ.len;rw[IM] at hp;obtain⟨z,hz⟩:∃z,wJ s=z:=⟨_,rfl⟩;rw[hz];have eh:=hz.symm;unfold wJ at eh;rw[IM] at eh;obtain⟨i0,QQ,G1,JI,U5⟩:=Tryz.boolTy;have HZ:=zH eh;have HH:=zH h;have HL:=zH hl;have dO:=zH bj;have bS:=zH bd;have jg:=zH fM;have oh:=zH jF;have Wt:=zH yJ;have HLP:=zH IM;have HNC:=zH hnC;have HNS:=zH (show nS=s.e.styl.length by rw[hnS];exact h.dS.1);have HNV:=zH (show nV=s.vals.length by rw[hnV];exact h.dV.1);have C5:=zH ui;have ZN:=zH QQ;have ZM:=zH G1;have ZL:=zH JI;have PK:=zH U5;clear hz eh h hl bj bd fM jF bq yJ IM hnC hnS hnV ui QQ G1 JI U5;go_enter Tryz.func67,Tryz.ntmps67;go_upto_region 1 with(fail);rw[dO.out];go_upto_region 2 with(refine dh (α:=Bool) _ rfl _ _ _ rfl rfl (w.heap.size+1) i0 (.bool false) Tryz.underlying119 ZN.out ZM.out ZL.out rfl .i64 .i64 (nP:Int) (nP:Int) nP rfl rfl rfl rfl (by rw[PK.out];omega) (by unfold maxLen;omega) (by rw[oh.out];exact Nat.le_refl _) false aA (fun _ h=>h.elim) (fun _ _=>rfl) ?_;intro w2 fK hg2;have eX:=zH fK;have bX:=zH ((Below.refl w1.heap.size w1).grown hg2 (Nat.le_refl _) (fun k hk=>by cases hk));clear fK hg2);rw[oh.out] at eX;rw[oh.out];obtain⟨gU,JK⟩:∃x,w.heap.size+1=x:=⟨_,rfl⟩;have HGU:=zH JK;have QV:Own w2 aA (w.heap.size+1) 4 (.slice (some ⟨gU,0,none⟩) nP nP) (List.replicate nP false):=by rw[←JK];exact eX.out
 rw[JK];clear JK eX c4;have uj:=ae bS.out bX.out;have Vn:=HH.out.blk.keep uj;have c15:w2.cell? ⟨bb,15,none⟩=some (.slice AV nV cV):=Vn.cell 15;have hnV:nV≤274877906944:=by rw[HNV.out];exact Nat.le_trans HH.out.lV (Nat.le_of_lt hN)
 have jI:Hid (Ru w w2 B gU nP τ s (.slice AS nS cS) 0 (List.replicate nP false) rS []):=zH
  ⟨⟨uj.mono kT,Kept.of_below uj,jg.out.keep bX.out,HH.out.oS.below uj,QV⟩,rfl,HH.out.dS.1,by simp,fun j x y hj=>by omega,fun j x y _ hx hy=>HH.out.dS.2 j x y hx hy⟩
 clear QV uj Vn jg bX bS dO oh ZN ZM ZL PK;go_wp2_with fail;go_loopw [25] (fun iv wr=>∃(i:Nat) (used:List Bool) (rows:List (bQ 3)) (done:List aX),iv=.int .i64 i∧i≤nV∧z=fT s.e.prec s.e.cont (s.vals.drop i) (s.e.styl.drop i) used done∧Ru w wr B gU nP τ s (.slice AS nS cS) i used rows done) (fun iv _=>nV-(intOf iv).toNat)
 case atStart=>exact⟨0,_,_,_,rfl,Nat.zero_le _,HZ.out,jI.out⟩
 case round=>
  clear HZ jI c15;obtain⟨i,used,rows,done,rfl,hi,hzi,ho⟩:=hrel;have HZI:=zH hzi;have HO:=zH ho;have jm:=HH.out.blk.tag ho.W.kept (by rw[HH.out.tb];simp[One]);have c4:wr.cell? ⟨bb,4,none⟩=some (.slice AP nP cP):=jm.cell 4;have c5:wr.cell? ⟨bb,5,none⟩=some (.slice AC nC cC):=jm.cell 5;have c6:wr.cell? ⟨bb,6,none⟩=some (.slice AS nS cS):=jm.cell 6;have xW:=zH jm;clear hzi ho jm;by_cases bn:i<nV
  ·have dK:(i:Int)<(nV:Int):=by omega
   have Mi:i<s.vals.length:=by rw[←HNV.out];exact bn
   have his:i<s.e.styl.length:=by rw[←HL.out];exact Mi
   have QO:i<rV.length:=by rw[HH.out.dV.1];exact Mi
   have NU:i<rows.length:=by rw[HO.out.ln];exact his
   obtain⟨v,hv⟩:∃v,s.vals[i]?=some v:=⟨_,List.getElem?_eq_getElem Mi⟩;obtain⟨sy,Yn⟩:∃v,s.e.styl[i]?=some v:=⟨_,List.getElem?_eq_getElem his⟩;obtain⟨xV,hxV⟩:∃v,rV[i]?=some v:=⟨_,List.getElem?_eq_getElem QO⟩;obtain⟨xS,hxS⟩:∃v,rows[i]?=some v:=⟨_,List.getElem?_eq_getElem NU⟩;have Bt:=HH.out.dV.2 i xV v hxV hv;obtain⟨m1,m2,m3,M,fl,ml,mo,rY,d1,d2,d3,Xg,hml,ui,aiW,Cm,Yl⟩:=Bt;obtain⟨ZX,X4,Zf,rfl,_⟩:=Cm;obtain⟨ZY,X5,Zg,rfl,_⟩:=Yl;have Pk:=HO.out.rest i xS sy (Nat.le_refl _) hxS Yn;have Uu:xS=iH sy.name (.slice none 0 0) (.slice none 0 0):=by
    obtain⟨cs,hl⟩:=xS;have:cs=Dg sy:=Pk.1;subst this;rfl
   have hoV:Own wr aA B 168 (.slice AV nV cV) rV:=HH.out.oV.tag HO.out.W.kept (fun g hg=>by rw[HH.out.tV g hg];simp[One]);obtain⟨gV,rfl⟩:=hoV.rawSome (by omega);obtain⟨gS,rfl⟩:=HH.out.oS.rawSome (by rw[HNS.out];omega);have YP:∀(j:Nat) u,xV.cells[j]?=some u→wr.cell? ⟨gV,i*7+j,none⟩=some u:=fun j u hu=>(hoV.rawCell hxV hu).1;rw[rY] at YP;have r0:wr.cell? ⟨gV,i*7,none⟩=some (.map (some m1)):=YP 0 _ rfl;have r1:wr.cell? ⟨gV,i*7+1,none⟩=some (.map (some m2)):=YP 1 _ rfl;have r2:wr.cell? ⟨gV,i*7+2,none⟩=some (.map (some m3)):=YP 2 _ rfl;have r3:wr.cell? ⟨gV,i*7+3,none⟩=some (.bool v.risk.neg):=YP 3 _ rfl;have r4:wr.cell? ⟨gV,i*7+4,none⟩=some (.slice ZX X4 Zf):=YP 4 _ rfl;have r5:wr.cell? ⟨gV,i*7+5,none⟩=some (.slice ZY X5 Zg):=YP 5 _ rfl;have r6:wr.cell? ⟨gV,i*7+6,none⟩=some (.string v.seed):=YP 6 _ rfl;have axP:(i:Int)≤(cV:Int):=by have:=hoV.rawLen;omega
   have ajQ:(i:Int)<(nS:Int):=by rw[HNS.out];omega
   have adS:(i:Int)≤(cS:Int):=by have:=HH.out.oS.rawLen;omega
   obtain⟨AL,nL,cL,CP,CN⟩:=ui.at_ af;obtain⟨AM,nM,cM,hfm,hrm⟩:=ui.at_ aE;have hzg:z=fT s.e.prec s.e.cont (v::s.vals.drop (i+1)) (sy::s.e.styl.drop (i+1)) used done:=by rw[HZI.out,bR hv,bR Yn]
   have ai2:=C5.out v (List.mem_of_getElem? hv) af;have ai1:=C5.out v (List.mem_of_getElem? hv) aE;rw[CN.len] at ai2;rw[hrm.len] at ai1;have ey:Below wr.heap.size wr (wr.alloc (.cells #[.map (some m1),.map (some m2),.map (some m3),.bool v.risk.neg,(.slice ZX X4 Zf),(.slice ZY X5 Zg),.string v.seed] 168)):=(Below.refl _ _).alloc (Nat.le_refl _) _;have mx:aK (wr.alloc (.cells #[.map (some m1),.map (some m2),.map (some m3),.bool v.risk.neg,(.slice ZX X4 Zf),(.slice ZY X5 Zg),.string v.seed] 168)) wr.heap.size 168 #[.map (some m1),.map (some m2),.map (some m3),.bool v.risk.neg,(.slice ZX X4 Zf),(.slice ZY X5 Zg),.string v.seed]:=aK.new _ _ _;have Si:(wr.alloc (.cells #[.map (some m1),.map (some m2),.map (some m3),.bool v.risk.neg,(.slice ZX X4 Zf),(.slice ZY X5 Zg),.string v.seed] 168)).heap.size=wr.heap.size+1:=by simp
   obtain⟨w3,qc⟩:∃q,wr.alloc (.cells #[.map (some m1),.map (some m2),.map (some m3),.bool v.risk.neg,(.slice ZX X4 Zf),(.slice ZY X5 Zg),.string v.seed] 168)=q:=⟨_,rfl⟩;rw[qc] at ey mx Si;have hW3:=HO.out.W.below ey kT;have JK:=HO.out.W.gU_lt;have hI:wC w w3 B gU nP τ (.slice (some ⟨gS,0,none⟩) nS cS) i rows done (wr.heap.size+1) wr.heap.size #[.map (some m1),.map (some m2),.map (some m3),.bool v.risk.neg,(.slice ZX X4 Zf),(.slice ZY X5 Zg),.string v.seed] sy.name used (.slice none 0 0) (.slice none 0 0) [] []:=
    { W:=by
       have:rows.set i (iH sy.name (.slice none 0 0) (.slice none 0 0))=rows:=by
        rw[←Uu];obtain⟨hh,he⟩:=List.getElem?_eq_some_iff.1 hxS;rw[←he];exact List.set_getElem_self hh
       rw[this];exact hW3
      lu:=HO.out.lu
      o1:=Own.nil _ _ _
      o2:=Own.nil _ _ _
      d:=fun g hg=>by cases hg
      fin:=fun j x y hj hx hy=>bG.keep (HO.out.fin j x y hj hx hy) (fun b hb=>⟨hb.1,Nat.lt_succ_of_lt hb.2.1,hb.2.2⟩) ((aD.of_below ey).sub fun b hb=>hb.2.1)
      blk5:=mx
      h5:=HO.out.W.blkF.lt
      h51:=Nat.lt_succ_self _
      hU:=by omega
      g5U:=by omega
      hb:=by omega }
   have FU:=xW.out.keep ey;have e6:w3.cell? ⟨bb,6,none⟩=some (.slice (some ⟨gS,0,none⟩) nS cS):=FU.cell 6;have t1:w3.cell? ⟨wr.heap.size,1,none⟩=some (.map (some m2)):=mx.cell 1;have UU:=hW3.kept;have ZE:=zH (hml.tag UU (by rw[d2.2.2];simp[One]));have PK:=zH hI;have HFL:=zH CP;have HFM:=zH hfm;have Mt:=zH CN;have HRM:=zH hrm;have HML:=zH hml;have al0:=zH aiW;have HD2:=zH d2;have HD3:=zH d3;have Zv:=zH hzg;have Rx:=zH qc;have BO:=zH Si;have qH:=zH NU;have aE4:=zH Yn;have HGU:=zH JK;clear aiW ui hml Xg d1 d2 d3 rY Pk Uu hoV YP CP hfm CN hrm hzg ey mx Si qc hW3 hI FU UU HZI JK hxV hxS hv Yn NU QO his Mi;go_upto_region 5 with(fail);rw[Rx.out];clear r0 r1 r2 r3 r4 r5 r6 c4 c5 c6;go_upto_region 7 with(at_lookup;refine bE rfl _ _ _ 22 rfl Tryz.underlying132 (.slice none 0 0) rfl rfl ZE.out af rfl (by decide) _ HFL.out ?_);clear e6 t1;obtain⟨b1,bd⟩:∃x,wr.heap.size+1=x:=⟨_,rfl⟩;obtain⟨g5,hg5⟩:∃x,wr.heap.size=x:=⟨_,rfl⟩;rw[bd,hg5] at PK;rw[hg5];have aBj:w.heap.size<g5:=PK.out.h5;have bS:=zH bd;have HG5:=zH hg5;clear bd hg5;go_loopw [41] (fun iv wq=>∃(k:Nat) (iC:List Bool) (v1:Value) (a1:List Int),iv=.int .i64 k∧k≤nL∧dX s.e.prec (v.l af) (v.s af) used []=dX s.e.prec (v.l af) ((v.s af).drop k) iC a1∧a1.length=k∧wC w wq B gU nP τ (.slice (some ⟨gS,0,none⟩) nS cS) i rows done b1 g5 #[.map (some m1),.map (some m2),.map (some m3),.bool v.risk.neg,.slice ZX X4 Zf,.slice ZY X5 Zg,.string v.seed] sy.name iC v1 (.slice none 0 0) a1 []) (fun iv _=>nL-(intOf iv).toNat)
   case atStart=>exact⟨0,used,_,[],rfl,Nat.zero_le _,rfl,rfl,PK.out⟩
   case round=>
    clear PK;obtain⟨k,iC,v1,a1,rfl,hk,NM,Pr,hI⟩:=hrel;have jZ:=hI.W.kept;have jm:=HH.out.blk.tag jZ (by rw[HH.out.tb];simp[One]);have c4:wr.cell? ⟨bb,4,none⟩=some (.slice AP nP cP):=jm.cell 4;have tF:aD (Dat w B τ) w wr:=jZ.keeps (by simp[One]);have LQ:=zH (Mt.out.keep (fun _ h=>h) tF);have Ws:=zH (Wt.out.keep (fun _ h=>h) tF);have alZ:=zH (HML.out.tag jZ (by rw[HD2.out.2.2];simp[One]));have E5:=zH (al0.out.tag jZ (by rw[HD3.out.2.2];simp[One]));have mE:=hI.blk5;have t1:wr.cell? ⟨g5,1,none⟩=some (.map (some m2)):=mE.cell 1;have t2:wr.cell? ⟨g5,2,none⟩=some (.map (some m3)):=mE.cell 2;have G3:=hI.W.blkF;have x0:wr.cell? ⟨w.heap.size,0,none⟩=some (.int .i64 0):=G3.cell 0;have x1:wr.cell? ⟨w.heap.size,1,none⟩=some (.int .i64 0):=G3.cell 1;have y0:wr.frozen? ⟨w.heap.size,0,none⟩=false:=G3.frozen 0;have y1:wr.frozen? ⟨w.heap.size,1,none⟩=false:=G3.frozen 1;have Gk:=zH NM;have Ii:=zH Pr;have Bf:=zH hI;have av3:=zH jm;have Jh:=zH G3;clear jZ jm tF mE G3 NM Pr hI;by_cases ly:k<nL
    ·have KY:(k:Int)<(nL:Int):=by omega
     obtain⟨bL,oL,x,rfl,_,hx,e1⟩:=LQ.out.str_at ly;have ajS:(k:Int)≤(cL:Int):=by have:=LQ.out.cap;omega
     have bV:dX s.e.prec (v.l af) ((v.s af).drop k) iC a1=if Lib.idxOfS s.e.prec x<0 then .error ⟨2,v.l af⟩ else if iC.getD (Lib.idxOfS s.e.prec x).toNat false=true then .error ⟨3,v.l af⟩ else dX s.e.prec (v.l af) ((v.s af).drop (k+1)) (iC.set (Lib.idxOfS s.e.prec x).toNat true) (a1++[Lib.idxOfS s.e.prec x]):=by
      rw[bR hx];rfl
     obtain⟨J,hJ⟩:∃J,Lib.idxOfS s.e.prec x=J:=⟨_,rfl⟩;have tB:=Pd Ws.out x;have pH:=yF s.e.prec x;rw[hJ] at tB bV pH;rw[HLP.out] at pH;have jI:=zH bV;have CE:=zH tB;clear hx bV tB hJ;by_cases gK:J<0
     ·have av:z=.error ⟨2,v.l af⟩:=by
       rw[Zv.out];exact Bo (by rw[Gk.out,jI.out,if_pos gK])
      have bm:=zH av;have hnt:(J<0)=True:=eq_true gK;have UQ:decide (J<0)=true:=decide_eq_true gK;clear av pH gK;go_wp2_with (first|(go_at_call 98;refine CE.out.mono ?_;rintro e w' ⟨rfl,rfl⟩)|(at_lookup;refine bE rfl _ _ _ 3 rfl Tryz.underlying166 (.int .i64 0) rfl rfl E5.out af rfl (by decide) _ (ints_at v.ln af) ?_));refine lq (no:=2) (line:=v.l af) rfl rfl Jh.out rfl rfl ?_;exact CU Bf.out.W.bel kT 2 _ bm.out
     obtain⟨j,rfl,hj⟩:=pH.resolve_left gK;have NS:j<iC.length:=by rw[Bf.out.lu];exact hj
     obtain⟨b,Le⟩:∃b,iC[j]?=some b:=⟨_,List.getElem?_eq_getElem NS⟩;obtain⟨gX,uX,yP,_,_,Sk,Vh,hfX⟩:=Bf.out.W.usedO.get1 rfl Le;injection yP with yP
     injection yP with yP
     subst yP;have tx:[uX]=[.bool b]:=Sk;injection tx with tx
     subst tx;have lx:=jI.out;rw[if_neg gK,Int.toNat_natCast,List.getD_eq_getElem?_getD,Le,Option.getD_some] at lx;have ia:=zH lx;have hnf:((j:Int)<0)=False:=eq_false gK;have ada:decide ((j:Int)<0)=false:=decide_eq_false gK;have hjP:(j:Int)≤(nP:Int):=by omega
     have aB9:(j:Int)<(nP:Int):=by omega
     clear lx jI gK Le pH;cases b
     case true=>
      have av:z=.error ⟨3,v.l af⟩:=by
       rw[Zv.out];exact Bo (by rw[Gk.out,ia.out,if_pos rfl])
      have bm:=zH av;clear av;go_wp2_with (first|(go_at_call 98;refine CE.out.mono ?_;rintro e w' ⟨rfl,rfl⟩)|(at_lookup;refine bE rfl _ _ _ 3 rfl Tryz.underlying166 (.int .i64 0) rfl rfl E5.out af rfl (by decide) _ (ints_at v.ln af) ?_));refine lq (no:=3) (line:=v.l af) rfl rfl Jh.out rfl rfl ?_;exact CU Bf.out.W.bel kT 3 _ bm.out
     case false=>
      have lx:=ia.out;rw[if_neg (by simp)] at lx;have xG:=zH lx;clear lx;have NV:gS<w.heap.size:=(HH.out.oS.lt gS rfl).2;have NX:B≤gS:=(HH.out.oS.lt gS rfl).1;have NW:τ gS=.ss:=HH.out.tS gS rfl;have Oa:=Bf.out.mark kT (fun g hg=>(HH.out.oS.lt g hg).2) j;obtain⟨A1,n1,c1,rfl,hn1⟩:=Oa.o1.slice;have mJ:=Oa.W.own.rawCell (i:=i) (List.getElem?_set_self qH.out) (j:=1) (u:=.slice A1 n1 c1) rfl;obtain⟨wm,W5⟩:∃x,wr.setCell ⟨gU,j,none⟩ (.bool true)=x:=⟨_,rfl⟩;rw[W5] at Oa mJ;have s1:wm.cell? ⟨gS,i*3+1,none⟩=some (.slice A1 n1 c1):=mJ.1;have ZK:=zH Oa;have HWM:=zH W5;have vm:=zH (show w.heap.size<b1∧b1≤wm.heap.size from⟨Nat.lt_trans Oa.h5 Oa.h51,Oa.hb⟩);have Gj:=zH Oa.o1;have HBm:=zH Oa.W.bel;have OI:=zH Oa.W.own;clear Oa W5 mJ hn1;go_upto_region 15 with(first|(go_at_call 98;refine CE.out.mono ?_;rintro e w' ⟨rfl,rfl⟩)|(at_lookup;refine bE rfl _ _ _ 3 rfl Tryz.underlying166 (.int .i64 0) rfl rfl E5.out af rfl (by decide) _ (ints_at v.ln af) ?_));rw[HWM.out];clear c4 t1 t2 x0 x1 y0 y1 e1 Vh hfX;go_wp2_with (at_builtin;refine aF (α:=Int) (w0:=w) (B:=B) (base:=b1) rfl _ _ 84 rfl 8 Tryz.intTy rfl Gj.out HBm.out (Nat.le_of_lt (Nat.lt_of_le_of_lt kT vm.out.1)) vm.out.2 [.int .i64 (j:Int)] (j:Int) 1 rfl rfl 3 (by simp[Value.oneCell']) (by rw[Ii.out];omega) ?_;intro v4 w4 hown4 fa hg4 hl4;have uR:=yp OI.out (List.getElem?_set_self qH.out) (j:=1) (u:=.slice A1 n1 c1) rfl hg4 (fun e=>by have:=(Gj.out.lt gS e).1;have:=vm.out.1;omega);obtain⟨A4,n4,c4,rfl,hn4⟩:=hown4.slice;have q1:w4.cell? ⟨gS,i*3+1,none⟩=some (.slice A1 n1 c1):=uR.1;have q2:w4.frozen? ⟨gS,i*3+1,none⟩=false:=uR.2;have qL:=zH hown4;have HG4:=zH hg4;have Ic:=zH hl4;clear hown4 fa hg4 hl4 hn4 uR);have mU:=ZK.out.app1 kT rfl NV NW NX qH.out qL.out HG4.out Ic.out;go_roundw
      case rel=>exact⟨k+1,iC.set j true,_,a1++[(j:Int)],by go_num,by omega,by rw[Gk.out,xG.out],by simp[Ii.out],mU⟩
      case measure=>simp[intOf];omega
    ·have fI:k=nL:=by omega
     have yJ:dX s.e.prec (v.l af) (v.s af) used []=.ok (iC,a1):=by
      rw[Gk.out,List.drop_eq_nil_of_le (by rw[Mt.out.len];omega)];rfl
     have zv:=zH yJ;clear yJ fI Gk Ii c4;go_upto_region 18 with(at_lookup;refine bE rfl _ _ _ 22 rfl Tryz.underlying132 (.slice none 0 0) rfl rfl alZ.out aE rfl (by decide) _ HFM.out ?_);clear t1 t2 x0 x1 y0 y1;have Gn:=zH Bf.out;clear av3 alZ E5 LQ Ws Jh Bf;go_loopw [86] (fun iv wr=>∃(k:Nat) (v2:Value) (a2:List Int),iv=.int .i64 k∧k≤nM∧fw s.e.cont (v.l aE) (v.s aE) []=fw s.e.cont (v.l aE) ((v.s aE).drop k) a2∧a2.length=k∧wC w wr B gU nP τ (.slice (some ⟨gS,0,none⟩) nS cS) i rows done b1 g5 #[.map (some m1),.map (some m2),.map (some m3),.bool v.risk.neg,.slice ZX X4 Zf,.slice ZY X5 Zg,.string v.seed] sy.name iC v1 v2 a1 a2) (fun iv _=>nM-(intOf iv).toNat)
     case atStart=>exact⟨0,_,[],rfl,Nat.zero_le _,rfl,rfl,Gn.out⟩
     case round=>
      clear Gn;obtain⟨k2,v2,a2,rfl,fM,NM,Pr,hI⟩:=hrel;have jZ:=hI.W.kept;have tF:aD (Dat w B τ) w wr:=jZ.keeps (by simp[One]);have RE:=zH (HRM.out.keep (fun _ h=>h) tF);have Gk:=zH NM;have Ii:=zH Pr;have Bf:=zH hI;clear jZ tF NM Pr hI;by_cases FT:k2<nM
      ·have adj:(k2:Int)<(nM:Int):=by omega
       obtain⟨bM,oM,x,rfl,_,hx,e1⟩:=RE.out.str_at FT;have ajR:(k2:Int)≤(cM:Int):=by have:=RE.out.cap;omega
       have bV:fw s.e.cont (v.l aE) ((v.s aE).drop k2) a2=if fV x s.e.cont 0<0 then .error ⟨2,v.l aE⟩ else fw s.e.cont (v.l aE) ((v.s aE).drop (k2+1)) (a2++[fV x s.e.cont 0]):=by
        rw[bR hx];rfl
       have kC:Below wr.heap.size wr (wr.alloc (.cells #[.string x] 9)):=(Below.refl _ _).alloc (Nat.le_refl _) _;have jz:aK (wr.alloc (.cells #[.string x] 9)) wr.heap.size 9 #[.string x]:=aK.new _ _ _;obtain⟨w6,qk⟩:∃q,wr.alloc (.cells #[.string x] 9)=q:=⟨_,rfl⟩;rw[qk] at kC jz;have hI6:=Bf.out.below kC kT;have jZ:=hI6.W.kept;have tF:aD (Dat w B τ) w w6:=jZ.keeps (by simp[One]);have jm:=HH.out.blk.tag jZ (by rw[HH.out.tb];simp[One]);have c5:w6.cell? ⟨bb,5,none⟩=some (.slice AC nC cC):=jm.cell 5;have hC:RS w6 (fun b=>b<w6.heap.size) AC nC cC s.e.cont:=
        RS.of_raw (HH.out.oC.tag jZ (fun g hg=>by rw[HH.out.tC g hg];simp[One])) rfl HH.out.dC.1 (fun j x y hx hy=>bG.keep (HH.out.dC.2 j x y hx hy) (fun b hb=>Nat.lt_of_lt_of_le hb.2.1 jZ.size) tF) (fun g hg=>Nat.lt_of_lt_of_le (HH.out.oC.lt g hg).2 jZ.size)
       have tB:=Yj hC (fun _ h=>h) wr.heap.size x (jz.cell 0);obtain⟨J,hJ⟩:∃J,fV x s.e.cont 0=J:=⟨_,rfl⟩;rw[hJ] at tB bV;have jI:=zH bV;have CE:=zH tB;have HI6:=zH hI6;have Jc:=zH qk;clear hx bV tB hJ kC jz qk hI6 jZ tF jm hC;go_upto_region 20 with(fail);rw[Jc.out];go_upto_region 21 with(go_at_call 99;refine CE.out.mono ?_;rintro e w7 ⟨rfl,uZ⟩;have HI7:=zH (HI6.out.below uZ kT);clear uZ);have mE:=HI7.out.blk5;have t2:w7.cell? ⟨g5,2,none⟩=some (.map (some m3)):=mE.cell 2;have G3:=HI7.out.W.blkF;have x0:w7.cell? ⟨w.heap.size,0,none⟩=some (.int .i64 0):=G3.cell 0;have x1:w7.cell? ⟨w.heap.size,1,none⟩=some (.int .i64 0):=G3.cell 1;have y0:w7.frozen? ⟨w.heap.size,0,none⟩=false:=G3.frozen 0;have y1:w7.frozen? ⟨w.heap.size,1,none⟩=false:=G3.frozen 1;have E5:=zH (al0.out.tag HI7.out.W.kept (by rw[HD3.out.2.2];simp[One]));have Jh:=zH G3;clear mE G3 c5 e1;by_cases gK:J<0
       ·have av:z=.error ⟨2,v.l aE⟩:=by
         rw[Zv.out];exact KD zv.out (by rw[Gk.out,jI.out,if_pos gK])
        have bm:=zH av;have hnt:(J<0)=True:=eq_true gK;have UQ:decide (J<0)=true:=decide_eq_true gK;clear av gK;go_wp2_with (at_lookup;refine bE rfl _ _ _ 3 rfl Tryz.underlying166 (.int .i64 0) rfl rfl E5.out aE rfl (by decide) _ (ints_at v.ln aE) ?_);refine lq (no:=2) (line:=v.l aE) rfl rfl Jh.out rfl rfl ?_;exact CU HI7.out.W.bel kT 2 _ bm.out
       have lx:=jI.out;rw[if_neg gK] at lx;have xG:=zH lx;have hnf:(J<0)=False:=eq_false gK;have ada:decide (J<0)=false:=decide_eq_false gK;clear lx gK jI x0 x1 y0 y1 t2 Jh E5;have NV:gS<w.heap.size:=(HH.out.oS.lt gS rfl).2;have NX:B≤gS:=(HH.out.oS.lt gS rfl).1;have NW:τ gS=.ss:=HH.out.tS gS rfl;have Xp:=HI7.out;obtain⟨A2,n2,c2,rfl,hn2⟩:=Xp.o2.slice;have mJ:=Xp.W.own.rawCell (i:=i) (List.getElem?_set_self qH.out) (j:=2) (u:=.slice A2 n2 c2) rfl;have s1:w7.cell? ⟨gS,i*3+2,none⟩=some (.slice A2 n2 c2):=mJ.1;have ZK:=zH Xp;have vm:=zH (show w.heap.size<b1∧b1≤w7.heap.size from⟨Nat.lt_trans Xp.h5 Xp.h51,Xp.hb⟩);have alU:=zH Xp.o2;have HBm:=zH Xp.W.bel;have OI:=zH Xp.W.own;clear Xp mJ hn2 HI7;go_wp2_with (at_builtin;refine aF (α:=Int) (w0:=w) (B:=B) (base:=b1) rfl _ _ 84 rfl 8 Tryz.intTy rfl alU.out HBm.out (Nat.le_of_lt (Nat.lt_of_le_of_lt kT vm.out.1)) vm.out.2 [.int .i64 J] J 1 rfl rfl 3 (by simp[Value.oneCell']) (by rw[Ii.out];omega) ?_;intro v4 w4 hown4 fa hg4 hl4;have uR:=yp OI.out (List.getElem?_set_self qH.out) (j:=2) (u:=.slice A2 n2 c2) rfl hg4 (fun e=>by have:=(alU.out.lt gS e).1;have:=vm.out.1;omega);obtain⟨A4,n4,c4,rfl,hn4⟩:=hown4.slice;have q1:w4.cell? ⟨gS,i*3+2,none⟩=some (.slice A2 n2 c2):=uR.1;have q2:w4.frozen? ⟨gS,i*3+2,none⟩=false:=uR.2;have qL:=zH hown4;have HG4:=zH hg4;have Ic:=zH hl4;clear hown4 fa hg4 hl4 hn4 uR);have mU:=ZK.out.app2 kT rfl NV NW NX qH.out qL.out HG4.out Ic.out;go_roundw
       case rel=>exact⟨k2+1,_,a2++[J],by go_num,by omega,by rw[Gk.out,xG.out],by simp[Ii.out],mU⟩
       case measure=>simp[intOf];omega
      ·have fI:k2=nM:=by omega
       have yJ:fw s.e.cont (v.l aE) (v.s aE) []=.ok a2:=by
        rw[Gk.out,List.drop_eq_nil_of_le (by rw[HRM.out.len];omega)];rfl
       have tv:z=fT s.e.prec s.e.cont (s.vals.drop (i+1)) (s.e.styl.drop (i+1)) iC (done++[⟨sy.name,a1,a2⟩]):=by
        rw[Zv.out];exact Qq zv.out yJ
       have Rv:=zH tv;have wL:=HO.out.next qH.out Bf.out;clear yJ tv fI;go_wp2_with fail;go_roundw
       case rel=>exact⟨i+1,iC,_,_,by go_num,by omega,Rv.out,wL⟩
       case measure=>simp[intOf];omega
  ·have ed:i=nV:=by omega
   have av:z=if used.contains false then .error ⟨6,0⟩ else .ok done:=by
    rw[HZI.out,List.drop_eq_nil_of_le (by rw[←HNV.out];omega)];rfl
   have bm:=zH av;have G3:=HO.out.W.blkF;have x0:wr.cell? ⟨w.heap.size,0,none⟩=some (.int .i64 0):=G3.cell 0;have x1:wr.cell? ⟨w.heap.size,1,none⟩=some (.int .i64 0):=G3.cell 1;have y0:wr.frozen? ⟨w.heap.size,0,none⟩=false:=G3.frozen 0;have y1:wr.frozen? ⟨w.heap.size,1,none⟩=false:=G3.frozen 1;have eD:=YV (HO.out.W.usedO.rs (S':=fun _=>True) (fun _ h=>h.elim) (fun _ _ _=>trivial)) false;obtain⟨q,hq⟩:∃q,used.contains false=q:=⟨_,rfl⟩;rw[hq] at eD av;have zy:=zH eD;have iL:=zH av;have Jh:=zH G3;have U2:i=s.e.styl.length:=by rw[ed,HNV.out];exact HL.out
   have afE:=zH U2;clear ed av G3 eD hq bm U2 c4 c5 c6;cases q
   case true=>
    have av:z=.error ⟨6,0⟩:=by rw[iL.out];rfl
    have bm:=zH av;clear av;go_wp2_with (go_at_call 101;refine zy.out.mono ?_;rintro e w' ⟨rfl,rfl⟩);refine lq (no:=6) (line:=0) rfl rfl Jh.out rfl rfl ?_;exact CU HO.out.W.bel kT 6 0 bm.out
   case false=>
    have av:z=.ok done:=by rw[iL.out];rfl
    have bm:=zH av;clear av;go_wp2_with (go_at_call 101;refine zy.out.mono ?_;rintro e w' ⟨rfl,rfl⟩);refine lq (no:=0) (line:=0) rfl rfl Jh.out rfl rfl ?_;exact aei HH.out HO.out afE.out bm.out
def zu (M:Nat) (v:aS):Prop:=∀k xs,v.lst k=some xs→xs.length≤M
theorem zu.s {M:Nat} {v:aS} (h:zu M v) (k:ByteArray):(v.s k).length≤M:=by
 unfold aS.s;cases hl:v.lst k with
 | none=>exact Nat.zero_le _
 | some xs=>exact h k xs hl
theorem Uc (key s:ByteArray) (v:aS):(xd key s v).2.lst=v.lst:=by
 unfold xd
 repeat' split
 all_goals first|rfl|(unfold aS.withRisk;split<;>rfl)
theorem Gz {M:Nat} {kind:ByteArray} {f:ag} {v:aS} (h:zu M v) (hf:f.vals.length≤M):zu M (bo kind f v).2:=by
 unfold bo;split
 ·exact h
 split
 ·exact h
 split
 ·intro k xs hk;have ww:setF v.lst f.key f.vals k=some xs:=hk;unfold setF at ww;split at ww
  ·injection ww with ww;subst ww;exact hf
  ·exact h k xs ww
 split
 ·exact h
 ·intro k xs hk;rw[Uc] at hk;exact h k xs hk
theorem Dp {M:Nat} {kind:ByteArray}:∀{fs:List ag} {v:aS},zu M v→(∀f∈fs,f.vals.length≤M)→zu M (iz kind fs v).2
 | [],v,h,_=>h
 | f::l,v,h,hf=>by
  unfold iz;split
  ·exact Gz h (hf f (by simp))
  ·exact Dp (Gz h (hf f (by simp))) (fun g hg=>hf g (by simp[hg]))
def LZ (M:Nat) (b:cZ):Prop:=b.e.prec.length≤M∧∀v∈b.vals,zu M v
theorem PV {M:Nat} {kind nm:ByteArray} {v:aS} {b:cZ} (h:LZ M b) (hv:zu M v):LZ M (ch kind nm v b):=by
 unfold ch;split
 ·exact h
 split
 ·exact h
 split
 ·exact⟨hv.s _,h.2⟩
 split
 ·exact h
 split
 ·refine⟨h.1,fun x hx=>?_⟩;rcases List.mem_append.1 hx with hx|hx
  ·exact h.2 x hx
  ·simp at hx;subst hx;exact hv
 split
 ·exact h
 split
 ·exact h
 ·exact h
theorem Ox {M:Nat} {x:ap} {b:cZ} (h:LZ M b) (hf:∀f∈x.fields,f.vals.length≤M):LZ M (jk x b).2:=by
 have hz:zu M aS.zero:=fun k xs hk=>by cases hk
 unfold jk;split
 ·exact h
 split
 ·exact h
 split
 ·exact h
 ·exact PV (b:=b.named x.kind x.name) h (Dp hz hf)
theorem Kl {P:Program} {fn:Func} {p q:Tmp} {ty uy:TypeId} (h:fn.results=#[.cell p ty,.cell q uy]) (tmps:Array Value) (w:World) (g1 g2:Nat) (Zc I1:Array Value) (d1 d2:TypeDesc) (hp:tmps.getD p undef=.pointer (some ⟨g1,0,none⟩)) (hq:tmps.getD q undef=.pointer (some ⟨g2,0,none⟩)) (dy:aK w g1 ty Zc) (fM:aK w g2 uy I1) (hu1:P.underlying ty=some d1) (Vb:(match d1 with|.struct _|.array _ _=>true|_=>false)=true) (G1:(P.info? ty).map (·.size)=some Zc.size) (hu2:P.underlying uy=some d2) (hd2:(match d2 with|.struct _|.array _ _=>true|_=>false)=true) (JI:(P.info? uy).map (·.size)=some I1.size) : (results fn tmps).run P w=.ok (.tuple #[.agg Zc,.agg I1]) w:=by
 have hp':tmps[p]?.getD undef=.pointer (some ⟨g1,0,none⟩):=by simpa using hp
 have QB:tmps[q]?.getD undef=.pointer (some ⟨g2,0,none⟩):=by simpa using hq
 simp[results,h,hp',QB,asAddr,run_loadVar_row w g1 ty ty Zc (0,0) d1 dy hu1 Vb G1,run_loadVar_row w g2 uy uy I1 (0,0) d2 fM hu2 hd2 JI]
def uw:Array Value:=#[.string ⟨#[]⟩,.int .i64 0,.int .i64 0,.int .i64 0,.slice none 0 0,.slice none 0 0,.slice none 0 0,.int .i64 0,.int .i64 0,.bool false,.slice none 0 0,.slice none 0 0,.int .i64 0,.string ⟨#[]⟩]
def OB (w:World) (x:am×fc) (e:Ending) (w':World):Prop:=∃cs:List Value,e=.returned (.tuple #[.agg cs.toArray,.agg #[.int .i64 x.2.no,.int .i64 x.2.line]])∧bG.rep w' (bz w w') cs x.1∧Below w.heap.size w w'
theorem pd {w wf:World} {p q:Tmp} {tmps:Array Value} {defers:List Deferred} {g1 g2:Nat} {cs:List Value} {no line:Int} {x:am×fc} {fn:Func} (h:fn.results=#[.cell p 30,.cell q 76]) (hp:tmps.getD p undef=.pointer (some ⟨g1,0,none⟩)) (hq:tmps.getD q undef=.pointer (some ⟨g2,0,none⟩)) (k1:aK wf g1 30 cs.toArray) (k2:aK wf g2 76 #[.int .i64 no,.int .i64 line]) (hlc:cs.length=14) (hb:Below w.heap.size w wf) (hr:bG.rep wf (bz w wf) cs x.1) (hx:x.2=⟨no,line⟩) (hdf:defers=[]) : bodyPost Tryz.prog fn (OB w x) Exit.ret { tmps:=tmps,defers:=defers } wf:=by
 refine bodyPost_ret (Kl h _ _ g1 g2 _ _ _ _ hp hq k1 k2 Tryz.underlying30 rfl (by rw[List.size_toArray,hlc];kernel_rfl) Tryz.underlying76 rfl (by kernel_rfl)) hdf ?_;exact⟨cs,by rw[hx],hr,hb⟩
theorem CH {w w2:World} {g1 g2:Nat} {Zc I1:Array Value} {cs:List Value} {no line:Int} {x:am} {t u:TypeId} (dy:aK w2 g1 t Zc) (fM:aK w2 g2 u I1) (hl1:Zc.size=14) (hl2:I1.size=2) (hlc:cs.length=14) (dA:g1≠g2) (hg1:w.heap.size≤g1) (hg2:w.heap.size≤g2) (hb:Below w.heap.size w w2) {S:Nat→Prop} (hr:bG.rep w2 S cs x) (hS:∀b,S b→bz w w2 b∧b≠g1∧b≠g2) {wf:World} (hw:wf=setAll (setAll w2 g1 0 cs) g2 0 [.int .i64 no,.int .i64 line]) : aK wf g1 t cs.toArray∧aK wf g2 u #[.int .i64 no,.int .i64 line]∧Below w.heap.size w wf∧bG.rep wf (bz w wf) cs x:=by
 subst hw;refine⟨(dy.setAll cs (by rw[hl1,hlc])).farAll dA _ _,(fM.farAll (Ne.symm dA) cs 0).setAll [.int .i64 no,.int .i64 line] hl2,fY (fY hb hg1 _ _) hg2 _ _,?_⟩;refine bG.keep hr (fun b bq=>?_) (((aD.refl _ _).setAll (fun h=>(hS g1 h).2.1 rfl) cs 0).setAll (fun h=>(hS g2 h).2.2 rfl) _ 0);have:=(hS b bq).1;exact⟨this.1,by rw[jt,jt];exact this.2⟩
theorem sg (w:World) (S:Nat→Prop):bG.rep w S uw.toList am.zero:=⟨none,0,0,none,0,0,none,0,0,none,0,0,none,0,0,rfl,RS.nil _ _,RS.nil _ _,RS.nil _ _,RS.nil _ _,RS.nil _ _⟩
end Go.Proofs.YtjlhbfbdcfajfaaGreatDoor
