/- Src4 -/
import Derived.Test.YtjlhbfbdcfajfaaGreatDoorB30
namespace Go.Proofs.YtjlhbfbdcfajfaaGreatDoor
open Go.RowKit
set_option maxRecDepth 20000 in
set_option maxHeartbeats 8000000 in
theorem Lw {B:Nat} {w:World} (htab:EL B w) (hB:B≤w.heap.size) {S:Nat→Prop} {v:Value} {x:ay} (h:SV w S v x) (hS:∀b,S b→b<w.heap.size) (lZ:Fc x) : Calls Tryz.prog 70 #[v] w (gh w (eg x)):=by
 obtain⟨cs,rfl,AX,nX,cX,rfl,nQ⟩:=h;have bd:Below w.heap.size w ((w.alloc (.cells #[.string x.name,.slice AX nX cX,.int .i64 x.method,.int .i64 x.seats,.int .i64 x.ranks,.int .i64 x.digits,.int .i64 x.ties,.int .i64 x.over,.int .i64 x.skip] 95)).alloc (.cells #[.string ⟨#[]⟩,.string ⟨#[]⟩,.slice none 0 0,.int .i64 0] 110)):=((Below.refl _ _).alloc (Nat.le_refl _) _).alloc (by simp) _;have Ss:aK ((w.alloc (.cells #[.string x.name,.slice AX nX cX,.int .i64 x.method,.int .i64 x.seats,.int .i64 x.ranks,.int .i64 x.digits,.int .i64 x.ties,.int .i64 x.over,.int .i64 x.skip] 95)).alloc (.cells #[.string ⟨#[]⟩,.string ⟨#[]⟩,.slice none 0 0,.int .i64 0] 110)) w.heap.size 95 #[.string x.name,.slice AX nX cX,.int .i64 x.method,.int .i64 x.seats,.int .i64 x.ranks,.int .i64 x.digits,.int .i64 x.ties,.int .i64 x.over,.int .i64 x.skip]:=(aK.new _ _ _).alloc _;have CO:aK ((w.alloc (.cells #[.string x.name,.slice AX nX cX,.int .i64 x.method,.int .i64 x.seats,.int .i64 x.ranks,.int .i64 x.digits,.int .i64 x.ties,.int .i64 x.over,.int .i64 x.skip] 95)).alloc (.cells #[.string ⟨#[]⟩,.string ⟨#[]⟩,.slice none 0 0,.int .i64 0] 110)) (w.heap.size+1) 110 #[.string ⟨#[]⟩,.string ⟨#[]⟩,.slice none 0 0,.int .i64 0]:=aK.new' (by simp) _ _;have jF:((w.alloc (.cells #[.string x.name,.slice AX nX cX,.int .i64 x.method,.int .i64 x.seats,.int .i64 x.ranks,.int .i64 x.digits,.int .i64 x.ties,.int .i64 x.over,.int .i64 x.skip] 95)).alloc (.cells #[.string ⟨#[]⟩,.string ⟨#[]⟩,.slice none 0 0,.int .i64 0] 110)).heap.size=w.heap.size+2:=by simp
 obtain⟨w1,bj⟩:∃q,(w.alloc (.cells #[.string x.name,.slice AX nX cX,.int .i64 x.method,.int .i64 x.seats,.int .i64 x.ranks,.int .i64 x.digits,.int .i64 x.ties,.int .i64 x.over,.int .i64 x.skip] 95)).alloc (.cells #[.string ⟨#[]⟩,.string ⟨#[]⟩,.slice none 0 0,.int .i64 0] 110)=q:=⟨_,rfl⟩;rw[bj] at bd Ss CO jF;have dO:=zH bj;have bS:=zH bd;have oh:=zH jF;have ut:=zH Ss;have E7:=zH CO;have tW:=zH (htab.up hB bd);have Ba:=zH (Nat.le_trans hB bd.size);have vW:=zH lZ;have Gi:=zH (nQ.below bd hS);have pQ:Hid (∀b,S b→b<w1.heap.size):=zH fun b h=>Nat.lt_of_lt_of_le (hS b h) bd.size;have Jf:Hid (nX≤1099511627776):=zH (by rw[←nQ.len];exact Nat.le_trans lZ.2.2.2.2.2.2.2 (by omega));clear bj bd Ss CO htab lZ nQ jF;go_enter Tryz.func70,Tryz.ntmps70;go_upto_region 1 with(fail);rw[dO.out];refine cf 15 0 (fun i=>match i with
  | 0=>ΦV (.pointer (some ⟨w.heap.size,0,none⟩))
  | 1=>ΦV (.string x.name)
  | 2=>ΦV (.pointer (some ⟨w.heap.size,2,none⟩))
  | 3=>ΦV (.int .i64 x.method)
  | 4=>ΦV (.string (fJ au x.method))
  | 5=>@ΦS ag _ w1 14 (il au x.method)
  | 6=>ΦV (.pointer (some ⟨w.heap.size,3,none⟩))
  | 7=>ΦV (.int .i64 x.seats)
  | 8=>@ΦS ag _ w1 14 (bZ ax x.seats)
  | 9=>ΦV (.pointer (some ⟨w.heap.size,4,none⟩))
  | 10=>ΦV (.int .i64 x.ranks)
  | 11=>@ΦS ag _ w1 14 (bZ bp x.ranks)
  | 12=>@ΦR ag _ w1 14 12 113 ([il au x.method,bZ ax x.seats,bZ bp x.ranks]) 3
  | 13=>(fun v col w=>∃u,v=.agg #[.string ah,.string x.name,u,.int .i64 0]∧ΦR w1 14 12 113 [il au x.method,bZ ax x.seats,bZ bp x.ranks] 3 u col w)
  | 14=>ΦB w1 14 110 #[.string ⟨#[]⟩,.string ⟨#[]⟩,.slice none 0 0,.int .i64 0]
  | _=>fun _ _ _=>False) (by kernel_rfl) (by kernel_rfl) (by kernel_rfl) (by kernel_rfl) ?_ ?_ ?_
 ·intro i v c1 w1 c2 w2 h hb hc
  match i with
  | 0=>exact h
  | 1=>exact h
  | 2=>exact h
  | 3=>exact h
  | 4=>exact h
  | 5=>exact ΦS.mono h hb hc
  | 6=>exact h
  | 7=>exact h
  | 8=>exact ΦS.mono h hb hc
  | 9=>exact h
  | 10=>exact h
  | 11=>exact ΦS.mono h hb hc
  | 12=>exact ΦR.mono h hb hc
  | 13=>obtain⟨u,e,hu⟩:=h;exact⟨u,e,ΦR.mono hu hb hc⟩
  | 14=>exact ΦB.mono h hb hc
  | _+15=>exact h
 ·intro Q0 i hi a1 col wc aW aH eN ac;have ga:=aH.size
  match i,hi with
  | 0,_=>
   have e1:a1.tmps[1]?=some (.pointer (some ⟨w.heap.size,0,none⟩)):=(aW.2 1 (by kernel_rfl)).trans rfl;clear ac;refine aa rfl rfl (.pointer (some ⟨w.heap.size,0,none⟩)) ?_ (Below.refl _ _) rfl;go_simp
  | 1,_=>
   obtain⟨v4,ev,pv4⟩:=ac 0 (by kernel_rfl);have e4:=ev 4 rfl;clear ev;obtain rfl:v4=_:=pv4;clear ac;have lj:wc.cell? ⟨w.heap.size,0,none⟩=some (.string x.name):=(ut.out.keep aH).cell 0;refine aa rfl rfl (.string x.name) ?_ (Below.refl _ _) rfl;go_simp
  | 2,_=>
   have e1:a1.tmps[1]?=some (.pointer (some ⟨w.heap.size,0,none⟩)):=(aW.2 1 (by kernel_rfl)).trans rfl;clear ac;refine aa rfl rfl (.pointer (some ⟨w.heap.size,2,none⟩)) ?_ (Below.refl _ _) rfl;go_simp
  | 3,_=>
   obtain⟨v6,ev,XX⟩:=ac 2 (by kernel_rfl);have e6:=ev 6 rfl;clear ev;obtain rfl:v6=_:=XX;clear ac;have lj:wc.cell? ⟨w.heap.size,2,none⟩=some (.int .i64 x.method):=(ut.out.keep aH).cell 2;refine aa rfl rfl (.int .i64 x.method) ?_ (Below.refl _ _) rfl;go_simp
  | 4,_=>
   obtain⟨v7,ev,XW⟩:=ac 3 (by kernel_rfl);have e7:=ev 7 rfl;clear ev;obtain rfl:v7=_:=XW;clear ac;refine aM rfl rfl 103 #[.string au,.int .i64 x.method] ?_ (oQ au x.method wc vW.out.1.2) (fun e w2 hr=>ΦV.of_ret hr);go_simp;try rfl
  | 5,_=>
   obtain⟨v8,ev,XU⟩:=ac 4 (by kernel_rfl);have e8:=ev 8 rfl;clear ev;obtain rfl:v8=_:=XU;clear ac;refine aM rfl rfl 72 #[.string au,.string (fJ au x.method)] ?_ (nf au _ wc) (fun e w2 hr=>ΦS.of_ret hr ga (by decide));go_simp;try rfl
  | 6,_=>
   have e1:a1.tmps[1]?=some (.pointer (some ⟨w.heap.size,0,none⟩)):=(aW.2 1 (by kernel_rfl)).trans rfl;clear ac;refine aa rfl rfl (.pointer (some ⟨w.heap.size,3,none⟩)) ?_ (Below.refl _ _) rfl;go_simp
  | 7,_=>
   obtain⟨Bg,ev,Dt⟩:=ac 6 (by kernel_rfl);have tG:=ev 10 rfl;clear ev;obtain rfl:Bg=_:=Dt;clear ac;have lj:wc.cell? ⟨w.heap.size,3,none⟩=some (.int .i64 x.seats):=(ut.out.keep aH).cell 3;refine aa rfl rfl (.int .i64 x.seats) ?_ (Below.refl _ _) rfl;go_simp
  | 8,_=>
   obtain⟨zQ,ev,Ds⟩:=ac 7 (by kernel_rfl);have rZ:=ev 11 rfl;clear ev;obtain rfl:zQ=_:=Ds;clear ac;refine aM rfl rfl 68 #[.string ax,.int .i64 x.seats] ?_ (lz (tW.out.up Ba.out aH) (Nat.le_trans Ba.out ga) ax x.seats vW.out.2.1.1 vW.out.2.1.2) (fun e w2 hr=>ΦS.of_ret hr ga (by decide));go_simp;try rfl
  | 9,_=>
   have e1:a1.tmps[1]?=some (.pointer (some ⟨w.heap.size,0,none⟩)):=(aW.2 1 (by kernel_rfl)).trans rfl;clear ac;refine aa rfl rfl (.pointer (some ⟨w.heap.size,4,none⟩)) ?_ (Below.refl _ _) rfl;go_simp
  | 10,_=>
   obtain⟨CF,ev,Is⟩:=ac 9 (by kernel_rfl);have vK:=ev 13 rfl;clear ev;obtain rfl:CF=_:=Is;clear ac;have lj:wc.cell? ⟨w.heap.size,4,none⟩=some (.int .i64 x.ranks):=(ut.out.keep aH).cell 4;refine aa rfl rfl (.int .i64 x.ranks) ?_ (Below.refl _ _) rfl;go_simp
  | 11,_=>
   obtain⟨dw,ev,TT⟩:=ac 10 (by kernel_rfl);have e14:=ev 14 rfl;clear ev;obtain rfl:dw=_:=TT;clear ac;refine aM rfl rfl 68 #[.string bp,.int .i64 x.ranks] ?_ (lz (tW.out.up Ba.out aH) (Nat.le_trans Ba.out ga) bp x.ranks vW.out.2.2.1.1 vW.out.2.2.1.2) (fun e w2 hr=>ΦS.of_ret hr ga (by decide));go_simp;try rfl
  | 12,_=>
   obtain⟨v9,ev,TG⟩:=ac 5 (by kernel_rfl);have e9:=ev 9 rfl;clear ev;obtain⟨cs9,rfl,A9,n9,c9,rfl,h9⟩:=TG;obtain⟨zO,ev,Dr⟩:=ac 8 (by kernel_rfl);have vL:=ev 12 rfl;clear ev;obtain⟨Rk,rfl,Z2,n12,SI,rfl,h12⟩:=Dr;obtain⟨dE,ev,TS⟩:=ac 11 (by kernel_rfl);have e15:=ev 15 rfl;clear ev;obtain⟨Lt,rfl,Xw,n15,c15,rfl,h15⟩:=TS;clear ac;have hf:Flat wc (RD w1 14 col wc) [.string au,.slice A9 n9 c9,.int .i64 0,.string ax,.slice Z2 n12 SI,.int .i64 0,.string bp,.slice Xw n15 c15,.int .i64 0] ([il au x.method,bZ ax x.seats,bZ bp x.ranks]):=Flat.cons (ds:=[_,_,_]) ⟨A9,n9,c9,rfl,h9⟩ (Flat.cons (ds:=[_,_,_]) ⟨Z2,n12,SI,rfl,h12⟩ (Flat.cons (ds:=[_,_,_]) ⟨Xw,n15,c15,rfl,h15⟩ (Flat.nil)));refine aa rfl rfl (.slice (some ⟨wc.heap.size,0,none⟩) 3 3) (w':=wc.alloc (.cells #[.string au,.slice A9 n9 c9,.int .i64 0,.string ax,.slice Z2 n12 SI,.int .i64 0,.string bp,.slice Xw n15 c15,.int .i64 0] 113)) ?_ (aT _ _) (ΦR.built (cs:=[.string au,.slice A9 n9 c9,.int .i64 0,.string ax,.slice Z2 n12 SI,.int .i64 0,.string bp,.slice Xw n15 c15,.int .i64 0]) (t:=113) hf (fun b hb=>eN b hb.1 hb.2.1) rfl (by simp[Value.oneCell']) ga);go_simp;try rfl
  | 13,_=>
   obtain⟨v5,ev,TH⟩:=ac 1 (by kernel_rfl);have e5:=ev 5 rfl;clear ev;obtain rfl:v5=_:=TH;obtain⟨dQ,ev,Qd⟩:=ac 12 (by kernel_rfl);have e16:=ev 16 rfl;clear ev;have P16:=Qd;obtain⟨g16,Ls,rfl,hg16,El,FW,FZ,hn16,IK⟩:=Qd;have h16:=tg hg16 El (show 12≠14 by decide) FW FZ hn16 (by decide);clear ac;refine aa rfl rfl (.agg #[.string ah,.string x.name,.slice (some ⟨g16,0,none⟩) 3 3,.int .i64 0]) ?_ (Below.refl _ _) ⟨_,rfl,ΦR.mono P16 (Below.refl _ _) fun b hb=>fE hb⟩;go_simp;try rfl
  | 14,_=>
   clear ac;refine aa rfl rfl (.pointer (some ⟨wc.heap.size,0,none⟩)) (w':=wc.alloc (.cells #[.string ⟨#[]⟩,.string ⟨#[]⟩,.slice none 0 0,.int .i64 0] 110)) ?_ (aT _ _) (ΦB.made ga);go_simp;try rfl
  | k+15,hk=>exact absurd hk (by omega)
 intro Jz col wc hl0 aH hΦ;obtain⟨v0,J4,rfl,hl1⟩:=aj hl0;clear hl0;obtain⟨v1,JY,rfl,hl2⟩:=aj hl1;clear hl1;obtain⟨v2,L2,rfl,hl3⟩:=aj hl2;clear hl2;obtain⟨v3,L1,rfl,hl4⟩:=aj hl3;clear hl3;obtain⟨v4,OX,rfl,hl5⟩:=aj hl4;clear hl4;obtain⟨v5,PS,rfl,hl6⟩:=aj hl5;clear hl5;obtain⟨v6,Td,rfl,hl7⟩:=aj hl6;clear hl6;obtain⟨v7,Tc,rfl,hl8⟩:=aj hl7;clear hl7;obtain⟨v8,Tb,rfl,hl9⟩:=aj hl8;clear hl8;obtain⟨v9,Ij,rfl,hl10⟩:=aj hl9;clear hl9;obtain⟨Bg,J3,rfl,hl11⟩:=aj hl10;clear hl10;obtain⟨zQ,J2,rfl,hl12⟩:=aj hl11;clear hl11;obtain⟨zO,J1,rfl,hl13⟩:=aj hl12;clear hl12;obtain⟨CF,J0,rfl,hl14⟩:=aj hl13;clear hl13;obtain⟨dw,JZ,rfl,hl15⟩:=aj hl14;clear hl14;obtain rfl:=List.length_eq_zero_iff.1 hl15;clear hl15;have p0:=hΦ 0 _ rfl;obtain rfl:v0=_:=p0;have p1:=hΦ 1 _ rfl;obtain rfl:v1=_:=p1;have p2:=hΦ 2 _ rfl;obtain rfl:v2=_:=p2;have p3:=hΦ 3 _ rfl;obtain rfl:v3=_:=p3;have p4:=hΦ 4 _ rfl;obtain rfl:v4=_:=p4;have p5:=hΦ 5 _ rfl;obtain⟨Ey,rfl,A5,n5,c5,rfl,h5⟩:=p5;have p6:=hΦ 6 _ rfl;obtain rfl:v6=_:=p6;have p7:=hΦ 7 _ rfl;obtain rfl:v7=_:=p7;have p8:=hΦ 8 _ rfl;obtain⟨VU,rfl,A8,n8,c8,rfl,h8⟩:=p8;have p9:=hΦ 9 _ rfl;obtain rfl:v9=_:=p9;have DG:=hΦ 10 _ rfl;obtain rfl:Bg=_:=DG;have DF:=hΦ 11 _ rfl;obtain⟨akU,rfl,A11,n11,c11,rfl,h11⟩:=DF;have DD:=hΦ 12 _ rfl;obtain⟨g12,Rk,rfl,hg12,Vg,pk,NZ,hn12,jx⟩:=DD;have DC:=hΦ 13 _ rfl;obtain⟨u13,rfl,sU,Lu,rfl,hg13,Bz,qO,K8,hn13,QE⟩:=DC;have p14:=hΦ 14 _ rfl;obtain⟨qK,rfl,hg14,G2,om⟩:=p14;clear hΦ;simp only[List.take_succ_cons,List.take_zero,iD,gd,Act.put,List.setIfInBounds_toArray,List.set_cons_zero,List.set_cons_succ];refine bB rfl rfl fun K hK=>?_;refine wp_store_row 110 _ _ rfl qK #[.string ah,.string x.name,.slice (some ⟨sU,0,none⟩) 3 3,.int .i64 0] rfl rfl _ _ om (by kernel_rfl) rfl (by simp[Value.oneCell']) (hK _ _ ?_);clear hK K;have db:=Q9 aH hg14 G2 om (by decide) hg13 Bz qO K8 hn13 (by decide) (kind:=ah) (name:=x.name);obtain⟨w2,jY⟩:∃q,wc.setRow qK #[.string ah,.string x.name,.slice (some ⟨sU,0,none⟩) 3 3,.int .i64 0]=q:=⟨_,rfl⟩;rw[jY] at db;rw[jY];have jI:=zH db;have RJ:=zH (ut.out.keep db.bel);have alw:=zH (tW.out.up Ba.out db.bel);have Cx:=zH (Nat.le_trans Ba.out db.bel.size);have avc:=zH (Gi.out.below db.bel pQ.out);have xR:w2.cell? ⟨w.heap.size,2,none⟩=some (.int .i64 x.method):=RJ.out.cell 2;clear db jY h5 h8 h11 Vg hg12 pk NZ hn12 jx hg14 G2 om hg13 Bz qO K8 hn13 QE aH;have afc:Hid (∀b,S b→b<w2.heap.size):=zH fun b h=>Nat.lt_of_lt_of_le (pQ.out b h) jI.out.bel.size;by_cases hme:x.method=2
 ·have hmb:(x.method==2)=true:=by rw[beq_iff_eq];exact hme
  have HME:Hid ((if x.method=2 then[bZ ao x.digits] else[])=[bZ ao x.digits]):=zH (if_pos hme);have ew:Hid (([il au x.method,bZ ax x.seats,bZ bp x.ranks]:List ag).length=3):=zH rfl;clear hme;go_wp2_with fail;refine cf 6 2 (fun i=>match i with
   | 0=>ΦV (.pointer (some ⟨qK,2,none⟩))
   | 1=>ΦV (.slice (some ⟨sU,0,none⟩) 3 3)
   | 2=>ΦV (.pointer (some ⟨w.heap.size,5,none⟩))
   | 3=>ΦV (.int .i64 x.digits)
   | 4=>@ΦS ag _ w2 99 (bZ ao x.digits)
   | 5=>@ΦR ag _ w2 99 5 113 ([bZ ao x.digits]) 1
   | _=>fun _ _ _=>False) (by kernel_rfl) (by kernel_rfl) (by kernel_rfl) (by kernel_rfl) ?_ ?_ ?_
  ·intro i v c1 w1 c2 w2 h hb hc
   match i with
   | 0=>exact h
   | 1=>exact h
   | 2=>exact h
   | 3=>exact h
   | 4=>exact ΦS.mono h hb hc
   | 5=>exact ΦR.mono h hb hc
   | _+6=>exact h
  ·intro Q0 i hi a1 col wc aW aH eN ac;have ga:=aH.size
   match i,hi with
   | 0,_=>
    have e3:a1.tmps[3]?=some (.pointer (some ⟨qK,0,none⟩)):=(aW.2 3 (by kernel_rfl)).trans rfl;clear ac;refine aa rfl rfl (.pointer (some ⟨qK,2,none⟩)) ?_ (Below.refl _ _) rfl;go_simp
   | 1,_=>
    obtain⟨v21,ev,TO⟩:=ac 0 (by kernel_rfl);have e21:=ev 21 rfl;clear ev;obtain rfl:v21=_:=TO;clear ac;have lj:wc.cell? ⟨qK,2,none⟩=some (.slice (some ⟨sU,0,none⟩) 3 3):=(jI.out.blk.keep aH).cell 2;refine aa rfl rfl (.slice (some ⟨sU,0,none⟩) 3 3) ?_ (Below.refl _ _) rfl;go_simp
   | 2,_=>
    have e1:a1.tmps[1]?=some (.pointer (some ⟨w.heap.size,0,none⟩)):=(aW.2 1 (by kernel_rfl)).trans rfl;clear ac;refine aa rfl rfl (.pointer (some ⟨w.heap.size,5,none⟩)) ?_ (Below.refl _ _) rfl;go_simp
   | 3,_=>
    obtain⟨Tl,ev,TN⟩:=ac 2 (by kernel_rfl);have e23:=ev 23 rfl;clear ev;obtain rfl:Tl=_:=TN;clear ac;have lj:wc.cell? ⟨w.heap.size,5,none⟩=some (.int .i64 x.digits):=(RJ.out.keep aH).cell 5;refine aa rfl rfl (.int .i64 x.digits) ?_ (Below.refl _ _) rfl;go_simp
   | 4,_=>
    obtain⟨v24,ev,TM⟩:=ac 3 (by kernel_rfl);have e24:=ev 24 rfl;clear ev;obtain rfl:v24=_:=TM;clear ac;refine aM rfl rfl 68 #[.string ao,.int .i64 x.digits] ?_ (lz (alw.out.up Cx.out aH) (Nat.le_trans Cx.out ga) ao x.digits vW.out.2.2.2.1.1 vW.out.2.2.2.1.2) (fun e w2 hr=>ΦS.of_ret hr ga (by decide));go_simp;try rfl
   | 5,_=>
    obtain⟨v25,ev,TL⟩:=ac 4 (by kernel_rfl);have e25:=ev 25 rfl;clear ev;obtain⟨auj,rfl,A25,n25,c25,rfl,h25⟩:=TL;clear ac;have hf:Flat wc (RD w2 99 col wc) [.string ao,.slice A25 n25 c25,.int .i64 0] ([bZ ao x.digits]):=Flat.cons (ds:=[_,_,_]) ⟨A25,n25,c25,rfl,h25⟩ (Flat.nil);refine aa rfl rfl (.slice (some ⟨wc.heap.size,0,none⟩) 1 1) (w':=wc.alloc (.cells #[.string ao,.slice A25 n25 c25,.int .i64 0] 113)) ?_ (aT _ _) (ΦR.built (cs:=[.string ao,.slice A25 n25 c25,.int .i64 0]) (t:=113) hf (fun b hb=>eN b hb.1 hb.2.1) rfl (by simp[Value.oneCell']) ga);go_simp;try rfl
  intro Jz col wc hl0 aH hΦ;obtain⟨v0,J4,rfl,hl1⟩:=aj hl0;clear hl0;obtain⟨v1,JY,rfl,hl2⟩:=aj hl1;clear hl1;obtain⟨v2,L2,rfl,hl3⟩:=aj hl2;clear hl2;obtain⟨v3,L1,rfl,hl4⟩:=aj hl3;clear hl3;obtain⟨v4,OX,rfl,hl5⟩:=aj hl4;clear hl4;obtain⟨v5,PS,rfl,hl6⟩:=aj hl5;clear hl5;obtain rfl:=List.length_eq_zero_iff.1 hl6;clear hl6;have p0:=hΦ 0 _ rfl;obtain rfl:v0=_:=p0;have p1:=hΦ 1 _ rfl;obtain rfl:v1=_:=p1;have p2:=hΦ 2 _ rfl;obtain rfl:v2=_:=p2;have p3:=hΦ 3 _ rfl;obtain rfl:v3=_:=p3;have p4:=hΦ 4 _ rfl;obtain⟨cs4,rfl,A4,n4,c4,rfl,h4⟩:=p4;have p5:=hΦ 5 _ rfl;obtain⟨g5,Ey,rfl,hg5,ar9,mx,hf5,hn5,NI⟩:=p5;clear hΦ;simp only[List.take_succ_cons,List.take_zero,iD,gd,Act.put,List.setIfInBounds_toArray,List.set_cons_zero,List.set_cons_succ];have ji:=(jI.out.grow aH);refine bB rfl rfl fun K hK=>?_;refine cw (α:=ag) _ _ 108 rfl 48 Tryz.fldTy rfl ji.own ⟨g5,0,none⟩ 1 1 Ey [bZ ao x.digits] rfl (by rfl) (hf5.keep (fun b hb=>ji.apart_of jI.out hb.1.1 hb.1.2.1) (aD.refl _ _)) (iu mx) NI (by rw[ew.out];simp) (Nat.le_trans ji.base (Nat.le_refl _)) fun v9 w9 q1 q2 q3=>hK _ _ ?_;clear hK K;obtain⟨A8,n8,c8,rfl,hn9⟩:=q1.slice;have uq:=zH q1;have vn:=zH q2;have Cz:=zH q3;have ko:=ji.blk.grown q2 (fun e=>ji.ne e.symm);have y2:w9.cell? ⟨qK,2,none⟩=some (.slice (some ⟨sU,0,none⟩) 3 3):=ko.cell 2;have y3:w9.frozen? ⟨qK,2,none⟩=false:=ko.frozen 2;have ER:=zH ji;have oz:=zH aH;clear q1 q2 q3 hn9 ko ji aH hg5 ar9 mx hf5 hn5 NI;refine eH (w':=w9) rfl rfl (.pointer (some ⟨qK,2,none⟩)) ?_ ?_
  ·go_simp
  try simp only[Act.put,List.getElem_toArray,List.getElem_cons_zero,List.getElem_cons_succ,List.setIfInBounds_toArray,List.set_cons_zero,List.set_cons_succ]
  refine bB rfl rfl fun K hK=>?_;go_simp;refine hK _ _ ?_;clear hK K;have db:=ER.out.next uq.out vn.out Cz.out;obtain⟨w3,jY⟩:∃q,w9.setCell ⟨qK,2,none⟩ (.slice A8 n8 c8)=q:=⟨_,rfl⟩;rw[jY] at db;rw[jY];have xG:=zH db;have Cq:=db.bel;clear db jY y2 y3 h4;have ZI:=zH (ut.out.keep Cq);have azc:=zH (tW.out.up Ba.out Cq);have alv:=zH (Nat.le_trans Ba.out Cq.size);have avb:=zH (Gi.out.below Cq pQ.out);have afc:Hid (∀b,S b→b<w3.heap.size):=zH fun b h=>Nat.lt_of_lt_of_le (pQ.out b h) Cq.size;have ew:Hid (([il au x.method,bZ ax x.seats,bZ bp x.ranks]++[bZ ao x.digits]:List ag).length=4):=zH rfl;clear Cq xR;go_wp2_with fail;refine cf 19 2 (fun i=>match i with
   | 0=>ΦV (.pointer (some ⟨qK,2,none⟩))
   | 1=>ΦV (.slice A8 n8 c8)
   | 2=>ΦV (.pointer (some ⟨w.heap.size,6,none⟩))
   | 3=>ΦV (.int .i64 x.ties)
   | 4=>ΦV (.string (fJ bH x.ties))
   | 5=>@ΦS ag _ w3 99 (il bH x.ties)
   | 6=>ΦV (.pointer (some ⟨w.heap.size,7,none⟩))
   | 7=>ΦV (.int .i64 x.over)
   | 8=>ΦV (.string (fJ ar x.over))
   | 9=>@ΦS ag _ w3 99 (il ar x.over)
   | 10=>ΦV (.pointer (some ⟨w.heap.size,8,none⟩))
   | 11=>ΦV (.int .i64 x.skip)
   | 12=>ΦV (.string (fJ bI x.skip))
   | 13=>@ΦS ag _ w3 99 (il bI x.skip)
   | 14=>ΦV (.pointer (some ⟨w.heap.size,1,none⟩))
   | 15=>ΦV (.slice AX nX cX)
   | 16=>@ΦL ByteArray _ w3 99 (x.cands)
   | 17=>@ΦS ag _ w3 99 ((⟨bU,x.cands,0⟩:ag))
   | 18=>@ΦR ag _ w3 99 18 113 ([il bH x.ties,il ar x.over,il bI x.skip,⟨bU,x.cands,0⟩]) 4
   | _=>fun _ _ _=>False) (by kernel_rfl) (by kernel_rfl) (by kernel_rfl) (by kernel_rfl) ?_ ?_ ?_
  ·intro i v c1 w1 c2 w2 h hb hc
   match i with
   | 0=>exact h
   | 1=>exact h
   | 2=>exact h
   | 3=>exact h
   | 4=>exact h
   | 5=>exact ΦS.mono h hb hc
   | 6=>exact h
   | 7=>exact h
   | 8=>exact h
   | 9=>exact ΦS.mono h hb hc
   | 10=>exact h
   | 11=>exact h
   | 12=>exact h
   | 13=>exact ΦS.mono h hb hc
   | 14=>exact h
   | 15=>exact h
   | 16=>exact ΦL.mono h hb hc
   | 17=>exact ΦS.mono h hb hc
   | 18=>exact ΦR.mono h hb hc
   | _+19=>exact h
  ·intro Q0 i hi a1 col wc aW aH eN ac;have ga:=aH.size
   match i,hi with
   | 0,_=>
    have e3:a1.tmps[3]?=some (.pointer (some ⟨qK,0,none⟩)):=(aW.2 3 (by kernel_rfl)).trans rfl;clear ac;refine aa rfl rfl (.pointer (some ⟨qK,2,none⟩)) ?_ (Below.refl _ _) rfl;go_simp
   | 1,_=>
    obtain⟨WX,ev,Nf⟩:=ac 0 (by kernel_rfl);have e29:=ev 29 rfl;clear ev;obtain rfl:WX=_:=Nf;clear ac;have lj:wc.cell? ⟨qK,2,none⟩=some (.slice A8 n8 c8):=(xG.out.blk.keep aH).cell 2;refine aa rfl rfl (.slice A8 n8 c8) ?_ (Below.refl _ _) rfl;go_simp
   | 2,_=>
    have e1:a1.tmps[1]?=some (.pointer (some ⟨w.heap.size,0,none⟩)):=(aW.2 1 (by kernel_rfl)).trans rfl;clear ac;refine aa rfl rfl (.pointer (some ⟨w.heap.size,6,none⟩)) ?_ (Below.refl _ _) rfl;go_simp
   | 3,_=>
    obtain⟨v31,ev,Nc⟩:=ac 2 (by kernel_rfl);have e31:=ev 31 rfl;clear ev;obtain rfl:v31=_:=Nc;clear ac;have lj:wc.cell? ⟨w.heap.size,6,none⟩=some (.int .i64 x.ties):=(ZI.out.keep aH).cell 6;refine aa rfl rfl (.int .i64 x.ties) ?_ (Below.refl _ _) rfl;go_simp
   | 4,_=>
    obtain⟨Z7,ev,Nb⟩:=ac 3 (by kernel_rfl);have e32:=ev 32 rfl;clear ev;obtain rfl:Z7=_:=Nb;clear ac;refine aM rfl rfl 103 #[.string bH,.int .i64 x.ties] ?_ (oQ bH x.ties wc vW.out.2.2.2.2.1.2) (fun e w2 hr=>ΦV.of_ret hr);go_simp;try rfl
   | 5,_=>
    obtain⟨v33,ev,Na⟩:=ac 4 (by kernel_rfl);have e33:=ev 33 rfl;clear ev;obtain rfl:v33=_:=Na;clear ac;refine aM rfl rfl 72 #[.string bH,.string (fJ bH x.ties)] ?_ (nf bH _ wc) (fun e w2 hr=>ΦS.of_ret hr ga (by decide));go_simp;try rfl
   | 6,_=>
    have e1:a1.tmps[1]?=some (.pointer (some ⟨w.heap.size,0,none⟩)):=(aW.2 1 (by kernel_rfl)).trans rfl;clear ac;refine aa rfl rfl (.pointer (some ⟨w.heap.size,7,none⟩)) ?_ (Below.refl _ _) rfl;go_simp
   | 7,_=>
    obtain⟨v35,ev,M9⟩:=ac 6 (by kernel_rfl);have e35:=ev 35 rfl;clear ev;obtain rfl:v35=_:=M9;clear ac;have lj:wc.cell? ⟨w.heap.size,7,none⟩=some (.int .i64 x.over):=(ZI.out.keep aH).cell 7;refine aa rfl rfl (.int .i64 x.over) ?_ (Below.refl _ _) rfl;go_simp
   | 8,_=>
    obtain⟨v36,ev,Ko⟩:=ac 7 (by kernel_rfl);have e36:=ev 36 rfl;clear ev;obtain rfl:v36=_:=Ko;clear ac;refine aM rfl rfl 103 #[.string ar,.int .i64 x.over] ?_ (oQ ar x.over wc vW.out.2.2.2.2.2.1.2) (fun e w2 hr=>ΦV.of_ret hr);go_simp;try rfl
   | 9,_=>
    obtain⟨v37,ev,M8⟩:=ac 8 (by kernel_rfl);have e37:=ev 37 rfl;clear ev;obtain rfl:v37=_:=M8;clear ac;refine aM rfl rfl 72 #[.string ar,.string (fJ ar x.over)] ?_ (nf ar _ wc) (fun e w2 hr=>ΦS.of_ret hr ga (by decide));go_simp;try rfl
   | 10,_=>
    have e1:a1.tmps[1]?=some (.pointer (some ⟨w.heap.size,0,none⟩)):=(aW.2 1 (by kernel_rfl)).trans rfl;clear ac;refine aa rfl rfl (.pointer (some ⟨w.heap.size,8,none⟩)) ?_ (Below.refl _ _) rfl;go_simp
   | 11,_=>
    obtain⟨v39,ev,M6⟩:=ac 10 (by kernel_rfl);have e39:=ev 39 rfl;clear ev;obtain rfl:v39=_:=M6;clear ac;have lj:wc.cell? ⟨w.heap.size,8,none⟩=some (.int .i64 x.skip):=(ZI.out.keep aH).cell 8;refine aa rfl rfl (.int .i64 x.skip) ?_ (Below.refl _ _) rfl;go_simp
   | 12,_=>
    obtain⟨v40,ev,TK⟩:=ac 11 (by kernel_rfl);have e40:=ev 40 rfl;clear ev;obtain rfl:v40=_:=TK;clear ac;refine aM rfl rfl 103 #[.string bI,.int .i64 x.skip] ?_ (oQ bI x.skip wc vW.out.2.2.2.2.2.2.1.2) (fun e w2 hr=>ΦV.of_ret hr);go_simp;try rfl
   | 13,_=>
    obtain⟨v41,ev,TJ⟩:=ac 12 (by kernel_rfl);have e41:=ev 41 rfl;clear ev;obtain rfl:v41=_:=TJ;clear ac;refine aM rfl rfl 72 #[.string bI,.string (fJ bI x.skip)] ?_ (nf bI _ wc) (fun e w2 hr=>ΦS.of_ret hr ga (by decide));go_simp;try rfl
   | 14,_=>
    have e1:a1.tmps[1]?=some (.pointer (some ⟨w.heap.size,0,none⟩)):=(aW.2 1 (by kernel_rfl)).trans rfl;clear ac;refine aa rfl rfl (.pointer (some ⟨w.heap.size,1,none⟩)) ?_ (Below.refl _ _) rfl;go_simp
   | 15,_=>
    obtain⟨v43,ev,acg⟩:=ac 14 (by kernel_rfl);have e43:=ev 43 rfl;clear ev;obtain rfl:v43=_:=acg;clear ac;have lj:wc.cell? ⟨w.heap.size,1,none⟩=some (.slice AX nX cX):=(ZI.out.keep aH).cell 1;refine aa rfl rfl (.slice AX nX cX) ?_ (Below.refl _ _) rfl;go_simp
   | 16,_=>
    obtain⟨v44,ev,acf⟩:=ac 15 (by kernel_rfl);have e44:=ev 44 rfl;clear ev;obtain rfl:v44=_:=acf;clear ac;refine aM rfl rfl 69 #[.slice AX nX cX] ?_ (vQ (avb.out.below aH afc.out) Jf.out) (fun e w2 hr=>ΦL.of_clone hr ga (by decide));go_simp;try rfl
   | 17,_=>
    obtain⟨v45,ev,TI⟩:=ac 16 (by kernel_rfl);have e45:=ev 45 rfl;clear ev;obtain⟨A45,n45,c45,rfl,h45⟩:=TI;clear ac;refine aa rfl rfl (.agg #[.string bU,.slice A45 n45 c45,.int .i64 0]) ?_ (Below.refl _ _) (ΦS.mono (x:=(⟨bU,x.cands,0⟩:ag)) (c1:=col) (w1:=wc) (⟨_,rfl,A45,n45,c45,rfl,h45⟩) (Below.refl _ _) fun b hb=>fE hb);go_simp;try rfl
   | 18,_=>
    obtain⟨v34,ev,Kp⟩:=ac 5 (by kernel_rfl);have e34:=ev 34 rfl;clear ev;obtain⟨akQ,rfl,Z0,n34,Zi,rfl,h34⟩:=Kp;obtain⟨v38,ev,M7⟩:=ac 9 (by kernel_rfl);have e38:=ev 38 rfl;clear ev;obtain⟨akP,rfl,S4,n38,SH,rfl,h38⟩:=M7;obtain⟨v42,ev,ach⟩:=ac 13 (by kernel_rfl);have e42:=ev 42 rfl;clear ev;obtain⟨akO,rfl,SZ,n42,SG,rfl,h42⟩:=ach;obtain⟨v46,ev,ace⟩:=ac 17 (by kernel_rfl);have e46:=ev 46 rfl;clear ev;obtain⟨aug,rfl,ZZ,n46,Zh,rfl,h46⟩:=ace;clear ac;have hf:Flat wc (RD w3 99 col wc) [.string bH,.slice Z0 n34 Zi,.int .i64 0,.string ar,.slice S4 n38 SH,.int .i64 0,.string bI,.slice SZ n42 SG,.int .i64 0,.string bU,.slice ZZ n46 Zh,.int .i64 0] ([il bH x.ties,il ar x.over,il bI x.skip,⟨bU,x.cands,0⟩]):=Flat.cons (ds:=[_,_,_]) ⟨Z0,n34,Zi,rfl,h34⟩ (Flat.cons (ds:=[_,_,_]) ⟨S4,n38,SH,rfl,h38⟩ (Flat.cons (ds:=[_,_,_]) ⟨SZ,n42,SG,rfl,h42⟩ (Flat.cons (ds:=[_,_,_]) ⟨ZZ,n46,Zh,rfl,h46⟩ (Flat.nil))));refine aa rfl rfl (.slice (some ⟨wc.heap.size,0,none⟩) 4 4) (w':=wc.alloc (.cells #[.string bH,.slice Z0 n34 Zi,.int .i64 0,.string ar,.slice S4 n38 SH,.int .i64 0,.string bI,.slice SZ n42 SG,.int .i64 0,.string bU,.slice ZZ n46 Zh,.int .i64 0] 113)) ?_ (aT _ _) (ΦR.built (cs:=[.string bH,.slice Z0 n34 Zi,.int .i64 0,.string ar,.slice S4 n38 SH,.int .i64 0,.string bI,.slice SZ n42 SG,.int .i64 0,.string bU,.slice ZZ n46 Zh,.int .i64 0]) (t:=113) hf (fun b hb=>eN b hb.1 hb.2.1) rfl (by simp[Value.oneCell']) ga);go_simp;try rfl
   | k+19,hk=>exact absurd hk (by omega)
  intro Jz col wc hl0 aH hΦ;obtain⟨v0,J4,rfl,hl1⟩:=aj hl0;clear hl0;obtain⟨v1,JY,rfl,hl2⟩:=aj hl1;clear hl1;obtain⟨v2,L2,rfl,hl3⟩:=aj hl2;clear hl2;obtain⟨v3,L1,rfl,hl4⟩:=aj hl3;clear hl3;obtain⟨v4,OX,rfl,hl5⟩:=aj hl4;clear hl4;obtain⟨v5,PS,rfl,hl6⟩:=aj hl5;clear hl5;obtain⟨v6,Td,rfl,hl7⟩:=aj hl6;clear hl6;obtain⟨v7,Tc,rfl,hl8⟩:=aj hl7;clear hl7;obtain⟨v8,Tb,rfl,hl9⟩:=aj hl8;clear hl8;obtain⟨v9,Ij,rfl,hl10⟩:=aj hl9;clear hl9;obtain⟨Bg,J3,rfl,hl11⟩:=aj hl10;clear hl10;obtain⟨zQ,J2,rfl,hl12⟩:=aj hl11;clear hl11;obtain⟨zO,J1,rfl,hl13⟩:=aj hl12;clear hl12;obtain⟨CF,J0,rfl,hl14⟩:=aj hl13;clear hl13;obtain⟨dw,JZ,rfl,hl15⟩:=aj hl14;clear hl14;obtain⟨dE,MF,rfl,hl16⟩:=aj hl15;clear hl15;obtain⟨dQ,Te,rfl,hl17⟩:=aj hl16;clear hl16;obtain⟨OY,XB,rfl,hl18⟩:=aj hl17;clear hl17;obtain⟨Sb,Xz,rfl,hl19⟩:=aj hl18;clear hl18;obtain rfl:=List.length_eq_zero_iff.1 hl19;clear hl19;have p0:=hΦ 0 _ rfl;obtain rfl:v0=_:=p0;have p1:=hΦ 1 _ rfl;obtain rfl:v1=_:=p1;have p2:=hΦ 2 _ rfl;obtain rfl:v2=_:=p2;have p3:=hΦ 3 _ rfl;obtain rfl:v3=_:=p3;have p4:=hΦ 4 _ rfl;obtain rfl:v4=_:=p4;have p5:=hΦ 5 _ rfl;obtain⟨Ey,rfl,A5,n5,c5,rfl,h5⟩:=p5;have p6:=hΦ 6 _ rfl;obtain rfl:v6=_:=p6;have p7:=hΦ 7 _ rfl;obtain rfl:v7=_:=p7;have p8:=hΦ 8 _ rfl;obtain rfl:v8=_:=p8;have p9:=hΦ 9 _ rfl;obtain⟨cs9,rfl,A9,n9,c9,rfl,h9⟩:=p9;have DG:=hΦ 10 _ rfl;obtain rfl:Bg=_:=DG;have DF:=hΦ 11 _ rfl;obtain rfl:zQ=_:=DF;have DD:=hΦ 12 _ rfl;obtain rfl:zO=_:=DD;have DC:=hΦ 13 _ rfl;obtain⟨Lu,rfl,L0,n13,Hs,rfl,h13⟩:=DC;have p14:=hΦ 14 _ rfl;obtain rfl:dw=_:=p14;have Ng:=hΦ 15 _ rfl;obtain rfl:dE=_:=Ng;have TY:=hΦ 16 _ rfl;obtain⟨A16,n16,c16,rfl,h16⟩:=TY;have X1:=hΦ 17 _ rfl;obtain⟨aeR,rfl,A17,n17,c17,rfl,h17⟩:=X1;have X0:=hΦ 18 _ rfl;obtain⟨g18,Zb,rfl,hg18,Ve,U0,U8,hn18,UP⟩:=X0;clear hΦ;simp only[List.take_succ_cons,List.take_zero,iD,gd,Act.put,List.setIfInBounds_toArray,List.set_cons_zero,List.set_cons_succ];have ji:=(xG.out.grow aH);refine bB rfl rfl fun K hK=>?_;refine cw (α:=ag) _ _ 108 rfl 48 Tryz.fldTy rfl ji.own ⟨g18,0,none⟩ 4 4 Zb [il bH x.ties,il ar x.over,il bI x.skip,⟨bU,x.cands,0⟩] rfl (by rfl) (U8.keep (fun b hb=>ji.apart_of xG.out hb.1.1 hb.1.2.1) (aD.refl _ _)) (iu U0) UP (by rw[ew.out];simp) (Nat.le_trans ji.base (Nat.le_refl _)) fun v9 w9 q1 q2 q3=>hK _ _ ?_;clear hK K;obtain⟨A9,n9,c9,rfl,hn9⟩:=q1.slice;have uq:=zH q1;have vn:=zH q2;have Cz:=zH q3;have ko:=ji.blk.grown q2 (fun e=>ji.ne e.symm);have y2:w9.cell? ⟨qK,2,none⟩=some (.slice A8 n8 c8):=ko.cell 2;have y3:w9.frozen? ⟨qK,2,none⟩=false:=ko.frozen 2;have ER:=zH ji;have oz:=zH aH;clear q1 q2 q3 hn9 ko ji aH hg18 Ve U0 U8 hn18 UP;refine eH (w':=w9) rfl rfl (.pointer (some ⟨qK,2,none⟩)) ?_ ?_
  ·go_simp
  try simp only[Act.put,List.getElem_toArray,List.getElem_cons_zero,List.getElem_cons_succ,List.setIfInBounds_toArray,List.set_cons_zero,List.set_cons_succ]
  refine bB rfl rfl fun K hK=>?_;go_simp;refine hK _ _ ?_;clear hK K;have db:=ER.out.next uq.out vn.out Cz.out;obtain⟨w4,jY⟩:∃q,w9.setCell ⟨qK,2,none⟩ (.slice A9 n9 c9)=q:=⟨_,rfl⟩;rw[jY] at db;rw[jY];have jK:=bS.out.trans (db.bel.mono bS.out.size);have oj:=E7.out.keep db.bel;have d0:w4.cell? ⟨qK,0,none⟩=some (.string ah):=db.blk.cell 0;have d1:w4.cell? ⟨qK,1,none⟩=some (.string x.name):=db.blk.cell 1;have d2:w4.cell? ⟨qK,2,none⟩=some (.slice A9 n9 c9):=db.blk.cell 2;have d3:w4.cell? ⟨qK,3,none⟩=some (.int .i64 0):=db.blk.cell 3;have z0:w4.cell? ⟨w.heap.size+1,0,none⟩=some (.string ⟨#[]⟩):=oj.cell 0;have z1:w4.cell? ⟨w.heap.size+1,1,none⟩=some (.string ⟨#[]⟩):=oj.cell 1;have z2:w4.cell? ⟨w.heap.size+1,2,none⟩=some (.slice none 0 0):=oj.cell 2;have z3:w4.cell? ⟨w.heap.size+1,3,none⟩=some (.int .i64 0):=oj.cell 3;have zf0:w4.frozen? ⟨w.heap.size+1,0,none⟩=false:=oj.frozen 0;have zf1:w4.frozen? ⟨w.heap.size+1,1,none⟩=false:=oj.frozen 1;have zf2:w4.frozen? ⟨w.heap.size+1,2,none⟩=false:=oj.frozen 2;have zf3:w4.frozen? ⟨w.heap.size+1,3,none⟩=false:=oj.frozen 3;have sP:=zH db;have afx:=zH oj;have kq:=zH jK;clear db jY y2 y3 oj jK h5 h9 h13 h16 h17;go_wp2_with fail;refine bC (x:=eg x) (S:=fun b=>w1.heap.size≤b∧b<w4.heap.size) (cs:=[.string ah,.string x.name,.slice A9 n9 c9,.int .i64 0]) rfl rfl (Nat.le_succ _) afx.out rfl Tryz.underlying110 rfl (by kernel_rfl) ⟨_,_,_,rfl,?_⟩ (fun b hb=>⟨⟨Nat.le_trans bS.out.size hb.1,hb.2⟩,by have:=oh.out;have:=hb.1;omega⟩) kq.out rfl id;have mJ:=sP.out.rs;unfold eg;rw[HME.out];exact mJ
 ·have hmb:(x.method==2)=false:=by rw[beq_eq_false_iff_ne];exact hme
  have HME:Hid ((if x.method=2 then[bZ ao x.digits] else[])=([]:List ag)):=zH (if_neg hme);have ew:Hid (([il au x.method,bZ ax x.seats,bZ bp x.ranks]:List ag).length=3):=zH rfl;clear hme;go_wp2_with fail;refine cf 19 2 (fun i=>match i with
   | 0=>ΦV (.pointer (some ⟨qK,2,none⟩))
   | 1=>ΦV (.slice (some ⟨sU,0,none⟩) 3 3)
   | 2=>ΦV (.pointer (some ⟨w.heap.size,6,none⟩))
   | 3=>ΦV (.int .i64 x.ties)
   | 4=>ΦV (.string (fJ bH x.ties))
   | 5=>@ΦS ag _ w2 99 (il bH x.ties)
   | 6=>ΦV (.pointer (some ⟨w.heap.size,7,none⟩))
   | 7=>ΦV (.int .i64 x.over)
   | 8=>ΦV (.string (fJ ar x.over))
   | 9=>@ΦS ag _ w2 99 (il ar x.over)
   | 10=>ΦV (.pointer (some ⟨w.heap.size,8,none⟩))
   | 11=>ΦV (.int .i64 x.skip)
   | 12=>ΦV (.string (fJ bI x.skip))
   | 13=>@ΦS ag _ w2 99 (il bI x.skip)
   | 14=>ΦV (.pointer (some ⟨w.heap.size,1,none⟩))
   | 15=>ΦV (.slice AX nX cX)
   | 16=>@ΦL ByteArray _ w2 99 (x.cands)
   | 17=>@ΦS ag _ w2 99 ((⟨bU,x.cands,0⟩:ag))
   | 18=>@ΦR ag _ w2 99 18 113 ([il bH x.ties,il ar x.over,il bI x.skip,⟨bU,x.cands,0⟩]) 4
   | _=>fun _ _ _=>False) (by kernel_rfl) (by kernel_rfl) (by kernel_rfl) (by kernel_rfl) ?_ ?_ ?_
  ·intro i v c1 w1 c2 w2 h hb hc
   match i with
   | 0=>exact h
   | 1=>exact h
   | 2=>exact h
   | 3=>exact h
   | 4=>exact h
   | 5=>exact ΦS.mono h hb hc
   | 6=>exact h
   | 7=>exact h
   | 8=>exact h
   | 9=>exact ΦS.mono h hb hc
   | 10=>exact h
   | 11=>exact h
   | 12=>exact h
   | 13=>exact ΦS.mono h hb hc
   | 14=>exact h
   | 15=>exact h
   | 16=>exact ΦL.mono h hb hc
   | 17=>exact ΦS.mono h hb hc
   | 18=>exact ΦR.mono h hb hc
   | _+19=>exact h
  ·intro Q0 i hi a1 col wc aW aH eN ac;have ga:=aH.size
   match i,hi with
   | 0,_=>
    have e3:a1.tmps[3]?=some (.pointer (some ⟨qK,0,none⟩)):=(aW.2 3 (by kernel_rfl)).trans rfl;clear ac;refine aa rfl rfl (.pointer (some ⟨qK,2,none⟩)) ?_ (Below.refl _ _) rfl;go_simp
   | 1,_=>
    obtain⟨WX,ev,Nf⟩:=ac 0 (by kernel_rfl);have e29:=ev 29 rfl;clear ev;obtain rfl:WX=_:=Nf;clear ac;have lj:wc.cell? ⟨qK,2,none⟩=some (.slice (some ⟨sU,0,none⟩) 3 3):=(jI.out.blk.keep aH).cell 2;refine aa rfl rfl (.slice (some ⟨sU,0,none⟩) 3 3) ?_ (Below.refl _ _) rfl;go_simp
   | 2,_=>
    have e1:a1.tmps[1]?=some (.pointer (some ⟨w.heap.size,0,none⟩)):=(aW.2 1 (by kernel_rfl)).trans rfl;clear ac;refine aa rfl rfl (.pointer (some ⟨w.heap.size,6,none⟩)) ?_ (Below.refl _ _) rfl;go_simp
   | 3,_=>
    obtain⟨v31,ev,Nc⟩:=ac 2 (by kernel_rfl);have e31:=ev 31 rfl;clear ev;obtain rfl:v31=_:=Nc;clear ac;have lj:wc.cell? ⟨w.heap.size,6,none⟩=some (.int .i64 x.ties):=(RJ.out.keep aH).cell 6;refine aa rfl rfl (.int .i64 x.ties) ?_ (Below.refl _ _) rfl;go_simp
   | 4,_=>
    obtain⟨Z7,ev,Nb⟩:=ac 3 (by kernel_rfl);have e32:=ev 32 rfl;clear ev;obtain rfl:Z7=_:=Nb;clear ac;refine aM rfl rfl 103 #[.string bH,.int .i64 x.ties] ?_ (oQ bH x.ties wc vW.out.2.2.2.2.1.2) (fun e w2 hr=>ΦV.of_ret hr);go_simp;try rfl
   | 5,_=>
    obtain⟨v33,ev,Na⟩:=ac 4 (by kernel_rfl);have e33:=ev 33 rfl;clear ev;obtain rfl:v33=_:=Na;clear ac;refine aM rfl rfl 72 #[.string bH,.string (fJ bH x.ties)] ?_ (nf bH _ wc) (fun e w2 hr=>ΦS.of_ret hr ga (by decide));go_simp;try rfl
   | 6,_=>
    have e1:a1.tmps[1]?=some (.pointer (some ⟨w.heap.size,0,none⟩)):=(aW.2 1 (by kernel_rfl)).trans rfl;clear ac;refine aa rfl rfl (.pointer (some ⟨w.heap.size,7,none⟩)) ?_ (Below.refl _ _) rfl;go_simp
   | 7,_=>
    obtain⟨v35,ev,M9⟩:=ac 6 (by kernel_rfl);have e35:=ev 35 rfl;clear ev;obtain rfl:v35=_:=M9;clear ac;have lj:wc.cell? ⟨w.heap.size,7,none⟩=some (.int .i64 x.over):=(RJ.out.keep aH).cell 7;refine aa rfl rfl (.int .i64 x.over) ?_ (Below.refl _ _) rfl;go_simp
   | 8,_=>
    obtain⟨v36,ev,Ko⟩:=ac 7 (by kernel_rfl);have e36:=ev 36 rfl;clear ev;obtain rfl:v36=_:=Ko;clear ac;refine aM rfl rfl 103 #[.string ar,.int .i64 x.over] ?_ (oQ ar x.over wc vW.out.2.2.2.2.2.1.2) (fun e w2 hr=>ΦV.of_ret hr);go_simp;try rfl
   | 9,_=>
    obtain⟨v37,ev,M8⟩:=ac 8 (by kernel_rfl);have e37:=ev 37 rfl;clear ev;obtain rfl:v37=_:=M8;clear ac;refine aM rfl rfl 72 #[.string ar,.string (fJ ar x.over)] ?_ (nf ar _ wc) (fun e w2 hr=>ΦS.of_ret hr ga (by decide));go_simp;try rfl
   | 10,_=>
    have e1:a1.tmps[1]?=some (.pointer (some ⟨w.heap.size,0,none⟩)):=(aW.2 1 (by kernel_rfl)).trans rfl;clear ac;refine aa rfl rfl (.pointer (some ⟨w.heap.size,8,none⟩)) ?_ (Below.refl _ _) rfl;go_simp
   | 11,_=>
    obtain⟨v39,ev,M6⟩:=ac 10 (by kernel_rfl);have e39:=ev 39 rfl;clear ev;obtain rfl:v39=_:=M6;clear ac;have lj:wc.cell? ⟨w.heap.size,8,none⟩=some (.int .i64 x.skip):=(RJ.out.keep aH).cell 8;refine aa rfl rfl (.int .i64 x.skip) ?_ (Below.refl _ _) rfl;go_simp
   | 12,_=>
    obtain⟨v40,ev,TK⟩:=ac 11 (by kernel_rfl);have e40:=ev 40 rfl;clear ev;obtain rfl:v40=_:=TK;clear ac;refine aM rfl rfl 103 #[.string bI,.int .i64 x.skip] ?_ (oQ bI x.skip wc vW.out.2.2.2.2.2.2.1.2) (fun e w2 hr=>ΦV.of_ret hr);go_simp;try rfl
   | 13,_=>
    obtain⟨v41,ev,TJ⟩:=ac 12 (by kernel_rfl);have e41:=ev 41 rfl;clear ev;obtain rfl:v41=_:=TJ;clear ac;refine aM rfl rfl 72 #[.string bI,.string (fJ bI x.skip)] ?_ (nf bI _ wc) (fun e w2 hr=>ΦS.of_ret hr ga (by decide));go_simp;try rfl
   | 14,_=>
    have e1:a1.tmps[1]?=some (.pointer (some ⟨w.heap.size,0,none⟩)):=(aW.2 1 (by kernel_rfl)).trans rfl;clear ac;refine aa rfl rfl (.pointer (some ⟨w.heap.size,1,none⟩)) ?_ (Below.refl _ _) rfl;go_simp
   | 15,_=>
    obtain⟨v43,ev,acg⟩:=ac 14 (by kernel_rfl);have e43:=ev 43 rfl;clear ev;obtain rfl:v43=_:=acg;clear ac;have lj:wc.cell? ⟨w.heap.size,1,none⟩=some (.slice AX nX cX):=(RJ.out.keep aH).cell 1;refine aa rfl rfl (.slice AX nX cX) ?_ (Below.refl _ _) rfl;go_simp
   | 16,_=>
    obtain⟨v44,ev,acf⟩:=ac 15 (by kernel_rfl);have e44:=ev 44 rfl;clear ev;obtain rfl:v44=_:=acf;clear ac;refine aM rfl rfl 69 #[.slice AX nX cX] ?_ (vQ (avc.out.below aH afc.out) Jf.out) (fun e w2 hr=>ΦL.of_clone hr ga (by decide));go_simp;try rfl
   | 17,_=>
    obtain⟨v45,ev,TI⟩:=ac 16 (by kernel_rfl);have e45:=ev 45 rfl;clear ev;obtain⟨A45,n45,c45,rfl,h45⟩:=TI;clear ac;refine aa rfl rfl (.agg #[.string bU,.slice A45 n45 c45,.int .i64 0]) ?_ (Below.refl _ _) (ΦS.mono (x:=(⟨bU,x.cands,0⟩:ag)) (c1:=col) (w1:=wc) (⟨_,rfl,A45,n45,c45,rfl,h45⟩) (Below.refl _ _) fun b hb=>fE hb);go_simp;try rfl
   | 18,_=>
    obtain⟨v34,ev,Kp⟩:=ac 5 (by kernel_rfl);have e34:=ev 34 rfl;clear ev;obtain⟨akQ,rfl,Z0,n34,Zi,rfl,h34⟩:=Kp;obtain⟨v38,ev,M7⟩:=ac 9 (by kernel_rfl);have e38:=ev 38 rfl;clear ev;obtain⟨akP,rfl,S4,n38,SH,rfl,h38⟩:=M7;obtain⟨v42,ev,ach⟩:=ac 13 (by kernel_rfl);have e42:=ev 42 rfl;clear ev;obtain⟨akO,rfl,SZ,n42,SG,rfl,h42⟩:=ach;obtain⟨v46,ev,ace⟩:=ac 17 (by kernel_rfl);have e46:=ev 46 rfl;clear ev;obtain⟨aug,rfl,ZZ,n46,Zh,rfl,h46⟩:=ace;clear ac;have hf:Flat wc (RD w2 99 col wc) [.string bH,.slice Z0 n34 Zi,.int .i64 0,.string ar,.slice S4 n38 SH,.int .i64 0,.string bI,.slice SZ n42 SG,.int .i64 0,.string bU,.slice ZZ n46 Zh,.int .i64 0] ([il bH x.ties,il ar x.over,il bI x.skip,⟨bU,x.cands,0⟩]):=Flat.cons (ds:=[_,_,_]) ⟨Z0,n34,Zi,rfl,h34⟩ (Flat.cons (ds:=[_,_,_]) ⟨S4,n38,SH,rfl,h38⟩ (Flat.cons (ds:=[_,_,_]) ⟨SZ,n42,SG,rfl,h42⟩ (Flat.cons (ds:=[_,_,_]) ⟨ZZ,n46,Zh,rfl,h46⟩ (Flat.nil))));refine aa rfl rfl (.slice (some ⟨wc.heap.size,0,none⟩) 4 4) (w':=wc.alloc (.cells #[.string bH,.slice Z0 n34 Zi,.int .i64 0,.string ar,.slice S4 n38 SH,.int .i64 0,.string bI,.slice SZ n42 SG,.int .i64 0,.string bU,.slice ZZ n46 Zh,.int .i64 0] 113)) ?_ (aT _ _) (ΦR.built (cs:=[.string bH,.slice Z0 n34 Zi,.int .i64 0,.string ar,.slice S4 n38 SH,.int .i64 0,.string bI,.slice SZ n42 SG,.int .i64 0,.string bU,.slice ZZ n46 Zh,.int .i64 0]) (t:=113) hf (fun b hb=>eN b hb.1 hb.2.1) rfl (by simp[Value.oneCell']) ga);go_simp;try rfl
   | k+19,hk=>exact absurd hk (by omega)
  intro Jz col wc hl0 aH hΦ;obtain⟨v0,J4,rfl,hl1⟩:=aj hl0;clear hl0;obtain⟨v1,JY,rfl,hl2⟩:=aj hl1;clear hl1;obtain⟨v2,L2,rfl,hl3⟩:=aj hl2;clear hl2;obtain⟨v3,L1,rfl,hl4⟩:=aj hl3;clear hl3;obtain⟨v4,OX,rfl,hl5⟩:=aj hl4;clear hl4;obtain⟨v5,PS,rfl,hl6⟩:=aj hl5;clear hl5;obtain⟨v6,Td,rfl,hl7⟩:=aj hl6;clear hl6;obtain⟨v7,Tc,rfl,hl8⟩:=aj hl7;clear hl7;obtain⟨v8,Tb,rfl,hl9⟩:=aj hl8;clear hl8;obtain⟨v9,Ij,rfl,hl10⟩:=aj hl9;clear hl9;obtain⟨Bg,J3,rfl,hl11⟩:=aj hl10;clear hl10;obtain⟨zQ,J2,rfl,hl12⟩:=aj hl11;clear hl11;obtain⟨zO,J1,rfl,hl13⟩:=aj hl12;clear hl12;obtain⟨CF,J0,rfl,hl14⟩:=aj hl13;clear hl13;obtain⟨dw,JZ,rfl,hl15⟩:=aj hl14;clear hl14;obtain⟨dE,MF,rfl,hl16⟩:=aj hl15;clear hl15;obtain⟨dQ,Te,rfl,hl17⟩:=aj hl16;clear hl16;obtain⟨OY,XB,rfl,hl18⟩:=aj hl17;clear hl17;obtain⟨Sb,Xz,rfl,hl19⟩:=aj hl18;clear hl18;obtain rfl:=List.length_eq_zero_iff.1 hl19;clear hl19;have p0:=hΦ 0 _ rfl;obtain rfl:v0=_:=p0;have p1:=hΦ 1 _ rfl;obtain rfl:v1=_:=p1;have p2:=hΦ 2 _ rfl;obtain rfl:v2=_:=p2;have p3:=hΦ 3 _ rfl;obtain rfl:v3=_:=p3;have p4:=hΦ 4 _ rfl;obtain rfl:v4=_:=p4;have p5:=hΦ 5 _ rfl;obtain⟨Ey,rfl,A5,n5,c5,rfl,h5⟩:=p5;have p6:=hΦ 6 _ rfl;obtain rfl:v6=_:=p6;have p7:=hΦ 7 _ rfl;obtain rfl:v7=_:=p7;have p8:=hΦ 8 _ rfl;obtain rfl:v8=_:=p8;have p9:=hΦ 9 _ rfl;obtain⟨cs9,rfl,A9,n9,c9,rfl,h9⟩:=p9;have DG:=hΦ 10 _ rfl;obtain rfl:Bg=_:=DG;have DF:=hΦ 11 _ rfl;obtain rfl:zQ=_:=DF;have DD:=hΦ 12 _ rfl;obtain rfl:zO=_:=DD;have DC:=hΦ 13 _ rfl;obtain⟨Lu,rfl,L0,n13,Hs,rfl,h13⟩:=DC;have p14:=hΦ 14 _ rfl;obtain rfl:dw=_:=p14;have Ng:=hΦ 15 _ rfl;obtain rfl:dE=_:=Ng;have TY:=hΦ 16 _ rfl;obtain⟨A16,n16,c16,rfl,h16⟩:=TY;have X1:=hΦ 17 _ rfl;obtain⟨aeR,rfl,A17,n17,c17,rfl,h17⟩:=X1;have X0:=hΦ 18 _ rfl;obtain⟨g18,Zb,rfl,hg18,Ve,U0,U8,hn18,UP⟩:=X0;clear hΦ;simp only[List.take_succ_cons,List.take_zero,iD,gd,Act.put,List.setIfInBounds_toArray,List.set_cons_zero,List.set_cons_succ];have ji:=(jI.out.grow aH);refine bB rfl rfl fun K hK=>?_;refine cw (α:=ag) _ _ 108 rfl 48 Tryz.fldTy rfl ji.own ⟨g18,0,none⟩ 4 4 Zb [il bH x.ties,il ar x.over,il bI x.skip,⟨bU,x.cands,0⟩] rfl (by rfl) (U8.keep (fun b hb=>ji.apart_of jI.out hb.1.1 hb.1.2.1) (aD.refl _ _)) (iu U0) UP (by rw[ew.out];simp) (Nat.le_trans ji.base (Nat.le_refl _)) fun v9 w9 q1 q2 q3=>hK _ _ ?_;clear hK K;obtain⟨A9,n9,c9,rfl,hn9⟩:=q1.slice;have uq:=zH q1;have vn:=zH q2;have Cz:=zH q3;have ko:=ji.blk.grown q2 (fun e=>ji.ne e.symm);have y2:w9.cell? ⟨qK,2,none⟩=some (.slice (some ⟨sU,0,none⟩) 3 3):=ko.cell 2;have y3:w9.frozen? ⟨qK,2,none⟩=false:=ko.frozen 2;have ER:=zH ji;have oz:=zH aH;clear q1 q2 q3 hn9 ko ji aH hg18 Ve U0 U8 hn18 UP;refine eH (w':=w9) rfl rfl (.pointer (some ⟨qK,2,none⟩)) ?_ ?_
  ·go_simp
  try simp only[Act.put,List.getElem_toArray,List.getElem_cons_zero,List.getElem_cons_succ,List.setIfInBounds_toArray,List.set_cons_zero,List.set_cons_succ]
  refine bB rfl rfl fun K hK=>?_;go_simp;refine hK _ _ ?_;clear hK K;have db:=ER.out.next uq.out vn.out Cz.out;obtain⟨w4,jY⟩:∃q,w9.setCell ⟨qK,2,none⟩ (.slice A9 n9 c9)=q:=⟨_,rfl⟩;rw[jY] at db;rw[jY];have jK:=bS.out.trans (db.bel.mono bS.out.size);have oj:=E7.out.keep db.bel;have d0:w4.cell? ⟨qK,0,none⟩=some (.string ah):=db.blk.cell 0;have d1:w4.cell? ⟨qK,1,none⟩=some (.string x.name):=db.blk.cell 1;have d2:w4.cell? ⟨qK,2,none⟩=some (.slice A9 n9 c9):=db.blk.cell 2;have d3:w4.cell? ⟨qK,3,none⟩=some (.int .i64 0):=db.blk.cell 3;have z0:w4.cell? ⟨w.heap.size+1,0,none⟩=some (.string ⟨#[]⟩):=oj.cell 0;have z1:w4.cell? ⟨w.heap.size+1,1,none⟩=some (.string ⟨#[]⟩):=oj.cell 1;have z2:w4.cell? ⟨w.heap.size+1,2,none⟩=some (.slice none 0 0):=oj.cell 2;have z3:w4.cell? ⟨w.heap.size+1,3,none⟩=some (.int .i64 0):=oj.cell 3;have zf0:w4.frozen? ⟨w.heap.size+1,0,none⟩=false:=oj.frozen 0;have zf1:w4.frozen? ⟨w.heap.size+1,1,none⟩=false:=oj.frozen 1;have zf2:w4.frozen? ⟨w.heap.size+1,2,none⟩=false:=oj.frozen 2;have zf3:w4.frozen? ⟨w.heap.size+1,3,none⟩=false:=oj.frozen 3;have sP:=zH db;have afx:=zH oj;have kq:=zH jK;clear db jY y2 y3 oj jK h5 h9 h13 h16 h17;go_wp2_with fail;refine bC (x:=eg x) (S:=fun b=>w1.heap.size≤b∧b<w4.heap.size) (cs:=[.string ah,.string x.name,.slice A9 n9 c9,.int .i64 0]) rfl rfl (Nat.le_succ _) afx.out rfl Tryz.underlying110 rfl (by kernel_rfl) ⟨_,_,_,rfl,?_⟩ (fun b hb=>⟨⟨Nat.le_trans bS.out.size hb.1,hb.2⟩,by have:=oh.out;have:=hb.1;omega⟩) kq.out rfl id;have mJ:=sP.out.rs;unfold eg;rw[HME.out];exact mJ
end Go.Proofs.YtjlhbfbdcfajfaaGreatDoor
