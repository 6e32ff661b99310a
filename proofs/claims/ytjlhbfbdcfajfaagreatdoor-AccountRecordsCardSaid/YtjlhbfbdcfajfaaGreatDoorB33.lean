/- Src5 -/
import Derived.Test.YtjlhbfbdcfajfaaGreatDoorB32
namespace Go.Proofs.YtjlhbfbdcfajfaaGreatDoor
open Go.RowKit
structure og (e:am):Prop where
 dots:Mq e.dots
 blank:Mq e.blank
 marked:Mq e.marked
 scan:Mq e.scan
 batch:Mq e.batch
 cell:Mq e.cell
 conts:∀x∈e.cont,Fc x
 styls:∀x∈e.styl,x.prec.length≤274877906944∧x.cont.length≤274877906944
 lc:e.cont.length≤34359738368
 ls:e.styl.length≤34359738367
 lp:e.prec.length≤274877906944
 short:e.risk.short 67108864
set_option maxRecDepth 20000 in
set_option maxHeartbeats 16000000 in
theorem MR {B:Nat} {w:World} (htab:EL B w) (hB:B≤w.heap.size) {S:Nat→Prop} {v:Value} {e:am} (h:SV w S v e) (hS:∀b,S b→b<w.heap.size) (lZ:og e) : Calls Tryz.prog 42 #[v] w (gh w (mC e)):=by
 obtain⟨cs,rfl,AP,nP,cP,AC,nC,cC,AS,nS,cS,AN,nN,cN,AD,nD,cD,rfl,QA,yI,mJ,UK,FQ⟩:=h;have bd:Below w.heap.size w ((w.alloc (.cells #[.string e.title,.int .i64 e.dots,.int .i64 e.blank,.int .i64 e.marked,.slice AP nP cP,.slice AC nC cC,.slice AS nS cS,.int .i64 e.scan,.int .i64 e.batch,.bool e.risk.neg,.slice AN nN cN,.slice AD nD cD,.int .i64 e.cell,.string e.seed] 30)).alloc (.cells #[.string ⟨#[]⟩,.slice none 0 0] 81)):=((Below.refl _ _).alloc (Nat.le_refl _) _).alloc (by simp) _;have Ss:aK ((w.alloc (.cells #[.string e.title,.int .i64 e.dots,.int .i64 e.blank,.int .i64 e.marked,.slice AP nP cP,.slice AC nC cC,.slice AS nS cS,.int .i64 e.scan,.int .i64 e.batch,.bool e.risk.neg,.slice AN nN cN,.slice AD nD cD,.int .i64 e.cell,.string e.seed] 30)).alloc (.cells #[.string ⟨#[]⟩,.slice none 0 0] 81)) w.heap.size 30 #[.string e.title,.int .i64 e.dots,.int .i64 e.blank,.int .i64 e.marked,.slice AP nP cP,.slice AC nC cC,.slice AS nS cS,.int .i64 e.scan,.int .i64 e.batch,.bool e.risk.neg,.slice AN nN cN,.slice AD nD cD,.int .i64 e.cell,.string e.seed]:=(aK.new _ _ _).alloc _;have CO:aK ((w.alloc (.cells #[.string e.title,.int .i64 e.dots,.int .i64 e.blank,.int .i64 e.marked,.slice AP nP cP,.slice AC nC cC,.slice AS nS cS,.int .i64 e.scan,.int .i64 e.batch,.bool e.risk.neg,.slice AN nN cN,.slice AD nD cD,.int .i64 e.cell,.string e.seed] 30)).alloc (.cells #[.string ⟨#[]⟩,.slice none 0 0] 81)) (w.heap.size+1) 81 #[.string ⟨#[]⟩,.slice none 0 0]:=aK.new' (by simp) _ _;have jF:((w.alloc (.cells #[.string e.title,.int .i64 e.dots,.int .i64 e.blank,.int .i64 e.marked,.slice AP nP cP,.slice AC nC cC,.slice AS nS cS,.int .i64 e.scan,.int .i64 e.batch,.bool e.risk.neg,.slice AN nN cN,.slice AD nD cD,.int .i64 e.cell,.string e.seed] 30)).alloc (.cells #[.string ⟨#[]⟩,.slice none 0 0] 81)).heap.size=w.heap.size+2:=by simp
 obtain⟨w1,bj⟩:∃q,(w.alloc (.cells #[.string e.title,.int .i64 e.dots,.int .i64 e.blank,.int .i64 e.marked,.slice AP nP cP,.slice AC nC cC,.slice AS nS cS,.int .i64 e.scan,.int .i64 e.batch,.bool e.risk.neg,.slice AN nN cN,.slice AD nD cD,.int .i64 e.cell,.string e.seed] 30)).alloc (.cells #[.string ⟨#[]⟩,.slice none 0 0] 81)=q:=⟨_,rfl⟩;rw[bj] at bd Ss CO jF;have dO:=zH bj;have bS:=zH bd;have oh:=zH jF;have ut:=zH Ss;have E7:=zH CO;have tW:=zH (htab.up hB bd);have Ba:=zH (Nat.le_trans hB bd.size);have vW:=zH lZ;have HRP:=zH (QA.below bd hS);have Bb:=zH (yI.below bd hS);have H8:=zH (mJ.below bd hS);have HRN:=zH (UK.below bd hS);have RG:=zH (FQ.below bd hS);have pQ:Hid (∀b,S b→b<w1.heap.size):=zH fun b h=>Nat.lt_of_lt_of_le (hS b h) bd.size;have HNP:Hid (nP≤1099511627776):=zH (by rw[←QA.len];exact Nat.le_trans lZ.lp (by omega));have JO:=zH yI.len;have C5:=zH mJ.len;have hmC:nC≤34359738368:=by rw[←yI.len];exact lZ.lc
 have hmS:nS≤34359738367:=by rw[←mJ.len];exact lZ.ls
 show Calls _ _ #[.agg #[.string e.title,.int .i64 e.dots,.int .i64 e.blank,.int .i64 e.marked,.slice AP nP cP,.slice AC nC cC,.slice AS nS cS,.int .i64 e.scan,.int .i64 e.batch,.bool e.risk.neg,.slice AN nN cN,.slice AD nD cD,.int .i64 e.cell,.string e.seed]] w _;clear bj bd Ss CO htab lZ QA yI mJ UK FQ jF;go_enter Tryz.func42,Tryz.ntmps42;go_upto_region 1 with(fail);rw[dO.out];refine cf 30 0 (fun i=>match i with
  | 0=>ΦV (.pointer (some ⟨w.heap.size,0,none⟩))
  | 1=>ΦV (.string e.title)
  | 2=>ΦV (.pointer (some ⟨w.heap.size,1,none⟩))
  | 3=>ΦV (.int .i64 e.dots)
  | 4=>@ΦS ag _ w1 29 (bZ bD e.dots)
  | 5=>ΦV (.pointer (some ⟨w.heap.size,2,none⟩))
  | 6=>ΦV (.int .i64 e.blank)
  | 7=>@ΦS ag _ w1 29 (bZ aO e.blank)
  | 8=>ΦV (.pointer (some ⟨w.heap.size,3,none⟩))
  | 9=>ΦV (.int .i64 e.marked)
  | 10=>@ΦS ag _ w1 29 (bZ az e.marked)
  | 11=>@ΦR ag _ w1 29 11 113 ([bZ bD e.dots,bZ aO e.blank,bZ az e.marked]) 3
  | 12=>@ΦS ap _ w1 29 ((⟨aB,⟨#[]⟩,[bZ bD e.dots,bZ aO e.blank,bZ az e.marked],0⟩:ap))
  | 13=>ΦV (.pointer (some ⟨w.heap.size,7,none⟩))
  | 14=>ΦV (.int .i64 e.scan)
  | 15=>@ΦS ag _ w1 29 (bZ bc e.scan)
  | 16=>ΦV (.pointer (some ⟨w.heap.size,8,none⟩))
  | 17=>ΦV (.int .i64 e.batch)
  | 18=>@ΦS ag _ w1 29 (bZ be e.batch)
  | 19=>@ΦR ag _ w1 29 19 113 ([bZ bc e.scan,bZ be e.batch]) 2
  | 20=>@ΦS ap _ w1 29 ((⟨ak,⟨#[]⟩,[bZ bc e.scan,bZ be e.batch],0⟩:ap))
  | 21=>ΦV (.pointer (some ⟨w.heap.size,4,none⟩))
  | 22=>ΦV (.slice AP nP cP)
  | 23=>@ΦL ByteArray _ w1 29 (e.prec)
  | 24=>@ΦS ag _ w1 29 ((⟨bk,e.prec,0⟩:ag))
  | 25=>@ΦR ag _ w1 29 25 113 ([(⟨bk,e.prec,0⟩:ag)]) 1
  | 26=>@ΦS ap _ w1 29 ((⟨af,⟨#[]⟩,[(⟨bk,e.prec,0⟩:ag)],0⟩:ap))
  | 27=>@ΦR ap _ w1 29 27 110 ([(⟨aB,⟨#[]⟩,[bZ bD e.dots,bZ aO e.blank,bZ az e.marked],0⟩:ap),⟨ak,⟨#[]⟩,[bZ bc e.scan,bZ be e.batch],0⟩,⟨af,⟨#[]⟩,[(⟨bk,e.prec,0⟩:ag)],0⟩]) 3
  | 28=>(fun v col w=>∃u,v=.agg #[.string e.title,u]∧ΦR w1 29 27 110 [(⟨aB,⟨#[]⟩,[bZ bD e.dots,bZ aO e.blank,bZ az e.marked],0⟩:ap),⟨ak,⟨#[]⟩,[bZ bc e.scan,bZ be e.batch],0⟩,⟨af,⟨#[]⟩,[(⟨bk,e.prec,0⟩:ag)],0⟩] 3 u col w)
  | 29=>ΦB w1 29 81 #[.string ⟨#[]⟩,.slice none 0 0]
  | _=>fun _ _ _=>False) (by kernel_rfl) (by kernel_rfl) (by kernel_rfl) (by kernel_rfl) ?_ ?_ ?_
 ·intro i v c1 w1 c2 w2 h hb hc
  match i with
  | 0=>exact h
  | 1=>exact h
  | 2=>exact h
  | 3=>exact h
  | 4=>exact ΦS.mono h hb hc
  | 5=>exact h
  | 6=>exact h
  | 7=>exact ΦS.mono h hb hc
  | 8=>exact h
  | 9=>exact h
  | 10=>exact ΦS.mono h hb hc
  | 11=>exact ΦR.mono h hb hc
  | 12=>exact ΦS.mono h hb hc
  | 13=>exact h
  | 14=>exact h
  | 15=>exact ΦS.mono h hb hc
  | 16=>exact h
  | 17=>exact h
  | 18=>exact ΦS.mono h hb hc
  | 19=>exact ΦR.mono h hb hc
  | 20=>exact ΦS.mono h hb hc
  | 21=>exact h
  | 22=>exact h
  | 23=>exact ΦL.mono h hb hc
  | 24=>exact ΦS.mono h hb hc
  | 25=>exact ΦR.mono h hb hc
  | 26=>exact ΦS.mono h hb hc
  | 27=>exact ΦR.mono h hb hc
  | 28=>obtain⟨u,e,hu⟩:=h;exact⟨u,e,ΦR.mono hu hb hc⟩
  | 29=>exact ΦB.mono h hb hc
  | _+30=>exact h
 ·intro Q0 i hi a1 col wc aW aH eN ac;have ga:=aH.size
  match i,hi with
  | 0,_=>
   have e1:a1.tmps[1]?=some (.pointer (some ⟨w.heap.size,0,none⟩)):=(aW.2 1 (by kernel_rfl)).trans rfl;clear ac;refine aa rfl rfl (.pointer (some ⟨w.heap.size,0,none⟩)) ?_ (Below.refl _ _) rfl;go_simp
  | 1,_=>
   obtain⟨v9,ev,TG⟩:=ac 0 (by kernel_rfl);have e9:=ev 9 rfl;clear ev;obtain rfl:v9=_:=TG;clear ac;have lj:wc.cell? ⟨w.heap.size,0,none⟩=some (.string e.title):=(ut.out.keep aH).cell 0;refine aa rfl rfl (.string e.title) ?_ (Below.refl _ _) rfl;go_simp
  | 2,_=>
   have e1:a1.tmps[1]?=some (.pointer (some ⟨w.heap.size,0,none⟩)):=(aW.2 1 (by kernel_rfl)).trans rfl;clear ac;refine aa rfl rfl (.pointer (some ⟨w.heap.size,1,none⟩)) ?_ (Below.refl _ _) rfl;go_simp
  | 3,_=>
   obtain⟨zQ,ev,Ds⟩:=ac 2 (by kernel_rfl);have rZ:=ev 11 rfl;clear ev;obtain rfl:zQ=_:=Ds;clear ac;have lj:wc.cell? ⟨w.heap.size,1,none⟩=some (.int .i64 e.dots):=(ut.out.keep aH).cell 1;refine aa rfl rfl (.int .i64 e.dots) ?_ (Below.refl _ _) rfl;go_simp
  | 4,_=>
   obtain⟨zO,ev,Dr⟩:=ac 3 (by kernel_rfl);have vL:=ev 12 rfl;clear ev;obtain rfl:zO=_:=Dr;clear ac;refine aM rfl rfl 68 #[.string bD,.int .i64 e.dots] ?_ (lz (tW.out.up Ba.out aH) (Nat.le_trans Ba.out ga) bD e.dots vW.out.dots.1 vW.out.dots.2) (fun e w2 hr=>ΦS.of_ret hr ga (by decide));go_simp;try rfl
  | 5,_=>
   have e1:a1.tmps[1]?=some (.pointer (some ⟨w.heap.size,0,none⟩)):=(aW.2 1 (by kernel_rfl)).trans rfl;clear ac;refine aa rfl rfl (.pointer (some ⟨w.heap.size,2,none⟩)) ?_ (Below.refl _ _) rfl;go_simp
  | 6,_=>
   obtain⟨dw,ev,TT⟩:=ac 5 (by kernel_rfl);have e14:=ev 14 rfl;clear ev;obtain rfl:dw=_:=TT;clear ac;have lj:wc.cell? ⟨w.heap.size,2,none⟩=some (.int .i64 e.blank):=(ut.out.keep aH).cell 2;refine aa rfl rfl (.int .i64 e.blank) ?_ (Below.refl _ _) rfl;go_simp
  | 7,_=>
   obtain⟨dE,ev,TS⟩:=ac 6 (by kernel_rfl);have e15:=ev 15 rfl;clear ev;obtain rfl:dE=_:=TS;clear ac;refine aM rfl rfl 68 #[.string aO,.int .i64 e.blank] ?_ (lz (tW.out.up Ba.out aH) (Nat.le_trans Ba.out ga) aO e.blank vW.out.blank.1 vW.out.blank.2) (fun e w2 hr=>ΦS.of_ret hr ga (by decide));go_simp;try rfl
  | 8,_=>
   have e1:a1.tmps[1]?=some (.pointer (some ⟨w.heap.size,0,none⟩)):=(aW.2 1 (by kernel_rfl)).trans rfl;clear ac;refine aa rfl rfl (.pointer (some ⟨w.heap.size,3,none⟩)) ?_ (Below.refl _ _) rfl;go_simp
  | 9,_=>
   obtain⟨OY,ev,TR⟩:=ac 8 (by kernel_rfl);have e17:=ev 17 rfl;clear ev;obtain rfl:OY=_:=TR;clear ac;have lj:wc.cell? ⟨w.heap.size,3,none⟩=some (.int .i64 e.marked):=(ut.out.keep aH).cell 3;refine aa rfl rfl (.int .i64 e.marked) ?_ (Below.refl _ _) rfl;go_simp
  | 10,_=>
   obtain⟨Sb,ev,TQ⟩:=ac 9 (by kernel_rfl);have e18:=ev 18 rfl;clear ev;obtain rfl:Sb=_:=TQ;clear ac;refine aM rfl rfl 68 #[.string az,.int .i64 e.marked] ?_ (lz (tW.out.up Ba.out aH) (Nat.le_trans Ba.out ga) az e.marked vW.out.marked.1 vW.out.marked.2) (fun e w2 hr=>ΦS.of_ret hr ga (by decide));go_simp;try rfl
  | 11,_=>
   obtain⟨CF,ev,Is⟩:=ac 4 (by kernel_rfl);have vK:=ev 13 rfl;clear ev;obtain⟨Lu,rfl,L0,n13,Hs,rfl,h13⟩:=Is;obtain⟨dQ,ev,Qd⟩:=ac 7 (by kernel_rfl);have e16:=ev 16 rfl;clear ev;obtain⟨Ls,rfl,A16,n16,c16,rfl,h16⟩:=Qd;obtain⟨XC,ev,TP⟩:=ac 10 (by kernel_rfl);have e19:=ev 19 rfl;clear ev;obtain⟨akT,rfl,Z1,n19,Zj,rfl,h19⟩:=TP;clear ac;have hf:Flat wc (RD w1 29 col wc) [.string bD,.slice L0 n13 Hs,.int .i64 0,.string aO,.slice A16 n16 c16,.int .i64 0,.string az,.slice Z1 n19 Zj,.int .i64 0] ([bZ bD e.dots,bZ aO e.blank,bZ az e.marked]):=Flat.cons (ds:=[_,_,_]) ⟨L0,n13,Hs,rfl,h13⟩ (Flat.cons (ds:=[_,_,_]) ⟨A16,n16,c16,rfl,h16⟩ (Flat.cons (ds:=[_,_,_]) ⟨Z1,n19,Zj,rfl,h19⟩ (Flat.nil)));refine aa rfl rfl (.slice (some ⟨wc.heap.size,0,none⟩) 3 3) (w':=wc.alloc (.cells #[.string bD,.slice L0 n13 Hs,.int .i64 0,.string aO,.slice A16 n16 c16,.int .i64 0,.string az,.slice Z1 n19 Zj,.int .i64 0] 113)) ?_ (aT _ _) (ΦR.built (cs:=[.string bD,.slice L0 n13 Hs,.int .i64 0,.string aO,.slice A16 n16 c16,.int .i64 0,.string az,.slice Z1 n19 Zj,.int .i64 0]) (t:=113) hf (fun b hb=>eN b hb.1 hb.2.1) rfl (by simp[Value.oneCell']) ga);go_simp;try rfl
  | 12,_=>
   obtain⟨v20,ev,XZ⟩:=ac 11 (by kernel_rfl);have e20:=ev 20 rfl;clear ev;have P20:=XZ;obtain⟨g20,aul,rfl,hg20,aaT,ajh,ajx,hn20,arb⟩:=XZ;have h20:=tg hg20 aaT (show 11≠29 by decide) ajh ajx hn20 (by decide);clear hg20 aaT ajh ajx hn20 arb;clear ac;refine aa rfl rfl (.agg #[.string aB,.string ⟨#[]⟩,.slice (some ⟨g20,0,none⟩) 3 3,.int .i64 0]) ?_ (Below.refl _ _) (ΦS.mono (x:=(⟨aB,⟨#[]⟩,[bZ bD e.dots,bZ aO e.blank,bZ az e.marked],0⟩:ap)) (c1:=col) (w1:=wc) (⟨_,rfl,_,_,_,rfl,h20⟩) (Below.refl _ _) fun b hb=>fE hb);go_simp;try rfl
  | 13,_=>
   have e1:a1.tmps[1]?=some (.pointer (some ⟨w.heap.size,0,none⟩)):=(aW.2 1 (by kernel_rfl)).trans rfl;clear ac;refine aa rfl rfl (.pointer (some ⟨w.heap.size,7,none⟩)) ?_ (Below.refl _ _) rfl;go_simp
  | 14,_=>
   obtain⟨v22,ev,acl⟩:=ac 13 (by kernel_rfl);have e22:=ev 22 rfl;clear ev;obtain rfl:v22=_:=acl;clear ac;have lj:wc.cell? ⟨w.heap.size,7,none⟩=some (.int .i64 e.scan):=(ut.out.keep aH).cell 7;refine aa rfl rfl (.int .i64 e.scan) ?_ (Below.refl _ _) rfl;go_simp
  | 15,_=>
   obtain⟨Tl,ev,TN⟩:=ac 14 (by kernel_rfl);have e23:=ev 23 rfl;clear ev;obtain rfl:Tl=_:=TN;clear ac;refine aM rfl rfl 68 #[.string bc,.int .i64 e.scan] ?_ (lz (tW.out.up Ba.out aH) (Nat.le_trans Ba.out ga) bc e.scan vW.out.scan.1 vW.out.scan.2) (fun e w2 hr=>ΦS.of_ret hr ga (by decide));go_simp;try rfl
  | 16,_=>
   have e1:a1.tmps[1]?=some (.pointer (some ⟨w.heap.size,0,none⟩)):=(aW.2 1 (by kernel_rfl)).trans rfl;clear ac;refine aa rfl rfl (.pointer (some ⟨w.heap.size,8,none⟩)) ?_ (Below.refl _ _) rfl;go_simp
  | 17,_=>
   obtain⟨v25,ev,TL⟩:=ac 16 (by kernel_rfl);have e25:=ev 25 rfl;clear ev;obtain rfl:v25=_:=TL;clear ac;have lj:wc.cell? ⟨w.heap.size,8,none⟩=some (.int .i64 e.batch):=(ut.out.keep aH).cell 8;refine aa rfl rfl (.int .i64 e.batch) ?_ (Below.refl _ _) rfl;go_simp
  | 18,_=>
   obtain⟨v26,ev,ack⟩:=ac 17 (by kernel_rfl);have e26:=ev 26 rfl;clear ev;obtain rfl:v26=_:=ack;clear ac;refine aM rfl rfl 68 #[.string be,.int .i64 e.batch] ?_ (lz (tW.out.up Ba.out aH) (Nat.le_trans Ba.out ga) be e.batch vW.out.batch.1 vW.out.batch.2) (fun e w2 hr=>ΦS.of_ret hr ga (by decide));go_simp;try rfl
  | 19,_=>
   obtain⟨v24,ev,TM⟩:=ac 15 (by kernel_rfl);have e24:=ev 24 rfl;clear ev;obtain⟨auk,rfl,A24,n24,c24,rfl,h24⟩:=TM;obtain⟨v27,ev,acj⟩:=ac 18 (by kernel_rfl);have e27:=ev 27 rfl;clear ev;obtain⟨akS,rfl,A27,n27,c27,rfl,h27⟩:=acj;clear ac;have hf:Flat wc (RD w1 29 col wc) [.string bc,.slice A24 n24 c24,.int .i64 0,.string be,.slice A27 n27 c27,.int .i64 0] ([bZ bc e.scan,bZ be e.batch]):=Flat.cons (ds:=[_,_,_]) ⟨A24,n24,c24,rfl,h24⟩ (Flat.cons (ds:=[_,_,_]) ⟨A27,n27,c27,rfl,h27⟩ (Flat.nil));refine aa rfl rfl (.slice (some ⟨wc.heap.size,0,none⟩) 2 2) (w':=wc.alloc (.cells #[.string bc,.slice A24 n24 c24,.int .i64 0,.string be,.slice A27 n27 c27,.int .i64 0] 113)) ?_ (aT _ _) (ΦR.built (cs:=[.string bc,.slice A24 n24 c24,.int .i64 0,.string be,.slice A27 n27 c27,.int .i64 0]) (t:=113) hf (fun b hb=>eN b hb.1 hb.2.1) rfl (by simp[Value.oneCell']) ga);go_simp;try rfl
  | 20,_=>
   obtain⟨v28,ev,XY⟩:=ac 19 (by kernel_rfl);have e28:=ev 28 rfl;clear ev;have P28:=XY;obtain⟨g28,aui,rfl,hg28,Lc,K5,U7,hn28,ac6⟩:=XY;have h28:=tg hg28 Lc (show 19≠29 by decide) K5 U7 hn28 (by decide);clear hg28 Lc K5 U7 hn28 ac6;clear ac;refine aa rfl rfl (.agg #[.string ak,.string ⟨#[]⟩,.slice (some ⟨g28,0,none⟩) 2 2,.int .i64 0]) ?_ (Below.refl _ _) (ΦS.mono (x:=(⟨ak,⟨#[]⟩,[bZ bc e.scan,bZ be e.batch],0⟩:ap)) (c1:=col) (w1:=wc) (⟨_,rfl,_,_,_,rfl,h28⟩) (Below.refl _ _) fun b hb=>fE hb);go_simp;try rfl
  | 21,_=>
   have e1:a1.tmps[1]?=some (.pointer (some ⟨w.heap.size,0,none⟩)):=(aW.2 1 (by kernel_rfl)).trans rfl;clear ac;refine aa rfl rfl (.pointer (some ⟨w.heap.size,4,none⟩)) ?_ (Below.refl _ _) rfl;go_simp
  | 22,_=>
   obtain⟨v30,ev,aci⟩:=ac 21 (by kernel_rfl);have e30:=ev 30 rfl;clear ev;obtain rfl:v30=_:=aci;clear ac;have lj:wc.cell? ⟨w.heap.size,4,none⟩=some (.slice AP nP cP):=(ut.out.keep aH).cell 4;refine aa rfl rfl (.slice AP nP cP) ?_ (Below.refl _ _) rfl;go_simp
  | 23,_=>
   obtain⟨v31,ev,Nc⟩:=ac 22 (by kernel_rfl);have e31:=ev 31 rfl;clear ev;obtain rfl:v31=_:=Nc;clear ac;refine aM rfl rfl 69 #[.slice AP nP cP] ?_ (vQ (HRP.out.below aH pQ.out) HNP.out) (fun e w2 hr=>ΦL.of_clone hr ga (by decide));go_simp;try rfl
  | 24,_=>
   obtain⟨Z7,ev,Nb⟩:=ac 23 (by kernel_rfl);have e32:=ev 32 rfl;clear ev;obtain⟨A32,n32,c32,rfl,h32⟩:=Nb;clear ac;refine aa rfl rfl (.agg #[.string bk,.slice A32 n32 c32,.int .i64 0]) ?_ (Below.refl _ _) (ΦS.mono (x:=(⟨bk,e.prec,0⟩:ag)) (c1:=col) (w1:=wc) (⟨_,rfl,A32,n32,c32,rfl,h32⟩) (Below.refl _ _) fun b hb=>fE hb);go_simp;try rfl
  | 25,_=>
   obtain⟨v33,ev,Na⟩:=ac 24 (by kernel_rfl);have e33:=ev 33 rfl;clear ev;obtain⟨akR,rfl,A33,n33,c33,rfl,h33⟩:=Na;clear ac;have hf:Flat wc (RD w1 29 col wc) [.string bk,.slice A33 n33 c33,.int .i64 0] ([(⟨bk,e.prec,0⟩:ag)]):=Flat.cons (ds:=[_,_,_]) ⟨A33,n33,c33,rfl,h33⟩ (Flat.nil);refine aa rfl rfl (.slice (some ⟨wc.heap.size,0,none⟩) 1 1) (w':=wc.alloc (.cells #[.string bk,.slice A33 n33 c33,.int .i64 0] 113)) ?_ (aT _ _) (ΦR.built (cs:=[.string bk,.slice A33 n33 c33,.int .i64 0]) (t:=113) hf (fun b hb=>eN b hb.1 hb.2.1) rfl (by simp[Value.oneCell']) ga);go_simp;try rfl
  | 26,_=>
   obtain⟨v34,ev,Kp⟩:=ac 25 (by kernel_rfl);have e34:=ev 34 rfl;clear ev;have P34:=Kp;obtain⟨g34,akQ,rfl,hg34,aaR,rO,ajv,hn34,aq8⟩:=Kp;have h34:=tg hg34 aaR (show 25≠29 by decide) rO ajv hn34 (by decide);clear hg34 aaR rO ajv hn34 aq8;clear ac;refine aa rfl rfl (.agg #[.string af,.string ⟨#[]⟩,.slice (some ⟨g34,0,none⟩) 1 1,.int .i64 0]) ?_ (Below.refl _ _) (ΦS.mono (x:=(⟨af,⟨#[]⟩,[(⟨bk,e.prec,0⟩:ag)],0⟩:ap)) (c1:=col) (w1:=wc) (⟨_,rfl,_,_,_,rfl,h34⟩) (Below.refl _ _) fun b hb=>fE hb);go_simp;try rfl
  | 27,_=>
   obtain⟨v21,ev,TO⟩:=ac 12 (by kernel_rfl);have e21:=ev 21 rfl;clear ev;obtain⟨aEi,rfl,A21,n21,c21,rfl,h21⟩:=TO;obtain⟨WX,ev,Nf⟩:=ac 20 (by kernel_rfl);have e29:=ev 29 rfl;clear ev;obtain⟨auh,rfl,A29,n29,c29,rfl,h29⟩:=Nf;obtain⟨v35,ev,M9⟩:=ac 26 (by kernel_rfl);have e35:=ev 35 rfl;clear ev;obtain⟨aEf,rfl,A35,n35,c35,rfl,h35⟩:=M9;clear ac;have hf:Flat wc (RD w1 29 col wc) [.string aB,.string ⟨#[]⟩,.slice A21 n21 c21,.int .i64 0,.string ak,.string ⟨#[]⟩,.slice A29 n29 c29,.int .i64 0,.string af,.string ⟨#[]⟩,.slice A35 n35 c35,.int .i64 0] ([(⟨aB,⟨#[]⟩,[bZ bD e.dots,bZ aO e.blank,bZ az e.marked],0⟩:ap),⟨ak,⟨#[]⟩,[bZ bc e.scan,bZ be e.batch],0⟩,⟨af,⟨#[]⟩,[(⟨bk,e.prec,0⟩:ag)],0⟩]):=Flat.cons (ds:=[_,_,_,_]) ⟨A21,n21,c21,rfl,h21⟩ (Flat.cons (ds:=[_,_,_,_]) ⟨A29,n29,c29,rfl,h29⟩ (Flat.cons (ds:=[_,_,_,_]) ⟨A35,n35,c35,rfl,h35⟩ (Flat.nil)));refine aa rfl rfl (.slice (some ⟨wc.heap.size,0,none⟩) 3 3) (w':=wc.alloc (.cells #[.string aB,.string ⟨#[]⟩,.slice A21 n21 c21,.int .i64 0,.string ak,.string ⟨#[]⟩,.slice A29 n29 c29,.int .i64 0,.string af,.string ⟨#[]⟩,.slice A35 n35 c35,.int .i64 0] 110)) ?_ (aT _ _) (ΦR.built (cs:=[.string aB,.string ⟨#[]⟩,.slice A21 n21 c21,.int .i64 0,.string ak,.string ⟨#[]⟩,.slice A29 n29 c29,.int .i64 0,.string af,.string ⟨#[]⟩,.slice A35 n35 c35,.int .i64 0]) (t:=110) hf (fun b hb=>eN b hb.1 hb.2.1) rfl (by simp[Value.oneCell']) ga);go_simp;try rfl
  | 28,_=>
   obtain⟨Bg,ev,Dt⟩:=ac 1 (by kernel_rfl);have tG:=ev 10 rfl;clear ev;obtain rfl:Bg=_:=Dt;obtain⟨v36,ev,Ko⟩:=ac 27 (by kernel_rfl);have e36:=ev 36 rfl;clear ev;have P36:=Ko;obtain⟨g36,aEe,rfl,hg36,aaQ,UZ,aju,hn36,aq7⟩:=Ko;have h36:=tg hg36 aaQ (show 27≠29 by decide) UZ aju hn36 (by decide);clear hg36 aaQ UZ aju hn36 aq7;clear ac;refine aa rfl rfl (.agg #[.string e.title,.slice (some ⟨g36,0,none⟩) 3 3]) ?_ (Below.refl _ _) ⟨_,rfl,ΦR.mono P36 (Below.refl _ _) fun b hb=>fE hb⟩;go_simp;try rfl
  | 29,_=>
   clear ac;refine aa rfl rfl (.pointer (some ⟨wc.heap.size,0,none⟩)) (w':=wc.alloc (.cells #[.string ⟨#[]⟩,.slice none 0 0] 81)) ?_ (aT _ _) (ΦB.made ga);go_simp;try rfl
  | k+30,hk=>exact absurd hk (by omega)
 intro Jz col wc hl0 aH hΦ;obtain⟨v0,J4,rfl,hl1⟩:=aj hl0;clear hl0;obtain⟨v1,JY,rfl,hl2⟩:=aj hl1;clear hl1;obtain⟨v2,L2,rfl,hl3⟩:=aj hl2;clear hl2;obtain⟨v3,L1,rfl,hl4⟩:=aj hl3;clear hl3;obtain⟨v4,OX,rfl,hl5⟩:=aj hl4;clear hl4;obtain⟨v5,PS,rfl,hl6⟩:=aj hl5;clear hl5;obtain⟨v6,Td,rfl,hl7⟩:=aj hl6;clear hl6;obtain⟨v7,Tc,rfl,hl8⟩:=aj hl7;clear hl7;obtain⟨v8,Tb,rfl,hl9⟩:=aj hl8;clear hl8;obtain⟨v9,Ij,rfl,hl10⟩:=aj hl9;clear hl9;obtain⟨Bg,J3,rfl,hl11⟩:=aj hl10;clear hl10;obtain⟨zQ,J2,rfl,hl12⟩:=aj hl11;clear hl11;obtain⟨zO,J1,rfl,hl13⟩:=aj hl12;clear hl12;obtain⟨CF,J0,rfl,hl14⟩:=aj hl13;clear hl13;obtain⟨dw,JZ,rfl,hl15⟩:=aj hl14;clear hl14;obtain⟨dE,MF,rfl,hl16⟩:=aj hl15;clear hl15;obtain⟨dQ,Te,rfl,hl17⟩:=aj hl16;clear hl16;obtain⟨OY,XB,rfl,hl18⟩:=aj hl17;clear hl17;obtain⟨Sb,Xz,rfl,hl19⟩:=aj hl18;clear hl18;obtain⟨XC,ahu,rfl,hl20⟩:=aj hl19;clear hl19;obtain⟨v20,aht,rfl,hl21⟩:=aj hl20;clear hl20;obtain⟨v21,ahs,rfl,hl22⟩:=aj hl21;clear hl21;obtain⟨v22,ahr,rfl,hl23⟩:=aj hl22;clear hl22;obtain⟨Tl,ahq,rfl,hl24⟩:=aj hl23;clear hl23;obtain⟨v24,ahp,rfl,hl25⟩:=aj hl24;clear hl24;obtain⟨v25,aoQ,rfl,hl26⟩:=aj hl25;clear hl25;obtain⟨v26,aoP,rfl,hl27⟩:=aj hl26;clear hl26;obtain⟨v27,aoO,rfl,hl28⟩:=aj hl27;clear hl27;obtain⟨v28,aoN,rfl,hl29⟩:=aj hl28;clear hl28;obtain⟨WX,aoM,rfl,hl30⟩:=aj hl29;clear hl29;obtain rfl:=List.length_eq_zero_iff.1 hl30;clear hl30;have p0:=hΦ 0 _ rfl;obtain rfl:v0=_:=p0;have p1:=hΦ 1 _ rfl;obtain rfl:v1=_:=p1;have p2:=hΦ 2 _ rfl;obtain rfl:v2=_:=p2;have p3:=hΦ 3 _ rfl;obtain rfl:v3=_:=p3;have p4:=hΦ 4 _ rfl;obtain⟨cs4,rfl,A4,n4,c4,rfl,h4⟩:=p4;have p5:=hΦ 5 _ rfl;obtain rfl:v5=_:=p5;have p6:=hΦ 6 _ rfl;obtain rfl:v6=_:=p6;have p7:=hΦ 7 _ rfl;obtain⟨cs7,rfl,A7,n7,c7,rfl,h7⟩:=p7;have p8:=hΦ 8 _ rfl;obtain rfl:v8=_:=p8;have p9:=hΦ 9 _ rfl;obtain rfl:v9=_:=p9;have DG:=hΦ 10 _ rfl;obtain⟨aeT,rfl,A10,n10,VZ,rfl,h10⟩:=DG;have DF:=hΦ 11 _ rfl;obtain⟨Oc,akU,rfl,hg11,ajN,mL,ar0,hn11,ard⟩:=DF;have DD:=hΦ 12 _ rfl;obtain⟨Rk,rfl,Z2,n12,SI,rfl,h12⟩:=DD;have DC:=hΦ 13 _ rfl;obtain rfl:CF=_:=DC;have p14:=hΦ 14 _ rfl;obtain rfl:dw=_:=p14;have Ng:=hΦ 15 _ rfl;obtain⟨Lt,rfl,Xw,n15,c15,rfl,h15⟩:=Ng;have TY:=hΦ 16 _ rfl;obtain rfl:dQ=_:=TY;have X1:=hΦ 17 _ rfl;obtain rfl:OY=_:=X1;have X0:=hΦ 18 _ rfl;obtain⟨Zb,rfl,A18,n18,c18,rfl,h18⟩:=X0;have p19:=hΦ 19 _ rfl;obtain⟨g19,akT,rfl,hg19,ajL,arH,arZ,hn19,arc⟩:=p19;have p20:=hΦ 20 _ rfl;obtain⟨aul,rfl,A20,n20,c20,rfl,h20⟩:=p20;have p21:=hΦ 21 _ rfl;obtain rfl:v21=_:=p21;have p22:=hΦ 22 _ rfl;obtain rfl:v22=_:=p22;have p23:=hΦ 23 _ rfl;obtain⟨A23,n23,c23,rfl,h23⟩:=p23;have p24:=hΦ 24 _ rfl;obtain⟨auk,rfl,A24,n24,c24,rfl,h24⟩:=p24;have p25:=hΦ 25 _ rfl;obtain⟨g25,auj,rfl,hg25,ajJ,arG,arY,hn25,ara⟩:=p25;have p26:=hΦ 26 _ rfl;obtain⟨aEg,rfl,A26,n26,c26,rfl,h26⟩:=p26;have p27:=hΦ 27 _ rfl;obtain⟨g27,akS,rfl,hg27,ajI,arF,arX,hn27,aq9⟩:=p27;have p28:=hΦ 28 _ rfl;obtain⟨u28,rfl,g28,aui,rfl,hg28,Lc,K5,U7,hn28,ac6⟩:=p28;have p29:=hΦ 29 _ rfl;obtain⟨g29,rfl,hg29,aaS,ads⟩:=p29;clear hΦ;simp only[List.take_succ_cons,List.take_zero,iD,gd,Act.put,List.setIfInBounds_toArray,List.set_cons_zero,List.set_cons_succ];refine bB rfl rfl fun K hK=>?_;refine wp_store_row 81 _ _ rfl g29 #[.string e.title,.slice (some ⟨g28,0,none⟩) 3 3] rfl rfl _ _ ads (by kernel_rfl) rfl (by simp[Value.oneCell']) (hK _ _ ?_);clear hK K;have db:=PW aH hg29 aaS ads (by decide) hg28 Lc K5 U7 hn28 (by decide) (title:=e.title);obtain⟨w2,jY⟩:∃q,wc.setRow g29 #[.string e.title,.slice (some ⟨g28,0,none⟩) 3 3]=q:=⟨_,rfl⟩;rw[jY] at db;rw[jY];obtain⟨g,rP⟩:∃q,g29=q:=⟨_,rfl⟩;rw[rP] at db;rw[rP];have jI:=zH db;have c5:w2.cell? ⟨w.heap.size,5,none⟩=some (.slice AC nC cC):=(ut.out.keep db.bel).cell 5;clear db jY rP h4 h7 h10 h12 h15 h18 h20 h23 h24 h26 hg11 ajN mL ar0 hn11 ard hg19 ajL arH arZ hn19 arc hg25 ajJ arG arY hn25 ara hg27 ajI arF arX hn27 aq9 hg28 Lc K5 U7 hn28 ac6 hg29 aaS ads aH;go_wp2_with fail;go_loopw [4,41] (fun v4 iv wr=>∃(k:Nat) (A:Option Addr) (n c:Nat),iv=.int .i64 k∧k≤nC∧i9 w1 wr g e.title A n c ([(⟨aB,⟨#[]⟩,[bZ bD e.dots,bZ aO e.blank,bZ az e.marked],0⟩:ap),⟨ak,⟨#[]⟩,[bZ bc e.scan,bZ be e.batch],0⟩,⟨af,⟨#[]⟩,[(⟨bk,e.prec,0⟩:ag)],0⟩]++(e.cont.take k).map eg) v4 ((e.cont.take k).map (·.name))) (fun _ iv _=>nC-(intOf iv).toNat)
 case atStart=>exact⟨0,_,_,_,rfl,Nat.zero_le _,jI.out⟩
 case round=>
  clear jI c5;obtain⟨k,A,n,c,rfl,hk,xj⟩:=hrel;have ky:=zH xj;have my:=xj.bel;have wE:=zH my;have zI:∀b,S b→b<wr.heap.size:=fun b h=>Nat.lt_of_lt_of_le (pQ.out b h) my.size;have OF:=zH (Bb.out.below my pQ.out);clear xj my;by_cases bn:k<nC
  ·have dK:(k:Int)<(nC:Int):=by omega
   obtain⟨ba,o,x,cs,rfl,yR,hx,nQ,jG⟩:=OF.out.load_at zI bn;obtain⟨AX,nX,cX,rfl,qA⟩:=nQ;have dT:=jG wr (Below.refl _ _);have r0:wr.cell? ⟨ba,o+k*9,none⟩=some (.string x.name):=dT.1 _ rfl;have r1:wr.cell? ⟨ba,o+k*9+1,none⟩=some (.slice AX nX cX):=dT.2 1 _ rfl;have r2:wr.cell? ⟨ba,o+k*9+2,none⟩=some (.int .i64 x.method):=dT.2 2 _ rfl;have r3:wr.cell? ⟨ba,o+k*9+3,none⟩=some (.int .i64 x.seats):=dT.2 3 _ rfl;have r4:wr.cell? ⟨ba,o+k*9+4,none⟩=some (.int .i64 x.ranks):=dT.2 4 _ rfl;have r5:wr.cell? ⟨ba,o+k*9+5,none⟩=some (.int .i64 x.digits):=dT.2 5 _ rfl;have r6:wr.cell? ⟨ba,o+k*9+6,none⟩=some (.int .i64 x.ties):=dT.2 6 _ rfl;have r7:wr.cell? ⟨ba,o+k*9+7,none⟩=some (.int .i64 x.over):=dT.2 7 _ rfl;have r8:wr.cell? ⟨ba,o+k*9+8,none⟩=some (.int .i64 x.skip):=dT.2 8 _ rfl;have gO:(k:Int)≤(cC:Int):=by have:=OF.out.cap;omega
   have HXO:=zH (vW.out.conts x (List.mem_of_getElem? hx));have Hz:=zH (du hx);have kC:Below wr.heap.size wr (wr.alloc (.cells #[.string x.name,.slice AX nX cX,.int .i64 x.method,.int .i64 x.seats,.int .i64 x.ranks,.int .i64 x.digits,.int .i64 x.ties,.int .i64 x.over,.int .i64 x.skip] 95)):=aT _ _;have jz:aK (wr.alloc (.cells #[.string x.name,.slice AX nX cX,.int .i64 x.method,.int .i64 x.seats,.int .i64 x.ranks,.int .i64 x.digits,.int .i64 x.ties,.int .i64 x.over,.int .i64 x.skip] 95)) wr.heap.size 95 #[.string x.name,.slice AX nX cX,.int .i64 x.method,.int .i64 x.seats,.int .i64 x.ranks,.int .i64 x.digits,.int .i64 x.ties,.int .i64 x.over,.int .i64 x.skip]:=aK.new _ _ _;obtain⟨w6,qk⟩:∃q,wr.alloc (.cells #[.string x.name,.slice AX nX cX,.int .i64 x.method,.int .i64 x.seats,.int .i64 x.ranks,.int .i64 x.digits,.int .i64 x.ties,.int .i64 x.over,.int .i64 x.skip] 95)=q:=⟨_,rfl⟩;rw[qk] at kC jz;obtain⟨gb,yN⟩:∃q,wr.heap.size=q:=⟨_,rfl⟩;rw[yN] at jz;have LX:=zH yN;have sQ:=zH jz;have eL:=zH (ky.out.grow kC);have Gp:=eL;have zK:Hid (gb≠g):=zH (by have:=ky.out.blk.lt;omega);have LR:Hid ((Value.slice A n c).ownBlock≠some gb):=zH fun e=>by have:=(ky.out.own.lt gb e).2;omega
   have Wm:=zH (tW.out.up Ba.out eL.out.bel);have Wl:=zH (Nat.le_trans Ba.out eL.out.bel.size);have mz:Hid (∀b,S b→b<w6.heap.size):=zH fun b h=>Nat.lt_of_lt_of_le (pQ.out b h) eL.out.bel.size;have afe:=zH (qA.below kC zI);have ew:Hid (([(⟨aB,⟨#[]⟩,[bZ bD e.dots,bZ aO e.blank,bZ az e.marked],0⟩:ap),⟨ak,⟨#[]⟩,[bZ bc e.scan,bZ be e.batch],0⟩,⟨af,⟨#[]⟩,[(⟨bk,e.prec,0⟩:ag)],0⟩]++(e.cont.take k).map eg).length=3+k):=zH (by simp;rw[JO.out];omega);have aft:Hid (((e.cont.take k).map (·.name)).length=k):=zH (by simp;rw[JO.out];omega);have Jc:=zH qk;clear dT jG hx qA kC jz qk yN;go_upto_region 6 with(fail);rw[Jc.out,LX.out];clear r0 r1 r2 r3 r4 r5 r6 r7 r8;refine cf 5 2 (fun i=>match i with
    | 0=>ΦV (.pointer (some ⟨g,1,none⟩))
    | 1=>ΦV (.slice A n c)
    | 2=>ΦV (.agg #[.string x.name,.slice AX nX cX,.int .i64 x.method,.int .i64 x.seats,.int .i64 x.ranks,.int .i64 x.digits,.int .i64 x.ties,.int .i64 x.over,.int .i64 x.skip])
    | 3=>@ΦS ap _ w6 99 (eg x)
    | 4=>@ΦR ap _ w6 99 4 110 ([eg x]) 1
    | _=>fun _ _ _=>False) (by kernel_rfl) (by kernel_rfl) (by kernel_rfl) (by kernel_rfl) ?_ ?_ ?_
   ·intro i v c1 w1 c2 w2 h hb hc
    match i with
    | 0=>exact h
    | 1=>exact h
    | 2=>exact h
    | 3=>exact ΦS.mono h hb hc
    | 4=>exact ΦR.mono h hb hc
    | _+5=>exact h
   ·intro Q0 i hi a1 col wc aW aH eN ac;have ga:=aH.size
    match i,hi with
    | 0,_=>
     have e3:a1.tmps[3]?=some (.pointer (some ⟨g,0,none⟩)):=(aW.2 3 (by kernel_rfl)).trans rfl;clear ac;refine aa rfl rfl (.pointer (some ⟨g,1,none⟩)) ?_ (Below.refl _ _) rfl;go_simp
    | 1,_=>
     obtain⟨v45,ev,TI⟩:=ac 0 (by kernel_rfl);have e45:=ev 45 rfl;clear ev;obtain rfl:v45=_:=TI;clear ac;have lj:wc.cell? ⟨g,1,none⟩=some (.slice A n c):=(eL.out.blk.keep aH).cell 1;refine aa rfl rfl (.slice A n c) ?_ (Below.refl _ _) rfl;go_simp
    | 2,_=>
     have e6:a1.tmps[6]?=some (.pointer (some ⟨gb,0,none⟩)):=(aW.2 6 (by kernel_rfl)).trans rfl;clear ac;have lj:wc.cell? ⟨gb,0,none⟩=some (.string x.name):=(sQ.out.keep aH).cell 0;have ld1:wc.cell? ⟨gb,1,none⟩=some (.slice AX nX cX):=(sQ.out.keep aH).cell 1;have ld2:wc.cell? ⟨gb,2,none⟩=some (.int .i64 x.method):=(sQ.out.keep aH).cell 2;have ld3:wc.cell? ⟨gb,3,none⟩=some (.int .i64 x.seats):=(sQ.out.keep aH).cell 3;have ld4:wc.cell? ⟨gb,4,none⟩=some (.int .i64 x.ranks):=(sQ.out.keep aH).cell 4;have ld5:wc.cell? ⟨gb,5,none⟩=some (.int .i64 x.digits):=(sQ.out.keep aH).cell 5;have ld6:wc.cell? ⟨gb,6,none⟩=some (.int .i64 x.ties):=(sQ.out.keep aH).cell 6;have ld7:wc.cell? ⟨gb,7,none⟩=some (.int .i64 x.over):=(sQ.out.keep aH).cell 7;have ld8:wc.cell? ⟨gb,8,none⟩=some (.int .i64 x.skip):=(sQ.out.keep aH).cell 8;refine aa rfl rfl (.agg #[.string x.name,.slice AX nX cX,.int .i64 x.method,.int .i64 x.seats,.int .i64 x.ranks,.int .i64 x.digits,.int .i64 x.ties,.int .i64 x.over,.int .i64 x.skip]) ?_ (Below.refl _ _) rfl;go_simp
    | 3,_=>
     obtain⟨v47,ev,apD⟩:=ac 2 (by kernel_rfl);have e47:=ev 47 rfl;clear ev;obtain rfl:v47=_:=apD;clear ac;refine aM rfl rfl 70 #[.agg #[.string x.name,.slice AX nX cX,.int .i64 x.method,.int .i64 x.seats,.int .i64 x.ranks,.int .i64 x.digits,.int .i64 x.ties,.int .i64 x.over,.int .i64 x.skip]] ?_ (Lw (Wm.out.up Wl.out aH) (Nat.le_trans Wl.out ga) ⟨_,rfl,AX,nX,cX,rfl,afe.out.below aH mz.out⟩ (fun b h=>Nat.lt_of_lt_of_le (mz.out b h) ga) HXO.out) (fun e w2 hr=>ΦS.of_ret hr ga (by decide));go_simp;try rfl
    | 4,_=>
     obtain⟨v48,ev,apC⟩:=ac 3 (by kernel_rfl);have e48:=ev 48 rfl;clear ev;obtain⟨aEc,rfl,A48,n48,c48,rfl,h48⟩:=apC;clear ac;have hf:Flat wc (RD w6 99 col wc) [.string (eg x).kind,.string (eg x).name,.slice A48 n48 c48,.int .i64 (eg x).line] ([eg x]):=Flat.cons (ds:=[_,_,_,_]) ⟨A48,n48,c48,rfl,h48⟩ Flat.nil;refine aa rfl rfl (.slice (some ⟨wc.heap.size,0,none⟩) 1 1) (w':=wc.alloc (.cells #[.string (eg x).kind,.string (eg x).name,.slice A48 n48 c48,.int .i64 (eg x).line] 110)) ?_ (aT _ _) (ΦR.built (cs:=[.string (eg x).kind,.string (eg x).name,.slice A48 n48 c48,.int .i64 (eg x).line]) (t:=110) hf (fun b hb=>eN b hb.1 hb.2.1) rfl (by simp[Value.oneCell']) ga);go_simp;try rfl
   intro Jz col wc hl0 aH hΦ;obtain⟨v0,J4,rfl,hl1⟩:=aj hl0;clear hl0;obtain⟨v1,JY,rfl,hl2⟩:=aj hl1;clear hl1;obtain⟨v2,L2,rfl,hl3⟩:=aj hl2;clear hl2;obtain⟨v3,L1,rfl,hl4⟩:=aj hl3;clear hl3;obtain⟨v4,OX,rfl,hl5⟩:=aj hl4;clear hl4;obtain rfl:=List.length_eq_zero_iff.1 hl5;clear hl5;have p0:=hΦ 0 _ rfl;obtain rfl:v0=_:=p0;have p1:=hΦ 1 _ rfl;obtain rfl:v1=_:=p1;have p2:=hΦ 2 _ rfl;obtain rfl:v2=_:=p2;have p3:=hΦ 3 _ rfl;obtain⟨cs3,rfl,A3,n3,c3,rfl,h3⟩:=p3;have p4:=hΦ 4 _ rfl;obtain⟨g4,cs4,rfl,hg4,asa,jj,hf4,hn4,Sp⟩:=p4;clear hΦ;simp only[List.take_succ_cons,List.take_zero,iD,gd,Act.put,List.setIfInBounds_toArray,List.set_cons_zero,List.set_cons_succ];have ji:=(eL.out.grow aH);refine bB rfl rfl fun K hK=>?_;refine cw (α:=ap) _ _ 79 rfl 64 Tryz.blkTy rfl ji.own ⟨g4,0,none⟩ 1 1 cs4 [eg x] rfl (by rfl) (hf4.keep (fun b hb=>by have hq:=Gp.out.apart_of (b:=b) hb.1.1 (Nat.lt_of_lt_of_le (Nat.lt_succ_self _) (by exact hb.1.2.1));exact hq) (aD.refl _ _)) (iu jj) Sp (by rw[ew.out];simp;omega) (Nat.le_trans ji.base (Nat.le_refl _)) fun v9 w9 q1 q2 q3=>hK _ _ ?_;clear hK K;obtain⟨A9,n9,c9,rfl,zG⟩:=q1.slice;have uq:=zH q1;have vn:=zH q2;have Cz:=zH q3;have ko:=ji.blk.grown q2 (fun e=>ji.ne e.symm);have y2:w9.cell? ⟨g,1,none⟩=some (.slice A n c):=ko.cell 1;have y3:w9.frozen? ⟨g,1,none⟩=false:=ko.frozen 1;have ER:=zH ji;have oz:=zH aH;clear q1 q2 q3 zG ko ji aH hg4 asa jj hf4 hn4 Sp;refine eH (w':=w9) rfl rfl (.pointer (some ⟨g,1,none⟩)) ?_ ?_
   ·go_simp
   try simp only[Act.put,List.getElem_toArray,List.getElem_cons_zero,List.getElem_cons_succ,List.setIfInBounds_toArray,List.set_cons_zero,List.set_cons_succ]
   refine bB rfl rfl fun K hK=>?_;go_simp;refine hK _ _ ?_;clear hK K;have db:=ER.out.next uq.out vn.out Cz.out;obtain⟨w7,jY⟩:∃q,w9.setCell ⟨g,1,none⟩ (.slice A9 n9 c9)=q:=⟨_,rfl⟩;rw[jY] at db;have jK:=((sQ.out.keep oz.out).grown vn.out (fun e=>LR.out e.symm)).far (p:=⟨g,1,none⟩) zK.out (.slice A9 n9 c9);rw[jY] at jK;rw[jY];have oU:=zH db;have u0:w7.cell? ⟨gb,0,none⟩=some (.string x.name):=jK.cell 0;have HN4:=zH db.nms;have awu:=zH db.bel;have asl:=db.base;clear db jY y2 y3 h3 jK;go_wp2_with (at_builtin;refine aF (α:=ByteArray) (w0:=w1) (B:=w1.heap.size) (base:=w1.heap.size) rfl _ _ 22 rfl 16 Tryz.strsTy rfl HN4.out awu.out (Nat.le_refl _) asl [.string x.name] x.name 1 rfl rfl 9 (by simp[Value.oneCell']) (by rw[aft.out];omega) ?_;intro v8 w8 hown8 oy hg8 hl8;have Gg:=zH (oU.out.name hown8 hg8 hl8);clear hown8 oy hg8 hl8);go_roundw
   case rel=>exact⟨k+1,_,_,_,by go_num,by omega,by rw[Hz.out,List.map_append,List.map_append,←List.append_assoc];exact Gg.out⟩
   case measure=>simp[intOf];omega
  ·have fI:k=nC:=by omega
   have tw:=ky.out;rw[List.take_of_length_le (by rw[JO.out];omega)] at tw;obtain⟨A4,n4,c4,rfl,hn4⟩:=tw.nms.slice;have c6:wr.cell? ⟨w.heap.size,6,none⟩=some (.slice AS nS cS):=(ut.out.keep wE.out).cell 6;have LN:=zH tw;clear tw fI hn4 ky;go_wp2_with fail;go_loopw [61] (fun iv wr=>∃(k:Nat) (A:Option Addr) (n c:Nat),iv=.int .i64 k∧k≤nS∧i9 w1 wr g e.title A n c ([(⟨aB,⟨#[]⟩,[bZ bD e.dots,bZ aO e.blank,bZ az e.marked],0⟩:ap),⟨ak,⟨#[]⟩,[bZ bc e.scan,bZ be e.batch],0⟩,⟨af,⟨#[]⟩,[(⟨bk,e.prec,0⟩:ag)],0⟩]++e.cont.map eg++(e.styl.take k).map (jP e.prec (e.cont.map (·.name)))) (.slice A4 n4 c4) (e.cont.map (·.name))) (fun iv _=>nS-(intOf iv).toNat)
   case atStart=>exact⟨0,_,_,_,rfl,Nat.zero_le _,by simpa using LN.out⟩
   case round=>
   clear LN c6 OF wE zI;obtain⟨k2,A,n,c,rfl,fM,xj⟩:=hrel;have ky:=zH xj;have my:=xj.bel;have wE:=zH my;have zI:∀b,S b→b<wr.heap.size:=fun b h=>Nat.lt_of_lt_of_le (pQ.out b h) my.size;have Wp:=zH (H8.out.below my pQ.out);have ew:Hid (([(⟨aB,⟨#[]⟩,[bZ bD e.dots,bZ aO e.blank,bZ az e.marked],0⟩:ap),⟨ak,⟨#[]⟩,[bZ bc e.scan,bZ be e.batch],0⟩,⟨af,⟨#[]⟩,[(⟨bk,e.prec,0⟩:ag)],0⟩]++e.cont.map eg++(e.styl.take k2).map (jP e.prec (e.cont.map (·.name)))).length=3+nC+k2):=zH (by simp;rw[JO.out,C5.out];omega);clear xj my;by_cases bn:k2<nS
   ·have dK:(k2:Int)<(nS:Int):=by omega
    obtain⟨ba,o,x,cs,rfl,yR,hx,nQ,jG⟩:=Wp.out.load_at zI bn;obtain⟨Ai,ni,ci,Aj,nj,cj,rfl,JF,Xc⟩:=nQ;have dT:=jG wr (Below.refl _ _);have r0:wr.cell? ⟨ba,o+k2*3,none⟩=some (.string x.name):=dT.1 _ rfl;have r1:wr.cell? ⟨ba,o+k2*3+1,none⟩=some (.slice Ai ni ci):=dT.2 1 _ rfl;have r2:wr.cell? ⟨ba,o+k2*3+2,none⟩=some (.slice Aj nj cj):=dT.2 2 _ rfl;have gO:(k2:Int)≤(cS:Int):=by have:=Wp.out.cap;omega
    have CM:=vW.out.styls x (List.mem_of_getElem? hx);have HNI:Hid (ni≤1099511627776):=zH (by rw[←JF.len];exact Nat.le_trans CM.1 (by omega));have HNJ:Hid (nj≤1099511627776):=zH (by rw[←Xc.len];exact Nat.le_trans CM.2 (by omega));have Hz:=zH (du hx);have kC:Below wr.heap.size wr (wr.alloc (.cells #[.string x.name,.slice Ai ni ci,.slice Aj nj cj] 97)):=aT _ _;have jz:aK (wr.alloc (.cells #[.string x.name,.slice Ai ni ci,.slice Aj nj cj] 97)) wr.heap.size 97 #[.string x.name,.slice Ai ni ci,.slice Aj nj cj]:=aK.new _ _ _;obtain⟨w6,qk⟩:∃q,wr.alloc (.cells #[.string x.name,.slice Ai ni ci,.slice Aj nj cj] 97)=q:=⟨_,rfl⟩;rw[qk] at kC jz;obtain⟨gb,yN⟩:∃q,wr.heap.size=q:=⟨_,rfl⟩;rw[yN] at jz;have LX:=zH yN;have sQ:=zH jz;have eL:=zH (ky.out.grow kC);have Gp:=eL;have mz:Hid (∀b,S b→b<w6.heap.size):=zH fun b h=>Nat.lt_of_lt_of_le (pQ.out b h) eL.out.bel.size;have ZA:=zH (JF.below kC zI);have HRJ:=zH (Xc.below kC zI);have RB:=zH (HRP.out.below eL.out.bel pQ.out);have pu:=zH (ut.out.keep eL.out.bel);have Jc:=zH qk;clear dT jG hx JF Xc kC jz qk CM yN;go_upto_region 12 with(fail);rw[Jc.out,LX.out];clear r0 r1 r2;refine cf 16 2 (fun i=>match i with
     | 0=>ΦV (.pointer (some ⟨g,1,none⟩))
     | 1=>ΦV (.slice A n c)
     | 2=>ΦV (.pointer (some ⟨gb,0,none⟩))
     | 3=>ΦV (.string x.name)
     | 4=>ΦV (.pointer (some ⟨gb,1,none⟩))
     | 5=>ΦV (.slice Ai ni ci)
     | 6=>ΦV (.pointer (some ⟨w.heap.size,4,none⟩))
     | 7=>ΦV (.slice AP nP cP)
     | 8=>@ΦS ag _ w6 99 ((⟨af,eK x.prec e.prec,0⟩:ag))
     | 9=>ΦV (.pointer (some ⟨gb,2,none⟩))
     | 10=>ΦV (.slice Aj nj cj)
     | 11=>ΦV (.slice A4 n4 c4)
     | 12=>@ΦS ag _ w6 99 ((⟨aE,eK x.cont (e.cont.map (·.name)),0⟩:ag))
     | 13=>@ΦR ag _ w6 99 13 113 ([(⟨af,eK x.prec e.prec,0⟩:ag),(⟨aE,eK x.cont (e.cont.map (·.name)),0⟩:ag)]) 2
     | 14=>@ΦS ap _ w6 99 ((jP e.prec (e.cont.map (·.name)) x:ap))
     | 15=>@ΦR ap _ w6 99 15 110 ([jP e.prec (e.cont.map (·.name)) x]) 1
     | _=>fun _ _ _=>False) (by kernel_rfl) (by kernel_rfl) (by kernel_rfl) (by kernel_rfl) ?_ ?_ ?_
    ·intro i v c1 w1 c2 w2 h hb hc
     match i with
     | 0=>exact h
     | 1=>exact h
     | 2=>exact h
     | 3=>exact h
     | 4=>exact h
     | 5=>exact h
     | 6=>exact h
     | 7=>exact h
     | 8=>exact ΦS.mono h hb hc
     | 9=>exact h
     | 10=>exact h
     | 11=>exact h
     | 12=>exact ΦS.mono h hb hc
     | 13=>exact ΦR.mono h hb hc
     | 14=>exact ΦS.mono h hb hc
     | 15=>exact ΦR.mono h hb hc
     | _+16=>exact h
    ·intro Q0 i hi a1 col wc aW aH eN ac;have ga:=aH.size
     match i,hi with
     | 0,_=>
      have e3:a1.tmps[3]?=some (.pointer (some ⟨g,0,none⟩)):=(aW.2 3 (by kernel_rfl)).trans rfl;clear ac;refine aa rfl rfl (.pointer (some ⟨g,1,none⟩)) ?_ (Below.refl _ _) rfl;go_simp
     | 1,_=>
      obtain⟨v65,ev,acd⟩:=ac 0 (by kernel_rfl);have e65:=ev 65 rfl;clear ev;obtain rfl:v65=_:=acd;clear ac;have lj:wc.cell? ⟨g,1,none⟩=some (.slice A n c):=(eL.out.blk.keep aH).cell 1;refine aa rfl rfl (.slice A n c) ?_ (Below.refl _ _) rfl;go_simp
     | 2,_=>
      have e8:a1.tmps[8]?=some (.pointer (some ⟨gb,0,none⟩)):=(aW.2 8 (by kernel_rfl)).trans rfl;clear ac;refine aa rfl rfl (.pointer (some ⟨gb,0,none⟩)) ?_ (Below.refl _ _) rfl;go_simp
     | 3,_=>
      obtain⟨v67,ev,acb⟩:=ac 2 (by kernel_rfl);have e67:=ev 67 rfl;clear ev;obtain rfl:v67=_:=acb;clear ac;have lj:wc.cell? ⟨gb,0,none⟩=some (.string x.name):=(sQ.out.keep aH).cell 0;refine aa rfl rfl (.string x.name) ?_ (Below.refl _ _) rfl;go_simp
     | 4,_=>
      have e8:a1.tmps[8]?=some (.pointer (some ⟨gb,0,none⟩)):=(aW.2 8 (by kernel_rfl)).trans rfl;clear ac;refine aa rfl rfl (.pointer (some ⟨gb,1,none⟩)) ?_ (Below.refl _ _) rfl;go_simp
     | 5,_=>
      obtain⟨v69,ev,ab9⟩:=ac 4 (by kernel_rfl);have e69:=ev 69 rfl;clear ev;obtain rfl:v69=_:=ab9;clear ac;have lj:wc.cell? ⟨gb,1,none⟩=some (.slice Ai ni ci):=(sQ.out.keep aH).cell 1;refine aa rfl rfl (.slice Ai ni ci) ?_ (Below.refl _ _) rfl;go_simp
     | 6,_=>
      have e1:a1.tmps[1]?=some (.pointer (some ⟨w.heap.size,0,none⟩)):=(aW.2 1 (by kernel_rfl)).trans rfl;clear ac;refine aa rfl rfl (.pointer (some ⟨w.heap.size,4,none⟩)) ?_ (Below.refl _ _) rfl;go_simp
     | 7,_=>
      obtain⟨v71,ev,ab7⟩:=ac 6 (by kernel_rfl);have e71:=ev 71 rfl;clear ev;obtain rfl:v71=_:=ab7;clear ac;have lj:wc.cell? ⟨w.heap.size,4,none⟩=some (.slice AP nP cP):=(pu.out.keep aH).cell 4;refine aa rfl rfl (.slice AP nP cP) ?_ (Below.refl _ _) rfl;go_simp
     | 8,_=>
      obtain⟨v70,ev,ab8⟩:=ac 5 (by kernel_rfl);have e70:=ev 70 rfl;clear ev;obtain rfl:v70=_:=ab8;obtain⟨v72,ev,ab6⟩:=ac 7 (by kernel_rfl);have e72:=ev 72 rfl;clear ev;obtain rfl:v72=_:=ab6;clear ac;refine aM rfl rfl 71 #[.string af,.slice Ai ni ci,.slice AP nP cP] ?_ (Kx af (ZA.out.below aH mz.out) (RB.out.below aH mz.out) (fun b h=>Nat.lt_of_lt_of_le (mz.out b h) ga) (fun b h=>Nat.lt_of_lt_of_le (mz.out b h) ga) HNI.out) (fun e w2 hr=>ΦS.of_ret hr ga (by decide));go_simp;try rfl
     | 9,_=>
      have e8:a1.tmps[8]?=some (.pointer (some ⟨gb,0,none⟩)):=(aW.2 8 (by kernel_rfl)).trans rfl;clear ac;refine aa rfl rfl (.pointer (some ⟨gb,2,none⟩)) ?_ (Below.refl _ _) rfl;go_simp
     | 10,_=>
      obtain⟨v74,ev,ab4⟩:=ac 9 (by kernel_rfl);have e74:=ev 74 rfl;clear ev;obtain rfl:v74=_:=ab4;clear ac;have lj:wc.cell? ⟨gb,2,none⟩=some (.slice Aj nj cj):=(sQ.out.keep aH).cell 2;refine aa rfl rfl (.slice Aj nj cj) ?_ (Below.refl _ _) rfl;go_simp
     | 11,_=>
      have e4:a1.tmps[4]?=some (.slice A4 n4 c4):=(aW.2 4 (by kernel_rfl)).trans rfl;clear ac;refine aa rfl rfl (.slice A4 n4 c4) ?_ (Below.refl _ _) rfl;go_simp
     | 12,_=>
      obtain⟨v75,ev,ab3⟩:=ac 10 (by kernel_rfl);have e75:=ev 75 rfl;clear ev;obtain rfl:v75=_:=ab3;obtain⟨v76,ev,ab2⟩:=ac 11 (by kernel_rfl);have e76:=ev 76 rfl;clear ev;obtain rfl:v76=_:=ab2;clear ac;refine aM rfl rfl 71 #[.string aE,.slice Aj nj cj,.slice A4 n4 c4] ?_ (Kx aE (HRJ.out.below aH mz.out) ((eL.out.nms.rs (S':=fun b=>b<w6.heap.size) (fun _ h=>h.elim) (fun _ _ h=>h)).below aH (fun _ h=>h)) (fun b h=>Nat.lt_of_lt_of_le (mz.out b h) ga) (fun b h=>Nat.lt_of_lt_of_le h ga) HNJ.out) (fun e w2 hr=>ΦS.of_ret hr ga (by decide));go_simp;try rfl
     | 13,_=>
      obtain⟨v73,ev,ab5⟩:=ac 8 (by kernel_rfl);have e73:=ev 73 rfl;clear ev;obtain⟨aD9,rfl,A73,n73,c73,rfl,h73⟩:=ab5;obtain⟨v77,ev,ab1⟩:=ac 12 (by kernel_rfl);have e77:=ev 77 rfl;clear ev;obtain⟨aD8,rfl,A77,n77,c77,rfl,h77⟩:=ab1;clear ac;have hf:Flat wc (RD w6 99 col wc) [.string af,.slice A73 n73 c73,.int .i64 0,.string aE,.slice A77 n77 c77,.int .i64 0] ([(⟨af,eK x.prec e.prec,0⟩:ag),(⟨aE,eK x.cont (e.cont.map (·.name)),0⟩:ag)]):=Flat.cons (ds:=[_,_,_]) ⟨A73,n73,c73,rfl,h73⟩ (Flat.cons (ds:=[_,_,_]) ⟨A77,n77,c77,rfl,h77⟩ (Flat.nil));refine aa rfl rfl (.slice (some ⟨wc.heap.size,0,none⟩) 2 2) (w':=wc.alloc (.cells #[.string af,.slice A73 n73 c73,.int .i64 0,.string aE,.slice A77 n77 c77,.int .i64 0] 113)) ?_ (aT _ _) (ΦR.built (cs:=[.string af,.slice A73 n73 c73,.int .i64 0,.string aE,.slice A77 n77 c77,.int .i64 0]) (t:=113) hf (fun b hb=>eN b hb.1 hb.2.1) rfl (by simp[Value.oneCell']) ga);go_simp;try rfl
     | 14,_=>
      obtain⟨v68,ev,aca⟩:=ac 3 (by kernel_rfl);have e68:=ev 68 rfl;clear ev;obtain rfl:v68=_:=aca;obtain⟨v78,ev,XV⟩:=ac 13 (by kernel_rfl);have e78:=ev 78 rfl;clear ev;have P78:=XV;obtain⟨g78,aD7,rfl,hg78,aaP,ajd,ajt,hn78,aq6⟩:=XV;have h78:=tg hg78 aaP (show 13≠99 by decide) ajd ajt hn78 (by decide);clear hg78 aaP ajd ajt hn78 aq6;clear ac;refine aa rfl rfl (.agg #[.string aQ,.string x.name,.slice (some ⟨g78,0,none⟩) 2 2,.int .i64 0]) ?_ (Below.refl _ _) (ΦS.mono (x:=(jP e.prec (e.cont.map (·.name)) x:ap)) (c1:=col) (w1:=wc) (⟨_,rfl,_,_,_,rfl,h78⟩) (Below.refl _ _) fun b hb=>fE hb);go_simp;try rfl
     | 15,_=>
      obtain⟨v79,ev,ab0⟩:=ac 14 (by kernel_rfl);have e79:=ev 79 rfl;clear ev;obtain⟨aD6,rfl,A79,n79,c79,rfl,h79⟩:=ab0;clear ac;have hf:Flat wc (RD w6 99 col wc) [.string aQ,.string x.name,.slice A79 n79 c79,.int .i64 0] ([jP e.prec (e.cont.map (·.name)) x]):=Flat.cons (ds:=[_,_,_,_]) ⟨A79,n79,c79,rfl,h79⟩ (Flat.nil);refine aa rfl rfl (.slice (some ⟨wc.heap.size,0,none⟩) 1 1) (w':=wc.alloc (.cells #[.string aQ,.string x.name,.slice A79 n79 c79,.int .i64 0] 110)) ?_ (aT _ _) (ΦR.built (cs:=[.string aQ,.string x.name,.slice A79 n79 c79,.int .i64 0]) (t:=110) hf (fun b hb=>eN b hb.1 hb.2.1) rfl (by simp[Value.oneCell']) ga);go_simp;try rfl
     | k+16,hk=>exact absurd hk (by omega)
    intro Jz col wc hl0 aH hΦ;obtain⟨v0,J4,rfl,hl1⟩:=aj hl0;clear hl0;obtain⟨v1,JY,rfl,hl2⟩:=aj hl1;clear hl1;obtain⟨v2,L2,rfl,hl3⟩:=aj hl2;clear hl2;obtain⟨v3,L1,rfl,hl4⟩:=aj hl3;clear hl3;obtain⟨v4,OX,rfl,hl5⟩:=aj hl4;clear hl4;obtain⟨v5,PS,rfl,hl6⟩:=aj hl5;clear hl5;obtain⟨v6,Td,rfl,hl7⟩:=aj hl6;clear hl6;obtain⟨v7,Tc,rfl,hl8⟩:=aj hl7;clear hl7;obtain⟨v8,Tb,rfl,hl9⟩:=aj hl8;clear hl8;obtain⟨v9,Ij,rfl,hl10⟩:=aj hl9;clear hl9;obtain⟨Bg,J3,rfl,hl11⟩:=aj hl10;clear hl10;obtain⟨zQ,J2,rfl,hl12⟩:=aj hl11;clear hl11;obtain⟨zO,J1,rfl,hl13⟩:=aj hl12;clear hl12;obtain⟨CF,J0,rfl,hl14⟩:=aj hl13;clear hl13;obtain⟨dw,JZ,rfl,hl15⟩:=aj hl14;clear hl14;obtain⟨dE,MF,rfl,hl16⟩:=aj hl15;clear hl15;obtain rfl:=List.length_eq_zero_iff.1 hl16;clear hl16;have p0:=hΦ 0 _ rfl;obtain rfl:v0=_:=p0;have p1:=hΦ 1 _ rfl;obtain rfl:v1=_:=p1;have p2:=hΦ 2 _ rfl;obtain rfl:v2=_:=p2;have p3:=hΦ 3 _ rfl;obtain rfl:v3=_:=p3;have p4:=hΦ 4 _ rfl;obtain rfl:v4=_:=p4;have p5:=hΦ 5 _ rfl;obtain rfl:v5=_:=p5;have p6:=hΦ 6 _ rfl;obtain rfl:v6=_:=p6;have p7:=hΦ 7 _ rfl;obtain rfl:v7=_:=p7;have p8:=hΦ 8 _ rfl;obtain⟨VU,rfl,A8,n8,c8,rfl,h8⟩:=p8;have p9:=hΦ 9 _ rfl;obtain rfl:v9=_:=p9;have DG:=hΦ 10 _ rfl;obtain rfl:Bg=_:=DG;have DF:=hΦ 11 _ rfl;obtain rfl:zQ=_:=DF;have DD:=hΦ 12 _ rfl;obtain⟨Rk,rfl,Z2,n12,SI,rfl,h12⟩:=DD;have DC:=hΦ 13 _ rfl;obtain⟨sU,Lu,rfl,hg13,Bz,qO,K8,hn13,QE⟩:=DC;have p14:=hΦ 14 _ rfl;obtain⟨aeS,rfl,A14,n14,c14,rfl,h14⟩:=p14;have Ng:=hΦ 15 _ rfl;obtain⟨g15,Lt,rfl,hg15,Vf,sA,YJ,hn15,Ys⟩:=Ng;clear hΦ;simp only[List.take_succ_cons,List.take_zero,iD,gd,Act.put,List.setIfInBounds_toArray,List.set_cons_zero,List.set_cons_succ];have ji:=(eL.out.grow aH);refine bB rfl rfl fun K hK=>?_;refine cw (α:=ap) _ _ 79 rfl 64 Tryz.blkTy rfl ji.own ⟨g15,0,none⟩ 1 1 Lt [jP e.prec (e.cont.map (·.name)) x] rfl (by rfl) (YJ.keep (fun b hb=>by have hq:=Gp.out.apart_of (b:=b) hb.1.1 (Nat.lt_of_lt_of_le (Nat.lt_succ_self _) (by exact hb.1.2.1));exact hq) (aD.refl _ _)) (iu sA) Ys (by rw[ew.out];simp;omega) (Nat.le_trans ji.base (Nat.le_refl _)) fun v9 w9 q1 q2 q3=>hK _ _ ?_;clear hK K;obtain⟨A9,n9,c9,rfl,zG⟩:=q1.slice;have uq:=zH q1;have vn:=zH q2;have Cz:=zH q3;have ko:=ji.blk.grown q2 (fun e=>ji.ne e.symm);have y2:w9.cell? ⟨g,1,none⟩=some (.slice A n c):=ko.cell 1;have y3:w9.frozen? ⟨g,1,none⟩=false:=ko.frozen 1;have ER:=zH ji;have oz:=zH aH;clear q1 q2 q3 zG ko ji aH hg15 Vf sA YJ hn15 Ys hg13 Bz qO K8 hn13 QE;refine eH (w':=w9) rfl rfl (.pointer (some ⟨g,1,none⟩)) ?_ ?_
    ·go_simp
    try simp only[Act.put,List.getElem_toArray,List.getElem_cons_zero,List.getElem_cons_succ,List.setIfInBounds_toArray,List.set_cons_zero,List.set_cons_succ]
    refine bB rfl rfl fun K hK=>?_;go_simp;refine hK _ _ ?_;clear hK K;have db:=ER.out.next uq.out vn.out Cz.out;obtain⟨w7,jY⟩:∃q,w9.setCell ⟨g,1,none⟩ (.slice A9 n9 c9)=q:=⟨_,rfl⟩;rw[jY] at db;rw[jY];have oU:=zH db;clear db jY y2 y3 h8 h12 h14;go_wp2_with fail;go_roundw
    case rel=>exact⟨k2+1,_,_,_,by go_num,by omega,by rw[Hz.out,List.map_append,←List.append_assoc];exact oU.out⟩
    case measure=>simp[intOf];omega
   have fI:k2=nS:=by omega
   have tw:=ky.out;rw[List.take_of_length_le (by rw[C5.out];omega)] at tw;obtain⟨w6,qk⟩:∃q,wr=q:=⟨_,rfl⟩;subst qk;have eL:=zH tw;have Gp:=eL;have Bw:=ew.out;rw[List.take_of_length_le (by rw[C5.out];omega)] at Bw;clear ew;have ew:=zH Bw;have mz:Hid (∀b,S b→b<wr.heap.size):=zH zI;have pu:=zH (ut.out.keep wE.out);have avi:=zH (HRN.out.below wE.out pQ.out);have avl:=zH (RG.out.below wE.out pQ.out);have Wm:=zH (tW.out.up Ba.out wE.out);have Wl:=zH (Nat.le_trans Ba.out wE.out.size);clear tw Bw ky;go_wp2_with fail;refine cf 17 2 (fun i=>match i with
    | 0=>ΦV (.pointer (some ⟨g,1,none⟩))
    | 1=>ΦV (.slice A n c)
    | 2=>ΦV (.pointer (some ⟨w.heap.size,9,none⟩))
    | 3=>ΦV (.agg #[.bool e.risk.neg,.slice AN nN cN,.slice AD nD cD])
    | 4=>ΦV (.string ⟨(iV e.risk.q).toArray⟩)
    | 5=>@ΦS ag _ wr 99 ((⟨bP,[⟨(iV e.risk.q).toArray⟩],0⟩:ag))
    | 6=>ΦV (.pointer (some ⟨w.heap.size,13,none⟩))
    | 7=>ΦV (.string e.seed)
    | 8=>@ΦS ag _ wr 99 ((⟨ck,[e.seed],0⟩:ag))
    | 9=>@ΦR ag _ wr 99 9 113 ([(⟨bP,[⟨(iV e.risk.q).toArray⟩],0⟩:ag),(⟨ck,[e.seed],0⟩:ag)]) 2
    | 10=>@ΦS ap _ wr 99 ((⟨aI,⟨#[]⟩,[(⟨bP,[⟨(iV e.risk.q).toArray⟩],0⟩:ag),(⟨ck,[e.seed],0⟩:ag)],0⟩:ap))
    | 11=>ΦV (.pointer (some ⟨w.heap.size,12,none⟩))
    | 12=>ΦV (.int .i64 e.cell)
    | 13=>@ΦS ag _ wr 99 (bZ df e.cell)
    | 14=>@ΦR ag _ wr 99 14 113 ([bZ df e.cell]) 1
    | 15=>@ΦS ap _ wr 99 ((⟨aJ,⟨#[]⟩,[bZ df e.cell],0⟩:ap))
    | 16=>@ΦR ap _ wr 99 16 110 ([(⟨aI,⟨#[]⟩,[(⟨bP,[⟨(iV e.risk.q).toArray⟩],0⟩:ag),(⟨ck,[e.seed],0⟩:ag)],0⟩:ap),(⟨aJ,⟨#[]⟩,[bZ df e.cell],0⟩:ap)]) 2
    | _=>fun _ _ _=>False) (by kernel_rfl) (by kernel_rfl) (by kernel_rfl) (by kernel_rfl) ?_ ?_ ?_
   ·intro i v c1 w1 c2 w2 h hb hc
    match i with
    | 0=>exact h
    | 1=>exact h
    | 2=>exact h
    | 3=>exact h
    | 4=>exact h
    | 5=>exact ΦS.mono h hb hc
    | 6=>exact h
    | 7=>exact h
    | 8=>exact ΦS.mono h hb hc
    | 9=>exact ΦR.mono h hb hc
    | 10=>exact ΦS.mono h hb hc
    | 11=>exact h
    | 12=>exact h
    | 13=>exact ΦS.mono h hb hc
    | 14=>exact ΦR.mono h hb hc
    | 15=>exact ΦS.mono h hb hc
    | 16=>exact ΦR.mono h hb hc
    | _+17=>exact h
   ·intro Q0 i hi a1 col wc aW aH eN ac;have ga:=aH.size
    match i,hi with
    | 0,_=>
     have e3:a1.tmps[3]?=some (.pointer (some ⟨g,0,none⟩)):=(aW.2 3 (by kernel_rfl)).trans rfl;clear ac;refine aa rfl rfl (.pointer (some ⟨g,1,none⟩)) ?_ (Below.refl _ _) rfl;go_simp
    | 1,_=>
     obtain⟨v84,ev,abZ⟩:=ac 0 (by kernel_rfl);have e84:=ev 84 rfl;clear ev;obtain rfl:v84=_:=abZ;clear ac;have lj:wc.cell? ⟨g,1,none⟩=some (.slice A n c):=(eL.out.blk.keep aH).cell 1;refine aa rfl rfl (.slice A n c) ?_ (Below.refl _ _) rfl;go_simp
    | 2,_=>
     have e1:a1.tmps[1]?=some (.pointer (some ⟨w.heap.size,0,none⟩)):=(aW.2 1 (by kernel_rfl)).trans rfl;clear ac;refine aa rfl rfl (.pointer (some ⟨w.heap.size,9,none⟩)) ?_ (Below.refl _ _) rfl;go_simp
    | 3,_=>
     obtain⟨v86,ev,apj⟩:=ac 2 (by kernel_rfl);have e86:=ev 86 rfl;clear ev;obtain rfl:v86=_:=apj;clear ac;have lj:wc.cell? ⟨w.heap.size,9,none⟩=some (.bool e.risk.neg):=(pu.out.keep aH).cell 9;have ld1:wc.cell? ⟨w.heap.size,10,none⟩=some (.slice AN nN cN):=(pu.out.keep aH).cell 10;have ld2:wc.cell? ⟨w.heap.size,11,none⟩=some (.slice AD nD cD):=(pu.out.keep aH).cell 11;refine aa rfl rfl (.agg #[.bool e.risk.neg,.slice AN nN cN,.slice AD nD cD]) ?_ (Below.refl _ _) rfl;go_simp
    | 4,_=>
     obtain⟨v87,ev,api⟩:=ac 3 (by kernel_rfl);have e87:=ev 87 rfl;clear ev;obtain rfl:v87=_:=api;clear ac;refine aM rfl rfl 73 #[.agg #[.bool e.risk.neg,.slice AN nN cN,.slice AD nD cD]] ?_ (Tq ⟨_,rfl,AN,nN,cN,AD,nD,cD,rfl,avi.out.below aH mz.out,avl.out.below aH mz.out⟩ (fun b h=>Nat.lt_of_lt_of_le (mz.out b h) ga) vW.out.short) (fun e w2 hr=>ΦV.of_ret hr);go_simp;try rfl
    | 5,_=>
     obtain⟨v88,ev,aph⟩:=ac 4 (by kernel_rfl);have e88:=ev 88 rfl;clear ev;obtain rfl:v88=_:=aph;clear ac;refine aM rfl rfl 72 #[.string bP,.string ⟨(iV e.risk.q).toArray⟩] ?_ (nf bP _ wc) (fun e w2 hr=>ΦS.of_ret hr ga (by decide));go_simp;try rfl
    | 6,_=>
     have e1:a1.tmps[1]?=some (.pointer (some ⟨w.heap.size,0,none⟩)):=(aW.2 1 (by kernel_rfl)).trans rfl;clear ac;refine aa rfl rfl (.pointer (some ⟨w.heap.size,13,none⟩)) ?_ (Below.refl _ _) rfl;go_simp
    | 7,_=>
     obtain⟨v90,ev,apf⟩:=ac 6 (by kernel_rfl);have e90:=ev 90 rfl;clear ev;obtain rfl:v90=_:=apf;clear ac;have lj:wc.cell? ⟨w.heap.size,13,none⟩=some (.string e.seed):=(pu.out.keep aH).cell 13;refine aa rfl rfl (.string e.seed) ?_ (Below.refl _ _) rfl;go_simp
    | 8,_=>
     obtain⟨v91,ev,ape⟩:=ac 7 (by kernel_rfl);have e91:=ev 91 rfl;clear ev;obtain rfl:v91=_:=ape;clear ac;refine aM rfl rfl 72 #[.string ck,.string e.seed] ?_ (nf ck _ wc) (fun e w2 hr=>ΦS.of_ret hr ga (by decide));go_simp;try rfl
    | 9,_=>
     obtain⟨v89,ev,apg⟩:=ac 5 (by kernel_rfl);have e89:=ev 89 rfl;clear ev;obtain⟨aD2,rfl,A89,n89,c89,rfl,h89⟩:=apg;obtain⟨v92,ev,apd⟩:=ac 8 (by kernel_rfl);have e92:=ev 92 rfl;clear ev;obtain⟨aD1,rfl,A92,n92,c92,rfl,h92⟩:=apd;clear ac;have hf:Flat wc (RD wr 99 col wc) [.string bP,.slice A89 n89 c89,.int .i64 0,.string ck,.slice A92 n92 c92,.int .i64 0] ([(⟨bP,[⟨(iV e.risk.q).toArray⟩],0⟩:ag),(⟨ck,[e.seed],0⟩:ag)]):=Flat.cons (ds:=[_,_,_]) ⟨A89,n89,c89,rfl,h89⟩ (Flat.cons (ds:=[_,_,_]) ⟨A92,n92,c92,rfl,h92⟩ (Flat.nil));refine aa rfl rfl (.slice (some ⟨wc.heap.size,0,none⟩) 2 2) (w':=wc.alloc (.cells #[.string bP,.slice A89 n89 c89,.int .i64 0,.string ck,.slice A92 n92 c92,.int .i64 0] 113)) ?_ (aT _ _) (ΦR.built (cs:=[.string bP,.slice A89 n89 c89,.int .i64 0,.string ck,.slice A92 n92 c92,.int .i64 0]) (t:=113) hf (fun b hb=>eN b hb.1 hb.2.1) rfl (by simp[Value.oneCell']) ga);go_simp;try rfl
    | 10,_=>
     obtain⟨v93,ev,ahK⟩:=ac 9 (by kernel_rfl);have e93:=ev 93 rfl;clear ev;have P93:=ahK;obtain⟨g93,aD0,rfl,hg93,aaO,aja,ajs,hn93,aq5⟩:=ahK;have h93:=tg hg93 aaO (show 9≠99 by decide) aja ajs hn93 (by decide);clear hg93 aaO aja ajs hn93 aq5;clear ac;refine aa rfl rfl (.agg #[.string aI,.string ⟨#[]⟩,.slice (some ⟨g93,0,none⟩) 2 2,.int .i64 0]) ?_ (Below.refl _ _) (ΦS.mono (x:=(⟨aI,⟨#[]⟩,[(⟨bP,[⟨(iV e.risk.q).toArray⟩],0⟩:ag),(⟨ck,[e.seed],0⟩:ag)],0⟩:ap)) (c1:=col) (w1:=wc) (⟨_,rfl,_,_,_,rfl,h93⟩) (Below.refl _ _) fun b hb=>fE hb);go_simp;try rfl
    | 11,_=>
     have e1:a1.tmps[1]?=some (.pointer (some ⟨w.heap.size,0,none⟩)):=(aW.2 1 (by kernel_rfl)).trans rfl;clear ac;refine aa rfl rfl (.pointer (some ⟨w.heap.size,12,none⟩)) ?_ (Below.refl _ _) rfl;go_simp
    | 12,_=>
     obtain⟨v95,ev,apb⟩:=ac 11 (by kernel_rfl);have e95:=ev 95 rfl;clear ev;obtain rfl:v95=_:=apb;clear ac;have lj:wc.cell? ⟨w.heap.size,12,none⟩=some (.int .i64 e.cell):=(pu.out.keep aH).cell 12;refine aa rfl rfl (.int .i64 e.cell) ?_ (Below.refl _ _) rfl;go_simp
    | 13,_=>
     obtain⟨v96,ev,apa⟩:=ac 12 (by kernel_rfl);have e96:=ev 96 rfl;clear ev;obtain rfl:v96=_:=apa;clear ac;refine aM rfl rfl 68 #[.string df,.int .i64 e.cell] ?_ (lz (Wm.out.up Wl.out aH) (Nat.le_trans Wl.out ga) df e.cell vW.out.cell.1 vW.out.cell.2) (fun e w2 hr=>ΦS.of_ret hr ga (by decide));go_simp;try rfl
    | 14,_=>
     obtain⟨v97,ev,ao9⟩:=ac 13 (by kernel_rfl);have e97:=ev 97 rfl;clear ev;obtain⟨aDY,rfl,A97,n97,c97,rfl,h97⟩:=ao9;clear ac;have hf:Flat wc (RD wr 99 col wc) [.string df,.slice A97 n97 c97,.int .i64 0] ([bZ df e.cell]):=Flat.cons (ds:=[_,_,_]) ⟨A97,n97,c97,rfl,h97⟩ (Flat.nil);refine aa rfl rfl (.slice (some ⟨wc.heap.size,0,none⟩) 1 1) (w':=wc.alloc (.cells #[.string df,.slice A97 n97 c97,.int .i64 0] 113)) ?_ (aT _ _) (ΦR.built (cs:=[.string df,.slice A97 n97 c97,.int .i64 0]) (t:=113) hf (fun b hb=>eN b hb.1 hb.2.1) rfl (by simp[Value.oneCell']) ga);go_simp;try rfl
    | 15,_=>
     obtain⟨v98,ev,ahJ⟩:=ac 14 (by kernel_rfl);have e98:=ev 98 rfl;clear ev;have P98:=ahJ;obtain⟨g98,aDX,rfl,hg98,aaN,ai9,ajr,hn98,aq4⟩:=ahJ;have h98:=tg hg98 aaN (show 14≠99 by decide) ai9 ajr hn98 (by decide);clear hg98 aaN ai9 ajr hn98 aq4;clear ac;refine aa rfl rfl (.agg #[.string aJ,.string ⟨#[]⟩,.slice (some ⟨g98,0,none⟩) 1 1,.int .i64 0]) ?_ (Below.refl _ _) (ΦS.mono (x:=(⟨aJ,⟨#[]⟩,[bZ df e.cell],0⟩:ap)) (c1:=col) (w1:=wc) (⟨_,rfl,_,_,_,rfl,h98⟩) (Below.refl _ _) fun b hb=>fE hb);go_simp;try rfl
    | 16,_=>
     obtain⟨v94,ev,apc⟩:=ac 10 (by kernel_rfl);have e94:=ev 94 rfl;clear ev;obtain⟨aDZ,rfl,A94,n94,c94,rfl,h94⟩:=apc;obtain⟨v99,ev,ao8⟩:=ac 15 (by kernel_rfl);have e99:=ev 99 rfl;clear ev;obtain⟨aDW,rfl,A99,n99,c99,rfl,h99⟩:=ao8;clear ac;have hf:Flat wc (RD wr 99 col wc) [.string aI,.string ⟨#[]⟩,.slice A94 n94 c94,.int .i64 0,.string aJ,.string ⟨#[]⟩,.slice A99 n99 c99,.int .i64 0] ([(⟨aI,⟨#[]⟩,[(⟨bP,[⟨(iV e.risk.q).toArray⟩],0⟩:ag),(⟨ck,[e.seed],0⟩:ag)],0⟩:ap),(⟨aJ,⟨#[]⟩,[bZ df e.cell],0⟩:ap)]):=Flat.cons (ds:=[_,_,_,_]) ⟨A94,n94,c94,rfl,h94⟩ (Flat.cons (ds:=[_,_,_,_]) ⟨A99,n99,c99,rfl,h99⟩ (Flat.nil));refine aa rfl rfl (.slice (some ⟨wc.heap.size,0,none⟩) 2 2) (w':=wc.alloc (.cells #[.string aI,.string ⟨#[]⟩,.slice A94 n94 c94,.int .i64 0,.string aJ,.string ⟨#[]⟩,.slice A99 n99 c99,.int .i64 0] 110)) ?_ (aT _ _) (ΦR.built (cs:=[.string aI,.string ⟨#[]⟩,.slice A94 n94 c94,.int .i64 0,.string aJ,.string ⟨#[]⟩,.slice A99 n99 c99,.int .i64 0]) (t:=110) hf (fun b hb=>eN b hb.1 hb.2.1) rfl (by simp[Value.oneCell']) ga);go_simp;try rfl
    | k+17,hk=>exact absurd hk (by omega)
   intro Jz col wc hl0 aH hΦ;obtain⟨v0,J4,rfl,hl1⟩:=aj hl0;clear hl0;obtain⟨v1,JY,rfl,hl2⟩:=aj hl1;clear hl1;obtain⟨v2,L2,rfl,hl3⟩:=aj hl2;clear hl2;obtain⟨v3,L1,rfl,hl4⟩:=aj hl3;clear hl3;obtain⟨v4,OX,rfl,hl5⟩:=aj hl4;clear hl4;obtain⟨v5,PS,rfl,hl6⟩:=aj hl5;clear hl5;obtain⟨v6,Td,rfl,hl7⟩:=aj hl6;clear hl6;obtain⟨v7,Tc,rfl,hl8⟩:=aj hl7;clear hl7;obtain⟨v8,Tb,rfl,hl9⟩:=aj hl8;clear hl8;obtain⟨v9,Ij,rfl,hl10⟩:=aj hl9;clear hl9;obtain⟨Bg,J3,rfl,hl11⟩:=aj hl10;clear hl10;obtain⟨zQ,J2,rfl,hl12⟩:=aj hl11;clear hl11;obtain⟨zO,J1,rfl,hl13⟩:=aj hl12;clear hl12;obtain⟨CF,J0,rfl,hl14⟩:=aj hl13;clear hl13;obtain⟨dw,JZ,rfl,hl15⟩:=aj hl14;clear hl14;obtain⟨dE,MF,rfl,hl16⟩:=aj hl15;clear hl15;obtain⟨dQ,Te,rfl,hl17⟩:=aj hl16;clear hl16;obtain rfl:=List.length_eq_zero_iff.1 hl17;clear hl17;have p0:=hΦ 0 _ rfl;obtain rfl:v0=_:=p0;have p1:=hΦ 1 _ rfl;obtain rfl:v1=_:=p1;have p2:=hΦ 2 _ rfl;obtain rfl:v2=_:=p2;have p3:=hΦ 3 _ rfl;obtain rfl:v3=_:=p3;have p4:=hΦ 4 _ rfl;obtain rfl:v4=_:=p4;have p5:=hΦ 5 _ rfl;obtain⟨Ey,rfl,A5,n5,c5,rfl,h5⟩:=p5;have p6:=hΦ 6 _ rfl;obtain rfl:v6=_:=p6;have p7:=hΦ 7 _ rfl;obtain rfl:v7=_:=p7;have p8:=hΦ 8 _ rfl;obtain⟨VU,rfl,A8,n8,c8,rfl,h8⟩:=p8;have p9:=hΦ 9 _ rfl;obtain⟨g9,cs9,rfl,hg9,adP,hk9,yO,hn9,uh⟩:=p9;have DG:=hΦ 10 _ rfl;obtain⟨aeT,rfl,A10,n10,VZ,rfl,h10⟩:=DG;have DF:=hΦ 11 _ rfl;obtain rfl:zQ=_:=DF;have DD:=hΦ 12 _ rfl;obtain rfl:zO=_:=DD;have DC:=hΦ 13 _ rfl;obtain⟨Lu,rfl,L0,n13,Hs,rfl,h13⟩:=DC;have p14:=hΦ 14 _ rfl;obtain⟨qK,aeS,rfl,hg14,G2,om,adC,hn14,ac7⟩:=p14;have Ng:=hΦ 15 _ rfl;obtain⟨Lt,rfl,Xw,n15,c15,rfl,h15⟩:=Ng;have TY:=hΦ 16 _ rfl;obtain⟨g16,Ls,rfl,hg16,El,FW,FZ,hn16,IK⟩:=TY;clear hΦ;simp only[List.take_succ_cons,List.take_zero,iD,gd,Act.put,List.setIfInBounds_toArray,List.set_cons_zero,List.set_cons_succ];have ji:=(eL.out.grow aH);refine bB rfl rfl fun K hK=>?_;refine cw (α:=ap) _ _ 79 rfl 64 Tryz.blkTy rfl ji.own ⟨g16,0,none⟩ 2 2 Ls [(⟨aI,⟨#[]⟩,[(⟨bP,[⟨(iV e.risk.q).toArray⟩],0⟩:ag),(⟨ck,[e.seed],0⟩:ag)],0⟩:ap),(⟨aJ,⟨#[]⟩,[bZ df e.cell],0⟩:ap)] rfl (by rfl) (FZ.keep (fun b hb=>by have hq:=Gp.out.apart_of (b:=b) hb.1.1 (Nat.lt_of_lt_of_le (Nat.lt_succ_self _) (by exact hb.1.2.1));exact hq) (aD.refl _ _)) (iu FW) IK (by rw[ew.out];simp;omega) (Nat.le_trans ji.base (Nat.le_refl _)) fun v9 w9 q1 q2 q3=>hK _ _ ?_;clear hK K;obtain⟨A9,n9,c9,rfl,zG⟩:=q1.slice;have uq:=zH q1;have vn:=zH q2;have Cz:=zH q3;have ko:=ji.blk.grown q2 (fun e=>ji.ne e.symm);have y2:w9.cell? ⟨g,1,none⟩=some (.slice A n c):=ko.cell 1;have y3:w9.frozen? ⟨g,1,none⟩=false:=ko.frozen 1;have ER:=zH ji;have oz:=zH aH;clear q1 q2 q3 zG ko ji aH hg16 El FW FZ hn16 IK hg9 adP hk9 yO hn9 uh hg14 G2 om adC hn14 ac7;refine eH (w':=w9) rfl rfl (.pointer (some ⟨g,1,none⟩)) ?_ ?_
   ·go_simp
   try simp only[Act.put,List.getElem_toArray,List.getElem_cons_zero,List.getElem_cons_succ,List.setIfInBounds_toArray,List.set_cons_zero,List.set_cons_succ]
   refine bB rfl rfl fun K hK=>?_;go_simp;refine hK _ _ ?_;clear hK K;have db:=ER.out.next uq.out vn.out Cz.out;obtain⟨w7,jY⟩:∃q,w9.setCell ⟨g,1,none⟩ (.slice A9 n9 c9)=q:=⟨_,rfl⟩;rw[jY] at db;rw[jY];have oj:=E7.out.keep db.bel;have d0:w7.cell? ⟨g,0,none⟩=some (.string e.title):=db.blk.cell 0;have d1:w7.cell? ⟨g,1,none⟩=some (.slice A9 n9 c9):=db.blk.cell 1;have z0:w7.cell? ⟨w.heap.size+1,0,none⟩=some (.string ⟨#[]⟩):=oj.cell 0;have z1:w7.cell? ⟨w.heap.size+1,1,none⟩=some (.slice none 0 0):=oj.cell 1;have zf0:w7.frozen? ⟨w.heap.size+1,0,none⟩=false:=oj.frozen 0;have zf1:w7.frozen? ⟨w.heap.size+1,1,none⟩=false:=oj.frozen 1;have oU:=zH db;have av1:=zH oj;have kq:=zH (bS.out.trans (db.bel.mono bS.out.size));clear db jY y2 y3 oj h5 h8 h10 h13 h15;go_wp2_with fail;refine bC (x:=mC e) (S:=fun b=>w1.heap.size≤b∧b<w7.heap.size) (cs:=[.string e.title,.slice A9 n9 c9]) rfl rfl (Nat.le_succ _) av1.out rfl Tryz.underlying81 rfl (by kernel_rfl) ⟨_,_,_,rfl,?_⟩ (fun b hb=>⟨⟨Nat.le_trans bS.out.size hb.1,hb.2⟩,by have:=oh.out;have:=hb.1;omega⟩) kq.out rfl id;exact oU.out.rs
end Go.Proofs.YtjlhbfbdcfajfaaGreatDoor
