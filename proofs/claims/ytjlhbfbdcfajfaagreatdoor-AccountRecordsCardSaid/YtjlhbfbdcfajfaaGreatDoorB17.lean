/- Sch7 -/
import Derived.Test.YtjlhbfbdcfajfaaGreatDoorB16
namespace Go.Proofs.YtjlhbfbdcfajfaaGreatDoor
open Go.RowKit Go.Maps Go.WideMaps
structure fc where
 no:Int
 line:Int
instance:bG fc where
 sz:=2
 rep _ _ cs x:=cs=[.int .i64 x.no,.int .i64 x.line]
 len h:=by rw[h];rfl
 keep h _ _:=h
def au:ByteArray:=⟨#[109,101,116,104,111,100]⟩
def ao:ByteArray:=⟨#[100,105,103,105,116,115]⟩
def ax:ByteArray:=⟨#[115,101,97,116,115]⟩
def ah:ByteArray:=⟨#[99,111,110,116,101,115,116]⟩
def aB:ByteArray:=⟨#[115,99,97,110]⟩
def aO:ByteArray:=⟨#[98,108,97,110,107]⟩
def az:ByteArray:=⟨#[109,97,114,107,101,100]⟩
def aS.n (v:aS) (k:ByteArray):Int:=(v.num k).getD 0
def aS.l (v:aS) (k:ByteArray):Int:=(v.ln k).getD 0
def pO (v:aS) (k:ByteArray):Bool:=!(v.ln k).isSome&&(decide (k≠ao)||decide (v.n au=2))
def qo (kind:ByteArray) (line:Int) (v:aS):fc:=
 if(v.ln ao).isSome=true∧v.n au≠2 then⟨5,v.l ao⟩
 else if kind=ah∧v.n au=1∧1<v.n ax then⟨4,v.l ax⟩
 else if kind=aB∧v.n az<v.n aO then⟨4,line⟩
 else⟨0,0⟩
def tr (v:aS) (line:Int) (e:fc):List ByteArray→fc
 | []=>e
 | k::l=>if pO v k=true then⟨6,line⟩ else tr v line e l
def lB (kind:ByteArray) (line:Int) (v:aS):fc:=tr v line (qo kind line v) (aN kind)
theorem ints_at (f:ByteArray→Option Int) (k:ByteArray):((ints f) k).getD (.int .i64 0)=.int .i64 ((f k).getD 0):=by
 unfold ints;cases f k<;>rfl
theorem GP (f:ByteArray→Option Int) (k:ByteArray):((ints f) k).isSome=(f k).isSome:=by
 unfold ints;cases f k<;>rfl
theorem KL (kind:ByteArray):∀k∈aN kind,k.size≤100:=by
 unfold aN
 repeat' split
 all_goals decide
theorem ai {w:World} {b n:Nat} {f:ByteArray→Option Value} {ops:Array Oper} {rest:List Oper} {o:Oper} {a:Act} {Q:Exit→Act→World→Prop} (hw:Region.wanted o (yielded ops a.tmps)=true) (m x:Operand) (t e:TypeId) (FS:o.op=Op.lookup t m x false) (ht:Tryz.prog.underlying t=some (.map 9 e)) (z:Value) (hz:(zeroValue e).run Tryz.prog w=.ok z w) (hm:a.eval m=.map (some b)) (h:dr w b n f) (s:ByteArray) (hx:a.eval x=.string s) (hs:s.size≤maxLen) (u:Value) (hu:(f s).getD z=u) (hK:wpList Tryz.prog ops Q rest (a.put o.dst u) w):wpList Tryz.prog ops Q (o::rest) a w:=by
 obtain⟨D,h1,_,_,h3⟩:=h;obtain⟨v,ps,rN,hv⟩:=h1.lookup o9 ht hz (zd:=.held z) (zp:=[]) rfl (rf s hs);rw[h3] at hv;have Sf:v=(f s).getD z:=sB hv;rw[hu] at Sf;subst Sf;refine BigFrame.wpList_want hw fun K' hK'=>?_;unfold Oper.wp;simp[execOp,FS,hm,hx,rN,Result.andThen];exact hK' _ _ hK
theorem mb3{p:Prop}(h:p:=by
 have bm:=zH av;clear av iL;try clear xR
 try clear h2
 try clear hx
 go_wp2_with (first|(at_lookup;refine aP rfl _ _ _ 3 rfl Tryz.underlying166 (.int .i64 0) rfl rfl fz.out.ln x rfl GU u HU.out _ HD.out ?_)|(at_lookup;refine ai (by first|rfl|kernel_rfl) _ _ _ 3 rfl Tryz.underlying166 (.int .i64 0) rfl rfl fz.out.num au rfl (by decide) (.int .i64 M) HM.out ?_));go_roundw
 case rel=>exact⟨k+1,by go_num,by omega,bm.out,by first|trivial|rfl⟩
 case measure=>simp[intOf];omega):p:=h
theorem mb2{p:Prop}(h:p:=by
 have bm:=zH av;clear av iL;try clear xR
 try clear h2
 try clear hx
 go_wp2_with (first|(at_lookup;refine aP rfl _ _ _ 3 rfl Tryz.underlying166 (.int .i64 0) rfl rfl fz.out.ln x rfl GU u HU.out _ HD.out ?_)|(at_lookup;refine ai (by first|rfl|kernel_rfl) _ _ _ 3 rfl Tryz.underlying166 (.int .i64 0) rfl rfl fz.out.num au rfl (by decide) (.int .i64 M) HM.out ?_));refine bC (x:=z) (S:=fun _=>False) (cs:=[.int .i64 6,.int .i64 line]) rfl rfl (Nat.le_refl _) jg.out rfl Tryz.underlying76 rfl (by kernel_rfl) ?_ (fun b hb=>hb.elim) bX.out rfl id;rw[bm.out];rfl):p:=h
theorem mb1{p:Prop}(h:p:=by
 have bm:=zH av;clear av kU;try clear h1
 try clear h2
 go_wp2_with (first|(at_lookup;refine aP rfl _ _ _ 3 rfl Tryz.underlying166 (.int .i64 0) rfl rfl fz.out.ln ao rfl (by decide) (.int .i64 lD) Hy.out _ Ih.out ?_)|(at_lookup;refine ai (by first|rfl|kernel_rfl) _ _ _ 3 rfl Tryz.underlying166 (.int .i64 0) rfl rfl fz.out.num au rfl (by decide) (.int .i64 M) HM.out ?_)|(at_lookup;refine ai (by first|rfl|kernel_rfl) _ _ _ 3 rfl Tryz.underlying166 (.int .i64 0) rfl rfl fz.out.num ax rfl (by decide) (.int .i64 sN) o7.out ?_)|(at_lookup;refine ai (by first|rfl|kernel_rfl) _ _ _ 3 rfl Tryz.underlying166 (.int .i64 0) rfl rfl fz.out.ln ax rfl (by decide) (.int .i64 sL) kE.out ?_));refine Go.wp_region_quiet_lit (by kernel_rfl) (by kernel_rfl) ?_;repeat (first|(go_big_quiet_step (fail))|(go_big_quiet_want;(with_reducible (first|(refine cI _ _ _ 3 rfl Tryz.underlying166 (.int .i64 0) (fun _=>rfl) rfl fz.out.num aO rfl (by decide) (.int .i64 bN) xI.out ?_)|(refine cI _ _ _ 3 rfl Tryz.underlying166 (.int .i64 0) (fun _=>rfl) rfl fz.out.num az rfl (by decide) (.int .i64 mN) ZD.out ?_)));(try simp only[Act.put,List.setIfInBounds_toArray,List.set_cons_zero,List.set_cons_succ]);(try simp only[List.getElem_toArray,List.getElem_cons_zero,List.getElem_cons_succ]);go_big_quiet_on))
 refine Go.wpQuiet_nil ?_;intro _ Ux;obtain⟨nq,aqo⟩:=Ux;subst aqo;go_wp2_with (first|(at_lookup;refine aP rfl _ _ _ 3 rfl Tryz.underlying166 (.int .i64 0) rfl rfl fz.out.ln ao rfl (by decide) (.int .i64 lD) Hy.out _ Ih.out ?_)|(at_lookup;refine ai (by first|rfl|kernel_rfl) _ _ _ 3 rfl Tryz.underlying166 (.int .i64 0) rfl rfl fz.out.num au rfl (by decide) (.int .i64 M) HM.out ?_)|(at_lookup;refine ai (by first|rfl|kernel_rfl) _ _ _ 3 rfl Tryz.underlying166 (.int .i64 0) rfl rfl fz.out.num ax rfl (by decide) (.int .i64 sN) o7.out ?_)|(at_lookup;refine ai (by first|rfl|kernel_rfl) _ _ _ 3 rfl Tryz.underlying166 (.int .i64 0) rfl rfl fz.out.ln ax rfl (by decide) (.int .i64 sL) kE.out ?_));have jg:=zH (jg.out.drewN nq);have bX:=zH (below_drewN bX.out nq);refine bC (x:=z) (S:=fun _=>False) (cs:=[.int .i64 0,.int .i64 0]) rfl rfl (Nat.le_refl _) jg.out rfl Tryz.underlying76 rfl (by kernel_rfl) ?_ (fun b hb=>hb.elim) bX.out rfl id;rw[bm.out];rfl):p:=h
theorem mb0{p:Prop}(h:p:=by
 have bm:=zH av;clear av kU;try clear h1
 try clear h2
 go_wp2_with (first|(at_lookup;refine aP rfl _ _ _ 3 rfl Tryz.underlying166 (.int .i64 0) rfl rfl fz.out.ln ao rfl (by decide) (.int .i64 lD) Hy.out _ Ih.out ?_)|(at_lookup;refine ai (by first|rfl|kernel_rfl) _ _ _ 3 rfl Tryz.underlying166 (.int .i64 0) rfl rfl fz.out.num au rfl (by decide) (.int .i64 M) HM.out ?_)|(at_lookup;refine ai (by first|rfl|kernel_rfl) _ _ _ 3 rfl Tryz.underlying166 (.int .i64 0) rfl rfl fz.out.num ax rfl (by decide) (.int .i64 sN) o7.out ?_)|(at_lookup;refine ai (by first|rfl|kernel_rfl) _ _ _ 3 rfl Tryz.underlying166 (.int .i64 0) rfl rfl fz.out.ln ax rfl (by decide) (.int .i64 sL) kE.out ?_));refine Go.wp_region_quiet_lit (by kernel_rfl) (by kernel_rfl) ?_;repeat (first|(go_big_quiet_step (fail))|(go_big_quiet_want;(with_reducible (first|(refine cI _ _ _ 3 rfl Tryz.underlying166 (.int .i64 0) (fun _=>rfl) rfl fz.out.num aO rfl (by decide) (.int .i64 bN) xI.out ?_)|(refine cI _ _ _ 3 rfl Tryz.underlying166 (.int .i64 0) (fun _=>rfl) rfl fz.out.num az rfl (by decide) (.int .i64 mN) ZD.out ?_)));(try simp only[Act.put,List.setIfInBounds_toArray,List.set_cons_zero,List.set_cons_succ]);(try simp only[List.getElem_toArray,List.getElem_cons_zero,List.getElem_cons_succ]);go_big_quiet_on))
 refine Go.wpQuiet_nil ?_;intro _ Ux;obtain⟨nq,aqo⟩:=Ux;subst aqo;go_wp2_with (first|(at_lookup;refine aP rfl _ _ _ 3 rfl Tryz.underlying166 (.int .i64 0) rfl rfl fz.out.ln ao rfl (by decide) (.int .i64 lD) Hy.out _ Ih.out ?_)|(at_lookup;refine ai (by first|rfl|kernel_rfl) _ _ _ 3 rfl Tryz.underlying166 (.int .i64 0) rfl rfl fz.out.num au rfl (by decide) (.int .i64 M) HM.out ?_)|(at_lookup;refine ai (by first|rfl|kernel_rfl) _ _ _ 3 rfl Tryz.underlying166 (.int .i64 0) rfl rfl fz.out.num ax rfl (by decide) (.int .i64 sN) o7.out ?_)|(at_lookup;refine ai (by first|rfl|kernel_rfl) _ _ _ 3 rfl Tryz.underlying166 (.int .i64 0) rfl rfl fz.out.ln ax rfl (by decide) (.int .i64 sL) kE.out ?_));have jg:=zH (jg.out.drewN nq);have bX:=zH (below_drewN bX.out nq);refine bC (x:=z) (S:=fun _=>False) (cs:=[.int .i64 4,.int .i64 line]) rfl rfl (Nat.le_refl _) jg.out rfl Tryz.underlying76 rfl (by kernel_rfl) ?_ (fun b hb=>hb.elim) bX.out rfl id;rw[bm.out];rfl):p:=h
set_option maxRecDepth 20000 in
set_option maxHeartbeats 2000000 in
theorem Ly {w:World} {B g N:Nat} {v:aS} (h:lT w B g N v) (kind:ByteArray) (line:Int) : Calls Tryz.prog 96 #[.pointer (some ⟨g,0,none⟩),.string kind,.int .i64 line] w (gh w (lB kind line v)):=by
 obtain⟨z,hz⟩:∃z,lB kind line v=z:=⟨_,rfl⟩;have bq:Below w.heap.size w (w.alloc (.cells #[.int .i64 0,.int .i64 0] 76)):=(Below.refl _ _).alloc (Nat.le_refl _) _;have ct:aK (w.alloc (.cells #[.int .i64 0,.int .i64 0] 76)) w.heap.size 76 #[.int .i64 0,.int .i64 0]:=aK.new _ _ _;obtain⟨w1,bj⟩:∃x,w.alloc (.cells #[.int .i64 0,.int .i64 0] 76)=x:=⟨_,rfl⟩;rw[bj] at bq ct;rw[hz];have dO:=zH bj;have HZ:=zH hz.symm;have K0:=D5 kind w1;have PI:=zH K0;have HV:=zH (h.keep bq);have jc:=zH bq;have mY:=zH ct;clear hz bj K0 h bq ct;go_enter Tryz.func96,Tryz.ntmps96;go_wp2_with fail;rw[dO.out];refine PI.out.mono ?_;rintro e w2 ⟨A,n,c,rfl,hr,_,bY⟩;obtain⟨m1,m2,m3,f,A5,n5,c5,A6,n6,c6,ed⟩:=HV.out.keep bY;have fM:=mY.out.keep bY;have HR:=zH hr;have fz:=zH ed;have jg:=zH fM;have bX:=zH (ae jc.out bY);have s0:w2.cell? ⟨w.heap.size,0,none⟩=some (.int .i64 0):=fM.cell 0;have s1:w2.cell? ⟨w.heap.size,1,none⟩=some (.int .i64 0):=fM.cell 1;have f0:=fM.frozen 0;have f1:=fM.frozen 1;have g0:w2.cell? ⟨g,0,none⟩=some (.map (some m1)):=ed.blk.cell 0;have g2:w2.cell? ⟨g,2,none⟩=some (.map (some m3)):=ed.blk.cell 2;have HL:=zH hr.len;have hn:n≤9223372036854775807:=hr.max;obtain⟨rest,uQ⟩:∃r,qo kind line v=r:=⟨_,rfl⟩;have eh:=HZ.out;unfold lB at eh;rw[uQ] at eh;have fy:=zH eh;have HRE:=zH uQ.symm;obtain⟨M,hM⟩:∃M,v.n au=M:=⟨_,rfl⟩;have HM:Hid (((ints v.num) au).getD (.int .i64 0)=.int .i64 M):=zH (by rw[ints_at,←hM];rfl);have HMM:=zH hM;clear bY hr ed fM HZ eh uQ hM;go_wp2_with fail;go_loopw [16] (fun iv wr=>∃k:Nat,iv=.int .i64 k∧k≤n∧z=tr v line rest ((aN kind).drop k)∧wr=w2) (fun iv _=>n-(intOf iv).toNat)
 case atStart=>exact⟨0,rfl,Nat.zero_le _,by simpa using fy.out,rfl⟩
 case round=>
  clear fy;obtain⟨k,rfl,hk,pF,rfl⟩:=hrel;have ql:=zH pF;clear pF;by_cases bn:k<n
  ·have dK:(k:Int)<(n:Int):=by omega
   have gO:(k:Int)≤(c:Int):=by have:=HR.out.cap;omega
   have xp:k≤c:=by omega
   obtain⟨b,o,x,rfl,_,hx,e1⟩:=HR.out.str_at bn;have GU:x.size≤maxLen:=Nat.le_trans (KL kind x (List.mem_of_getElem? hx)) (by unfold maxLen;omega);have pF:z=if pO v x=true then⟨6,line⟩ else tr v line rest ((aN kind).drop (k+1)):=by
    rw[ql.out,vM hx,tr]
   have iL:=zH pF;obtain⟨d,hd⟩:∃d,(v.ln x).isSome=d:=⟨_,rfl⟩;obtain⟨u,hu⟩:∃u,((ints v.ln) x).getD (.int .i64 0)=u:=⟨_,rfl⟩;have HU:=zH hu;have HD:=zH (show((ints v.ln) x).isSome=d by rw[GP,hd]);have HDD:=zH hd;clear hx pF ql hu hd;cases d
   case true=>
    have av:z=tr v line rest ((aN kind).drop (k+1)):=by
     rw[iL.out,if_neg];simp[pO,HDD.out]
    exact mb3
   case false=>
    by_cases hx:x=ao
    ·have ex:(x.toList==[100,105,103,105,116,115])=true:=by rw[hx,ByteArray.toList_eq];rfl
     by_cases h2:M=2
     ·have h2':(M==2)=true:=by rw[beq_iff_eq];exact h2
      have xR:=HMM.out;have av:z=⟨6,line⟩:=by
       rw[iL.out,if_pos];rw[h2] at xR;unfold pO;rw[HDD.out,xR];simp
      exact mb2
     ·have h2':(M==2)=false:=by rw[beq_eq_false_iff_ne];exact h2
      have xR:=HMM.out;have av:z=tr v line rest ((aN kind).drop (k+1)):=by
       rw[iL.out,if_neg];unfold pO;rw[HDD.out,xR,decide_eq_false h2,hx];decide
      exact mb3
    ·have ex:(x.toList==[100,105,103,105,116,115])=false:=aC (l:=[100,105,103,105,116,115]) hx;have av:z=⟨6,line⟩:=by
      rw[iL.out,if_pos];unfold pO;rw[HDD.out,decide_eq_true hx];rfl
     exact mb2
  ·have fI:k=n:=by omega
   have av:z=rest:=by
    rw[ql.out,List.drop_eq_nil_of_le (by rw[HL.out];omega)];rfl
   have bm:=zH av;clear av fI ql;obtain⟨d,hd⟩:∃d,(v.ln ao).isSome=d:=⟨_,rfl⟩;obtain⟨lD,hlD⟩:∃d,v.l ao=d:=⟨_,rfl⟩;obtain⟨sN,hsN⟩:∃d,v.n ax=d:=⟨_,rfl⟩;obtain⟨sL,hsL⟩:∃d,v.l ax=d:=⟨_,rfl⟩;obtain⟨bN,hbN⟩:∃d,v.n aO=d:=⟨_,rfl⟩;obtain⟨mN,hmN⟩:∃d,v.n az=d:=⟨_,rfl⟩;have Ih:=zH (show((ints v.ln) ao).isSome=d by rw[GP,hd]);have Hy:=zH (show((ints v.ln) ao).getD (.int .i64 0)=.int .i64 lD by rw[ints_at,←hlD];rfl);have o7:=zH (show((ints v.num) ax).getD (.int .i64 0)=.int .i64 sN by rw[ints_at,←hsN];rfl);have kE:=zH (show((ints v.ln) ax).getD (.int .i64 0)=.int .i64 sL by rw[ints_at,←hsL];rfl);have xI:=zH (show((ints v.num) aO).getD (.int .i64 0)=.int .i64 bN by rw[ints_at,←hbN];rfl);have ZD:=zH (show((ints v.num) az).getD (.int .i64 0)=.int .i64 mN by rw[ints_at,←hmN];rfl);have Sj:=HRE.out;unfold qo at Sj;rw[hd,HMM.out,hlD,hsN,hsL,hbN,hmN,←bm.out] at Sj;have kU:=zH Sj;have ary:((k:Int)<(n:Int))=False:=eq_false (by omega);clear hd hlD hsN hsL hbN hmN Sj HRE HMM bm;cases d
   case false=>
    by_cases hc:kind=ah
    ·subst hc;by_cases h1:M=1
     ·have Cn:(M==1)=true:=by rw[beq_iff_eq];exact h1
      by_cases hs:1<sN
      ·have xk:=hs;unfold ah at kU PI HL ⊢;have av:z=⟨4,sL⟩:=by
        rw[kU.out];rw[if_neg (by rintro⟨h,_⟩;exact absurd h (by decide)),if_pos ⟨rfl,h1,hs⟩]
       have bm:=zH av;clear av kU;try clear h1
       try clear h2
       go_wp2_with (first|(at_lookup;refine aP rfl _ _ _ 3 rfl Tryz.underlying166 (.int .i64 0) rfl rfl fz.out.ln ao rfl (by decide) (.int .i64 lD) Hy.out _ Ih.out ?_)|(at_lookup;refine ai (by first|rfl|kernel_rfl) _ _ _ 3 rfl Tryz.underlying166 (.int .i64 0) rfl rfl fz.out.num au rfl (by decide) (.int .i64 M) HM.out ?_)|(at_lookup;refine ai (by first|rfl|kernel_rfl) _ _ _ 3 rfl Tryz.underlying166 (.int .i64 0) rfl rfl fz.out.num ax rfl (by decide) (.int .i64 sN) o7.out ?_)|(at_lookup;refine ai (by first|rfl|kernel_rfl) _ _ _ 3 rfl Tryz.underlying166 (.int .i64 0) rfl rfl fz.out.ln ax rfl (by decide) (.int .i64 sL) kE.out ?_));refine bC (x:=z) (S:=fun _=>False) (cs:=[.int .i64 4,.int .i64 sL]) rfl rfl (Nat.le_refl _) jg.out rfl Tryz.underlying76 rfl (by kernel_rfl) ?_ (fun b hb=>hb.elim) bX.out rfl id;rw[bm.out];rfl
      ·have xk:(1<sN)=False:=eq_false hs;unfold ah at kU PI HL ⊢;have av:z=⟨0,0⟩:=by
        rw[kU.out];rw[if_neg (by rintro⟨h,_⟩;exact absurd h (by decide)),if_neg (fun h=>hs h.2.2),if_neg (by rintro⟨h,_⟩;exact absurd h (by decide))]
       exact mb1
     ·have Cn:(M==1)=false:=by rw[beq_eq_false_iff_ne];exact h1
      unfold ah at kU PI HL ⊢;have av:z=⟨0,0⟩:=by
       rw[kU.out];rw[if_neg (by rintro⟨h,_⟩;exact absurd h (by decide)),if_neg (fun h=>h1 h.2.1),if_neg (by rintro⟨h,_⟩;exact absurd h (by decide))]
      exact mb1
    have ec:(kind.toList==[99,111,110,116,101,115,116])=false:=aC (l:=[99,111,110,116,101,115,116]) hc;by_cases hs:kind=aB
    ·subst hs;by_cases hb:mN<bN
     ·unfold aB at kU PI HL ec hc ⊢;have av:z=⟨4,line⟩:=by
       rw[kU.out];rw[if_neg (by rintro⟨h,_⟩;exact absurd h (by decide)),if_neg (fun h=>hc h.1),if_pos ⟨rfl,hb⟩]
      exact mb0
     ·have xU:(mN<bN)=False:=eq_false hb;unfold aB at kU PI HL ec hc ⊢;have av:z=⟨0,0⟩:=by
       rw[kU.out];rw[if_neg (by rintro⟨h,_⟩;exact absurd h (by decide)),if_neg (fun h=>hc h.1),if_neg (fun h=>hb h.2)]
      exact mb1
    ·have es:(kind.toList==[115,99,97,110])=false:=aC (l:=[115,99,97,110]) hs;have av:z=⟨0,0⟩:=by
      rw[kU.out];rw[if_neg (by rintro⟨h,_⟩;exact absurd h (by decide)),if_neg (fun h=>hc h.1),if_neg (fun h=>hs h.1)]
     exact mb1
   case true=>
    by_cases h2:M=2
    ·have h2':(M==2)=true:=by rw[beq_iff_eq];exact h2
     by_cases hc:kind=ah
     ·subst hc;have Cn:(M==1)=false:=by rw[beq_eq_false_iff_ne];omega
      unfold ah at kU PI HL ⊢;have av:z=⟨0,0⟩:=by
       rw[kU.out];rw[if_neg (by rintro⟨_,h⟩;exact h h2),if_neg (by omega),if_neg (by rintro⟨h,_⟩;exact absurd h (by decide))]
      exact mb1
     have ec:(kind.toList==[99,111,110,116,101,115,116])=false:=aC (l:=[99,111,110,116,101,115,116]) hc;by_cases hs:kind=aB
     ·subst hs;by_cases hb:mN<bN
      ·unfold aB at kU PI HL ec hc ⊢;have av:z=⟨4,line⟩:=by
        rw[kU.out];rw[if_neg (by rintro⟨_,h⟩;exact h h2),if_neg (fun h=>hc h.1),if_pos ⟨rfl,hb⟩]
       exact mb0
      ·have xU:(mN<bN)=False:=eq_false hb;unfold aB at kU PI HL ec hc ⊢;have av:z=⟨0,0⟩:=by
        rw[kU.out];rw[if_neg (by rintro⟨_,h⟩;exact h h2),if_neg (fun h=>hc h.1),if_neg (fun h=>hb h.2)]
       exact mb1
     ·have es:(kind.toList==[115,99,97,110])=false:=aC (l:=[115,99,97,110]) hs;have av:z=⟨0,0⟩:=by
       rw[kU.out];rw[if_neg (by rintro⟨_,h⟩;exact h h2),if_neg (fun h=>hc h.1),if_neg (fun h=>hs h.1)]
      exact mb1
    ·have h2':(M==2)=false:=by rw[beq_eq_false_iff_ne];exact h2
     have av:z=⟨5,lD⟩:=by
      rw[kU.out];rw[if_pos ⟨rfl,h2⟩]
     have bm:=zH av;clear av kU;try clear h1
     try clear h2
     go_wp2_with (first|(at_lookup;refine aP rfl _ _ _ 3 rfl Tryz.underlying166 (.int .i64 0) rfl rfl fz.out.ln ao rfl (by decide) (.int .i64 lD) Hy.out _ Ih.out ?_)|(at_lookup;refine ai (by first|rfl|kernel_rfl) _ _ _ 3 rfl Tryz.underlying166 (.int .i64 0) rfl rfl fz.out.num au rfl (by decide) (.int .i64 M) HM.out ?_)|(at_lookup;refine ai (by first|rfl|kernel_rfl) _ _ _ 3 rfl Tryz.underlying166 (.int .i64 0) rfl rfl fz.out.num ax rfl (by decide) (.int .i64 sN) o7.out ?_)|(at_lookup;refine ai (by first|rfl|kernel_rfl) _ _ _ 3 rfl Tryz.underlying166 (.int .i64 0) rfl rfl fz.out.ln ax rfl (by decide) (.int .i64 sL) kE.out ?_));refine bC (x:=z) (S:=fun _=>False) (cs:=[.int .i64 5,.int .i64 lD]) rfl rfl (Nat.le_refl _) jg.out rfl Tryz.underlying76 rfl (by kernel_rfl) ?_ (fun b hb=>hb.elim) bX.out rfl id;rw[bm.out];rfl
end Go.Proofs.YtjlhbfbdcfajfaaGreatDoor
