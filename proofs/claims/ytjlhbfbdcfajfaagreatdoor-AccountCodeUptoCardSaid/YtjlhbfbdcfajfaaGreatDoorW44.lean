/- AccountCode -/
import Derived.Test.YtjlhbfbdcfajfaaGreatDoorW00
import Derived.Test.YtjlhbfbdcfajfaaGreatDoorW42
import Derived.Test.YtjlhbfbdcfajfaaGreatDoorW40
import Derived.Test.YtjlhbfbdcfajfaaGreatDoorTie
import Derived.Test.YtjlhbfbdcfajfaaGreatDoorCards
set_option maxHeartbeats 8000000
set_option maxRecDepth 100000
namespace Go.Proofs.YtjlhbfbdcfajfaaGreatDoor.lawCode
open Go.RowKit Go.ChangeShapes Go.WideShapes Go.ChangeAt Go.WideMaps Go.WideElems Go.ChangeMaps Go.Deep
theorem rj {W:World} (h:laidMetH Tryz.prog Rows.accountCodeUptoRow.laid W):Hh W.heap.size W:=by
 rw[MakeChecks.laidMetH_plain _ _ _ (by kernel_rfl)] at h;exact sY (Lib.laidMet.reads h (.tail _ (.tail _ (.head _))))
theorem lR (os:Os) {H:Type} (enc:TypeId×Value→H):∃places,DataW.whole enc Tryz.prog ((World.laidAll Tryz.prog os Rows.accountCodeUptoRow.laid).forCall (fun _ _=>0) ⟨#[],#[.agg #[.string ⟨#[]⟩,.int .i64 0,.int .i64 0,.int .i64 0,.slice none 0 0,.slice none 0 0,.slice none 0 0,.int .i64 0,.int .i64 0,.bool false,.slice none 0 0,.slice none 0 0,.int .i64 0,.string ⟨#[]⟩],.slice none 0 0],[]⟩).memory Tryz.f8.params.toList Rows.accountCodeSpec.vars false (#[.agg #[.string ⟨#[]⟩,.int .i64 0,.int .i64 0,.int .i64 0,.slice none 0 0,.slice none 0 0,.slice none 0 0,.int .i64 0,.int .i64 0,.bool false,.slice none 0 0,.slice none 0 0,.int .i64 0,.string ⟨#[]⟩],.slice none 0 0]:Array Value).toList 8=some ([.agg [.lit (.string []),.lit (.int .i64 0),.lit (.int .i64 0),.lit (.int .i64 0),.nil,.nil,.nil,.lit (.int .i64 0),.lit (.int .i64 0),.agg [.lit (.bool false),.nil,.nil],.lit (.int .i64 0),.lit (.string [])],.nil],[],places):=⟨[],by kernel_rfl⟩
theorem lifted (os:Os) (started:os.Started) (H:Type) (enc:TypeId×Value→H) (F:Stop.Interp) : ReturnsInHanded {} Tryz.checked os 8 .any ((Rows.OpenSpec.upto Rows.accountCodeSpec).preRow enc Tryz.prog Tryz.f8 Rows.accountCodeUptoRow.domain false Rows.accountCodeUptoRow.laid) (((Rows.OpenSpec.upto Rows.accountCodeSpec).at F).post enc Tryz.prog Tryz.f8 false true false false):=by
 obtain⟨places,hx⟩:=lR os enc;refine returnsInHanded_of_row (C:=Tryz.checked) (s:=(Rows.OpenSpec.upto Rows.accountCodeSpec)) Tryz.own' started (by kernel_rfl) Tryz.func8
  (im (enc:=enc) (C:=Tryz.checked) false (World.laidAll Tryz.prog os Rows.accountCodeUptoRow.laid) #[.agg #[.string ⟨#[]⟩,.int .i64 0,.int .i64 0,.int .i64 0,.slice none 0 0,.slice none 0 0,.slice none 0 0,.int .i64 0,.int .i64 0,.bool false,.slice none 0 0,.slice none 0 0,.int .i64 0,.string ⟨#[]⟩],.slice none 0 0] (World.laidAll_os _ _ _) (World.shaped_of_ZipB (by kernel_rfl) (by kernel_rfl)) (by kernel_rfl)
   (OpenSpec.preRow_of_cond 8 hx (by kernel_rfl) (fun k hk=>by cases hk;kernel_rfl) (by kernel_rfl) (by rw[MakeChecks.laidMetH_plain _ _ _ (by kernel_rfl)];exact laidMet_laidAll _ (by kernel_rfl) (by kernel_rfl)))) ?_
 clear hx;intro W base args ds gs before hval0 hW _ oB _ hL _ _;have hk:Rows.uptoSmall H (ds++gs)=true:=oB _ rfl;have rQ:Rows.uptoBulkAll (ds++gs)≤1048576:=of_decide_eq_true hk;clear oB hk;have uX:∀(j:Nat) t v,Tryz.f8.params[j]?=some t→args[j]?=some v→Value.okWide Tryz.prog W .any base t v:=hval0;have hW':=hW;obtain⟨p,q,hA0,hV,rfl,hfz,Gx⟩:=hW;have hA:DataW.TrodAll enc Tryz.prog W 0 (fun _=>true) true Tryz.f8.params.toList args.toList ds p:=hA0;rw[Tryz.params8] at hA uX;obtain⟨v0,vs0,d0,ds0,p0,q0,P6,rfl,rfl,h0,r0⟩:=trodAll_cons hA;obtain⟨v1,vs1,d1,ds1,p1,q1,xw,rfl,rfl,h1,r1⟩:=trodAll_cons r0;obtain⟨rfl,rfl,rfl⟩:=trodAll_nil r1;obtain rfl:=xw;obtain rfl:args=#[v0,v1]:=by cases args;simp_all
 obtain⟨rfl,rfl⟩:=trodVars_none hV;have k0:=h0;have lt0:∀x∈p0,x.block<W.heap.size:=by obtain⟨m,hm⟩:=k0;exact DataW.trod_lt m _ _ _ hm
 have bk0:Rows.uptoBulk d0≤1048576:=abk (mU (by simp)) rQ;have k1:=h1;have lt1:∀x∈p1,x.block<W.heap.size:=by obtain⟨m,hm⟩:=k1;exact DataW.trod_lt m _ _ _ hm
 have bk1:Rows.uptoBulk d1≤1048576:=abk (mU (by simp)) rQ;obtain⟨u3,rfl,_⟩:=okWide_struct Tryz.underlying30 (uX 0 30 v0 rfl rfl);obtain⟨l0⟩:=u3;obtain⟨Xg,ZN⟩:=h0;obtain⟨x0,zQ,D4,hb0⟩:=Tryz.opbElec _ _ _ _ _ _ _ _ _ ZN;have P2:=abk hb0 bk0;have Pk:SV W (fun b=>b<W.heap.size) (.agg l0.toArray) x0:=⟨l0,rfl,zQ⟩;obtain⟨A1,n1,c1,rfl⟩:=okWide_slice Tryz.underlying31 (uX 1 31 v1 rfl rfl);obtain⟨Xf,BI⟩:=h1;obtain⟨x1,⟨B1,m1,e1,q31,WP⟩,PL,cI⟩:=Tryz.opbAccts _ _ _ _ _ _ _ _ _ BI;obtain⟨rfl,rfl,rfl⟩:A1=B1∧n1=m1∧c1=e1:=by
  have e4:Value.slice A1 n1 c1=Value.slice B1 m1 e1:=by injection q31
  injection e4 with a b c
  exact⟨a,b,c⟩
 have aeX:=abk cI bk1;have hT:=rj hL;clear hA0 hval0 hL hA;refine(lawAC_any hT (abi _) Pk (m0 D4 P2) WP).mono fun e W' ⟨he,Ms⟩=>?_;subst he;exact⟨_,rfl,_,_,_,[],_,[],hW',trodAll_mk1 (shut_bool Tryz.underlying4 _),(trodAll_cons_mk (Below.trod Tryz.laidOut (by kernel_rfl) (of_decide_eq_true (by kernel_rfl)) k0 Ms lt0) (trodAll_cons_mk (Below.trod Tryz.laidOut (by kernel_rfl) (of_decide_eq_true (by kernel_rfl)) k1 Ms lt1) trodAll_mk0)),rfl,Ms.frame _,fun h=>by cases h⟩
theorem lX:Rows.AccountCodeUptoSaid:=
 OpenClaim.holds_of_cond 8 Tryz.f8 rfl rfl rfl rfl rfl rfl rfl ⟨rfl,rfl,rfl,rfl,rfl⟩ rfl rfl rfl rfl rfl (by kernel_rfl) Tryz.func8 (by kernel_rfl)
  (of_decide_eq_true (by kernel_rfl)) (by unfold Func.isWrapper;first|(rw[if_pos (by decide+kernel)];kernel_rfl)|(rw[if_neg (by decide+kernel)];exact⟨rfl,rfl⟩))
  (fun os started H enc _ F=>by rw[OpenClaim.pre_eq_preRow];exact lifted os started H enc F)
theorem proved:Rows.AccountCodeUptoCardSaid:=
 Claim7.holds_tied_plain_at .later [] _ _ _ _ lX (fun _ h=>by cases h) (by kernel_rfl) (fun _ h=>by cases h) accountCodeUpto_row_tie rfl ⟨rfl,rfl⟩ (by kernel_rfl) rfl
  (fun f fn hf UN=>by
   obtain rfl:f=8:=aaZ ((show Tryz.prog.funcNamed "election/electionlaw20.AccountCode" =some 8 by kernel_rfl).symm.trans hf) |>.symm;obtain rfl:fn=Tryz.f8:=(aaZ (Tryz.func8.symm.trans UN)).symm;exact⟨by kernel_rfl,fun j t ht=>by
    rw[Tryz.params8] at ht;have hm:t∈[30,31]:=by simpa using Array.mem_of_getElem? ht
    have dM:([30,31].all fun u=>!Tryz.prog.wantsStandIn u)=true:=by kernel_rfl
    exact(show Tryz.prog.wantsStandIn t=false by simpa using abv.1 dM t hm)⟩)
  (by kernel_rfl)
end Go.Proofs.YtjlhbfbdcfajfaaGreatDoor.lawCode
