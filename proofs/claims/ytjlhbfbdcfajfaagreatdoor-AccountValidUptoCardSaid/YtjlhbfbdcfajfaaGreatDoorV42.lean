/- AccountValid -/
import Derived.Test.YtjlhbfbdcfajfaaGreatDoorV00
import Derived.Test.YtjlhbfbdcfajfaaGreatDoorV40
import Derived.Test.YtjlhbfbdcfajfaaGreatDoorV41
import Derived.Test.YtjlhbfbdcfajfaaGreatDoorTie
import Derived.Test.YtjlhbfbdcfajfaaGreatDoorCards
set_option maxHeartbeats 8000000
set_option maxRecDepth 100000
namespace Go.Proofs.YtjlhbfbdcfajfaaGreatDoor.lawAValid
open Go.RowKit Go.ChangeShapes Go.WideShapes Go.ChangeAt Go.WideMaps Go.WideElems Go.ChangeMaps Go.Deep
theorem Q9 {W:World} (h:laidMetH Tryz.prog Rows.accountValidUptoRow.laid W):PD W.heap.size W:=by
 rw[MakeChecks.laidMetH_plain _ _ _ (by kernel_rfl)] at h;exact IV (Lib.laidMet.reads h (.tail _ (.tail _ (.head _))))
theorem IP (os:Os) {H:Type} (enc:TypeId×Value→H):∃places,DataW.whole enc Tryz.prog ((World.laidAll Tryz.prog os Rows.accountValidUptoRow.laid).forCall (fun _ _=>0) ⟨#[],#[.agg #[.string ⟨#[]⟩,.int .i64 0,.int .i64 0,.int .i64 0,.slice none 0 0,.slice none 0 0,.slice none 0 0,.int .i64 0,.int .i64 0,.bool false,.slice none 0 0,.slice none 0 0,.int .i64 0,.string ⟨#[]⟩],.slice none 0 0],[]⟩).memory Tryz.f3.params.toList Rows.accountValidSpec.vars false (#[.agg #[.string ⟨#[]⟩,.int .i64 0,.int .i64 0,.int .i64 0,.slice none 0 0,.slice none 0 0,.slice none 0 0,.int .i64 0,.int .i64 0,.bool false,.slice none 0 0,.slice none 0 0,.int .i64 0,.string ⟨#[]⟩],.slice none 0 0]:Array Value).toList 8=some ([.agg [.lit (.string []),.lit (.int .i64 0),.lit (.int .i64 0),.lit (.int .i64 0),.nil,.nil,.nil,.lit (.int .i64 0),.lit (.int .i64 0),.agg [.lit (.bool false),.nil,.nil],.lit (.int .i64 0),.lit (.string [])],.nil],[],places):=⟨[],by kernel_rfl⟩
theorem lifted (os:Os) (started:os.Started) (H:Type) (enc:TypeId×Value→H) (F:Stop.Interp) : ReturnsInHanded {} Tryz.checked os 3 .any ((Rows.OpenSpec.upto Rows.accountValidSpec).preRow enc Tryz.prog Tryz.f3 Rows.accountValidUptoRow.domain false Rows.accountValidUptoRow.laid) (((Rows.OpenSpec.upto Rows.accountValidSpec).at F).post enc Tryz.prog Tryz.f3 false true false false):=by
 obtain⟨places,hx⟩:=IP os enc;refine returnsInHanded_of_row (C:=Tryz.checked) (s:=(Rows.OpenSpec.upto Rows.accountValidSpec)) Tryz.own' started (by kernel_rfl) Tryz.func3
  (pg (enc:=enc) (C:=Tryz.checked) false (World.laidAll Tryz.prog os Rows.accountValidUptoRow.laid) #[.agg #[.string ⟨#[]⟩,.int .i64 0,.int .i64 0,.int .i64 0,.slice none 0 0,.slice none 0 0,.slice none 0 0,.int .i64 0,.int .i64 0,.bool false,.slice none 0 0,.slice none 0 0,.int .i64 0,.string ⟨#[]⟩],.slice none 0 0] (World.laidAll_os _ _ _) (World.shaped_of_ZipB (by kernel_rfl) (by kernel_rfl)) (by kernel_rfl)
   (OpenSpec.preRow_of_cond 8 hx (by kernel_rfl) (fun k hk=>by cases hk;kernel_rfl) (by kernel_rfl) (by rw[MakeChecks.laidMetH_plain _ _ _ (by kernel_rfl)];exact laidMet_laidAll _ (by kernel_rfl) (by kernel_rfl)))) ?_
 clear hx;intro W base args ds gs before hval0 hW _ CE _ hL _ _;have hk:Rows.uptoSmall H (ds++gs)=true:=CE _ rfl;have U0:Rows.uptoBulkAll (ds++gs)≤1048576:=of_decide_eq_true hk;clear CE hk;have WV:∀(j:Nat) t v,Tryz.f3.params[j]?=some t→args[j]?=some v→Value.okWide Tryz.prog W .any base t v:=hval0;have hW':=hW;obtain⟨p,q,hA0,hV,rfl,hfz,JZ⟩:=hW;have hA:DataW.TrodAll enc Tryz.prog W 0 (fun _=>true) true Tryz.f3.params.toList args.toList ds p:=hA0;rw[Tryz.params3] at hA WV;obtain⟨v0,vs0,d0,ds0,p0,q0,ahw,rfl,rfl,h0,r0⟩:=trodAll_cons hA;obtain⟨v1,vs1,d1,ds1,p1,q1,XH,rfl,rfl,h1,r1⟩:=trodAll_cons r0;obtain⟨rfl,rfl,rfl⟩:=trodAll_nil r1;obtain rfl:=XH;obtain rfl:args=#[v0,v1]:=by cases args;simp_all
 obtain⟨rfl,rfl⟩:=trodVars_none hV;have k0:=h0;have lt0:∀x∈p0,x.block<W.heap.size:=by obtain⟨m,hm⟩:=k0;exact DataW.trod_lt m _ _ _ hm
 have bk0:Rows.uptoBulk d0≤1048576:=aa7 (GG (by simp)) U0;have k1:=h1;have lt1:∀x∈p1,x.block<W.heap.size:=by obtain⟨m,hm⟩:=k1;exact DataW.trod_lt m _ _ _ hm
 have bk1:Rows.uptoBulk d1≤1048576:=aa7 (GG (by simp)) U0;obtain⟨xK,rfl,_⟩:=okWide_struct Tryz.underlying30 (WV 0 30 v0 rfl rfl);obtain⟨l0⟩:=xK;obtain⟨alv,hf0⟩:=h0;obtain⟨x0,D3,abP,hb0⟩:=Tryz.opbElec _ _ _ _ _ _ _ _ _ hf0;have ahs:=aa7 hb0 bk0;have agw:SV W (fun b=>b<W.heap.size) (.agg l0.toArray) x0:=⟨l0,rfl,D3⟩;obtain⟨A1,n1,c1,rfl⟩:=okWide_slice Tryz.underlying31 (WV 1 31 v1 rfl rfl);obtain⟨alu,Fo⟩:=h1;obtain⟨x1,⟨B1,m1,e1,q31,hr1⟩,ak4,cI⟩:=Tryz.opbAccts _ _ _ _ _ _ _ _ _ Fo;obtain⟨rfl,rfl,rfl⟩:A1=B1∧n1=m1∧c1=e1:=by
  have e4:Value.slice A1 n1 c1=Value.slice B1 m1 e1:=by injection q31
  injection e4 with a b c
  exact⟨a,b,c⟩
 have aoz:=aa7 cI bk1;have hT:=Q9 hL;clear hA0 hval0 hL hA;refine(lawAV_any hT (aaW _) agw (AI abP ahs) hr1).mono fun e W' ⟨he,bel⟩=>?_;subst he;exact⟨_,rfl,_,_,_,[],_,[],hW',trodAll_mk1 (shut_bool Tryz.underlying4 _),(trodAll_cons_mk (Below.trod Tryz.laidOut (by kernel_rfl) (of_decide_eq_true (by kernel_rfl)) k0 bel lt0) (trodAll_cons_mk (Below.trod Tryz.laidOut (by kernel_rfl) (of_decide_eq_true (by kernel_rfl)) k1 bel lt1) trodAll_mk0)),rfl,bel.frame _,fun h=>by cases h⟩
theorem Jc:Rows.AccountValidUptoSaid:=
 OpenClaim.holds_of_cond 3 Tryz.f3 rfl rfl rfl rfl rfl rfl rfl ⟨rfl,rfl,rfl,rfl,rfl⟩ rfl rfl rfl rfl rfl (by kernel_rfl) Tryz.func3 (by kernel_rfl)
  (of_decide_eq_true (by kernel_rfl)) (by unfold Func.isWrapper;first|(rw[if_pos (by decide+kernel)];kernel_rfl)|(rw[if_neg (by decide+kernel)];exact⟨rfl,rfl⟩))
  (fun os started H enc _ F=>by rw[OpenClaim.pre_eq_preRow];exact lifted os started H enc F)
theorem proved:Rows.AccountValidUptoCardSaid:=
 Claim7.holds_tied_plain_at .later [] _ _ _ _ Jc (fun _ h=>by cases h) (by kernel_rfl) (fun _ h=>by cases h) accountValidUpto_row_tie rfl ⟨rfl,rfl⟩ (by kernel_rfl) rfl
  (fun f fn hf hfn=>by
   obtain rfl:f=3:=aae ((show Tryz.prog.funcNamed "election/electionlaw20.AccountValid" =some 3 by kernel_rfl).symm.trans hf) |>.symm;obtain rfl:fn=Tryz.f3:=(aae (Tryz.func3.symm.trans hfn)).symm;exact⟨by kernel_rfl,fun j t ht=>by
    rw[Tryz.params3] at ht;have hm:t∈[30,31]:=by simpa using Array.mem_of_getElem? ht
    have dS:([30,31].all fun u=>!Tryz.prog.wantsStandIn u)=true:=by kernel_rfl
    exact(show Tryz.prog.wantsStandIn t=false by simpa using abq.1 dS t hm)⟩)
  (by kernel_rfl)
end Go.Proofs.YtjlhbfbdcfajfaaGreatDoor.lawAValid
