/- LayoutMake -/
import Derived.Test.YtdbpbfglhbiadaaGreatDoorL00
import Derived.Test.YtdbpbfglhbiadaaGreatDoorL41
import Derived.Test.YtdbpbfglhbiadaaGreatDoorTie
import Derived.Test.YtdbpbfglhbiadaaGreatDoorCards
set_option maxHeartbeats 8000000
set_option maxRecDepth 100000
namespace Go.Proofs.YtdbpbfglhbiadaaGreatDoor.lawMake
open Go.RowKit Go.ChangeShapes Go.WideShapes Go.ChangeAt Go.WideMaps Go.WideElems Go.ChangeMaps Go.Deep
theorem Bu {W:World} (h:laidMetH Tryz.prog Rows.layoutMakeUptoRow.laid W):Mt W.heap.size W:=by
 rw[MakeChecks.laidMetH_plain _ _ _ (by kernel_rfl)] at h;exact zf (Lib.laidMet.reads h (.tail _ (.tail _ (.head _))))
theorem tm (os:Os) {H:Type} (enc:TypeId×Value→H):∃places,DataW.whole enc Tryz.prog ((World.laidAll Tryz.prog os Rows.layoutMakeUptoRow.laid).forCall (fun _ _=>0) ⟨#[],#[.agg #[.string ⟨#[]⟩,.int .i64 0,.int .i64 0,.int .i64 0,.slice none 0 0,.slice none 0 0,.slice none 0 0,.int .i64 0,.int .i64 0,.bool false,.slice none 0 0,.slice none 0 0,.int .i64 0,.string ⟨#[]⟩],.int .i64 0],[]⟩).memory Tryz.f7.params.toList Rows.layoutMakeSpec.vars false (#[.agg #[.string ⟨#[]⟩,.int .i64 0,.int .i64 0,.int .i64 0,.slice none 0 0,.slice none 0 0,.slice none 0 0,.int .i64 0,.int .i64 0,.bool false,.slice none 0 0,.slice none 0 0,.int .i64 0,.string ⟨#[]⟩],.int .i64 0]:Array Value).toList 8=some ([.agg [.lit (.string []),.lit (.int .i64 0),.lit (.int .i64 0),.lit (.int .i64 0),.nil,.nil,.nil,.lit (.int .i64 0),.lit (.int .i64 0),.agg [.lit (.bool false),.nil,.nil],.lit (.int .i64 0),.lit (.string [])],.lit (.int .i64 0)],[],places):=⟨[],by kernel_rfl⟩
theorem lifted (os:Os) (started:os.Started) (H:Type) (enc:TypeId×Value→H) (F:Stop.Interp) : ReturnsInHanded {} Tryz.checked os 7 .any ((Rows.OpenSpec.upto Rows.layoutMakeSpec).preRow enc Tryz.prog Tryz.f7 Rows.layoutMakeUptoRow.domain false Rows.layoutMakeUptoRow.laid) (((Rows.OpenSpec.upto Rows.layoutMakeSpec).at F).post enc Tryz.prog Tryz.f7 false true false false):=by
 obtain⟨places,hx⟩:=tm os enc;refine returnsInHanded_of_row (C:=Tryz.checked) (s:=(Rows.OpenSpec.upto Rows.layoutMakeSpec)) Tryz.own' started (by kernel_rfl) Tryz.func7
  (kw (enc:=enc) (C:=Tryz.checked) false (World.laidAll Tryz.prog os Rows.layoutMakeUptoRow.laid) #[.agg #[.string ⟨#[]⟩,.int .i64 0,.int .i64 0,.int .i64 0,.slice none 0 0,.slice none 0 0,.slice none 0 0,.int .i64 0,.int .i64 0,.bool false,.slice none 0 0,.slice none 0 0,.int .i64 0,.string ⟨#[]⟩],.int .i64 0] (World.laidAll_os _ _ _) (World.shaped_of_ZipB (by kernel_rfl) (by kernel_rfl)) (by kernel_rfl)
   (OpenSpec.preRow_of_cond 8 hx (by kernel_rfl) (fun k hk=>by cases hk;kernel_rfl) (by kernel_rfl) (by rw[MakeChecks.laidMetH_plain _ _ _ (by kernel_rfl)];exact laidMet_laidAll _ (by kernel_rfl) (by kernel_rfl)))) ?_
 clear hx;intro W base args ds gs before hval0 hW _ uG _ hL _ _;have hk:Rows.uptoSmall H (ds++gs)=true:=uG _ rfl;have Ej:Rows.uptoBulkAll (ds++gs)≤1048576:=of_decide_eq_true hk;clear uG hk;have GB:∀(j:Nat) t v,Tryz.f7.params[j]?=some t→args[j]?=some v→Value.okWide Tryz.prog W .any base t v:=hval0;have hW':=hW;obtain⟨p,q,hA0,hV,rfl,hfz,Jl⟩:=hW;have hA:DataW.TrodAll enc Tryz.prog W 0 (fun _=>true) true Tryz.f7.params.toList args.toList ds p:=hA0;rw[Tryz.params7] at hA GB;obtain⟨v0,vs0,d0,ds0,p0,q0,aaF,rfl,rfl,h0,r0⟩:=trodAll_cons hA;obtain⟨v1,vs1,d1,ds1,p1,q1,GP,rfl,rfl,h1,r1⟩:=trodAll_cons r0;obtain⟨rfl,rfl,rfl⟩:=trodAll_nil r1;obtain rfl:=GP;obtain rfl:args=#[v0,v1]:=by cases args;simp_all
 obtain⟨rfl,rfl⟩:=trodVars_none hV;have k0:=h0;have lt0:∀x∈p0,x.block<W.heap.size:=by obtain⟨m,hm⟩:=k0;exact DataW.trod_lt m _ _ _ hm
 have bk0:Rows.uptoBulk d0≤1048576:=aaM (vH (by simp)) Ej;have k1:=h1;have lt1:∀x∈p1,x.block<W.heap.size:=by obtain⟨m,hm⟩:=k1;exact DataW.trod_lt m _ _ _ hm
 have bk1:Rows.uptoBulk d1≤1048576:=aaM (vH (by simp)) Ej;obtain⟨ya,rfl,_⟩:=okWide_struct Tryz.underlying30 (GB 0 30 v0 rfl rfl);obtain⟨l0⟩:=ya;obtain⟨afV,hf0⟩:=h0;obtain⟨x0,Cz,P5,hb0⟩:=Tryz.opbElec _ _ _ _ _ _ _ _ _ hf0;have aaC:=aaM hb0 bk0;have ZT:SV W (fun b=>b<W.heap.size) (.agg l0.toArray) x0:=⟨l0,rfl,Cz⟩;obtain⟨x1,rfl⟩:=okWide_int Tryz.underlying3 (GB 1 3 v1 rfl rfl);have hT:=Bu hL;clear hA0 hval0 hL hA;refine(lawLM_any hT (aaJ _) ZT (sx P5 aaC)).mono fun e W' ⟨he,bel⟩=>?_;subst he;exact⟨_,rfl,_,_,_,[],_,[],hW',trodAll_mk1 (shut_bool Tryz.underlying4 _),(trodAll_cons_mk (Below.trod Tryz.laidOut (by kernel_rfl) (of_decide_eq_true (by kernel_rfl)) k0 bel lt0) (trodAll_cons_mk (Below.trod Tryz.laidOut (by kernel_rfl) (of_decide_eq_true (by kernel_rfl)) k1 bel lt1) trodAll_mk0)),rfl,bel.frame _,fun h=>by cases h⟩
theorem cl1:laidOutB Tryz.prog=true:=by kernel_rfl
theorem cl2:mapsRowed Tryz.prog=true:=by kernel_rfl
theorem cl3:(Rows.layoutMakeUptoRow.inPlace==Tryz.prog.inPlace 7)=true:=by kernel_rfl
theorem cl4:(Rows.layoutMakeUptoRow.unfollowed==Tryz.prog.unfollowed 7)=true:=by kernel_rfl
theorem cl5:(Rows.layoutMakeUptoRow.recurses==Tryz.prog.recurses 7)=true:=by kernel_rfl
theorem cl6:(Rows.layoutMakeUptoRow.named==Tryz.prog.varsNamed 7)=true:=by kernel_rfl
theorem cl7:(Rows.layoutMakeUptoRow.plainKeys==Tryz.prog.plainKeys)=true:=by kernel_rfl
theorem cl8:Tryz.prog.stopsHeard=true:=by kernel_rfl
theorem cl9:Tryz.prog.mayEnter=true:=by kernel_rfl
theorem abp:(Rows.layoutMakeUptoRow.lifted==Tryz.prog.liftsFinal)=true:=by kernel_rfl
theorem abo:Rows.layoutMakeUptoCard.stood.looks=Tryz.prog.looks []:=by kernel_rfl
theorem abn:false=Rows.layoutMakeUptoRow.goesBy Tryz.prog:=by kernel_rfl
theorem closed:joinedFacts Tryz.prog 7 Tryz.f7 (Rows.OpenSpec.upto Rows.layoutMakeSpec).bare Rows.layoutMakeUptoRow=true:=by
 unfold joinedFacts;rw[cl1,cl2,cl3,cl4,cl5,cl6,cl7,cl8,cl9,abp];kernel_rfl
theorem tz:Rows.LayoutMakeUptoSaid:=
 OpenClaim.holds_of_cond 7 Tryz.f7 rfl rfl rfl rfl rfl rfl rfl ⟨rfl,rfl,rfl,rfl,rfl⟩ rfl rfl rfl rfl rfl (by kernel_rfl) Tryz.func7 closed
  (of_decide_eq_true (by kernel_rfl)) (by unfold Func.isWrapper;first|(rw[if_pos (by decide+kernel)];kernel_rfl)|(rw[if_neg (by decide+kernel)];exact⟨rfl,rfl⟩))
  (fun os started H enc _ F=>by rw[OpenClaim.pre_eq_preRow];exact lifted os started H enc F)
theorem proved:Rows.LayoutMakeUptoCardSaid:=
 Claim7.holds_tied_plain_at .later [] _ _ _ _ tz (fun _ h=>by cases h) (by kernel_rfl) (fun _ h=>by cases h) layoutMakeUpto_row_tie rfl ⟨rfl,rfl⟩ (by kernel_rfl) rfl
  (fun f fn hf hfn=>by
   obtain rfl:f=7:=aal ((show Tryz.prog.funcNamed "election/electionlaw10.LayoutMake" =some 7 by kernel_rfl).symm.trans hf) |>.symm;obtain rfl:fn=Tryz.f7:=(aal (Tryz.func7.symm.trans hfn)).symm;exact⟨abo,fun j t ht=>by
    rw[Tryz.params7] at ht;have hm:t∈[30,3]:=by simpa using Array.mem_of_getElem? ht
    have eR:([30,3].all fun u=>!Tryz.prog.wantsStandIn u)=true:=by kernel_rfl
    exact(show Tryz.prog.wantsStandIn t=false by simpa using aaR.1 eR t hm)⟩)
  abn
end Go.Proofs.YtdbpbfglhbiadaaGreatDoor.lawMake
