/- LayoutFit -/
import Derived.Test.YtdbpbfglhbiadaaGreatDoorF00
import Derived.Test.YtdbpbfglhbiadaaGreatDoorF40
import Derived.Test.YtdbpbfglhbiadaaGreatDoorTie
import Derived.Test.YtdbpbfglhbiadaaGreatDoorCards
set_option maxHeartbeats 8000000
set_option maxRecDepth 100000
namespace Go.Proofs.YtdbpbfglhbiadaaGreatDoor.lawFit
open Go.RowKit Go.ChangeShapes Go.WideShapes Go.ChangeAt Go.WideMaps Go.WideElems Go.ChangeMaps Go.Deep
theorem yA {W:World} (h:laidMetH Tryz.prog Rows.layoutFitUptoRow.laid W):Kd W.heap.size W:=by
 rw[MakeChecks.laidMetH_plain _ _ _ (by kernel_rfl)] at h;exact wA (Lib.laidMet.reads h (.tail _ (.tail _ (.head _))))
theorem qe (os:Os) {H:Type} (enc:TypeId×Value->H):∃places,DataW.whole enc Tryz.prog ((World.laidAll Tryz.prog os Rows.layoutFitUptoRow.laid).forCall (λ_ _=>0) ⟨#[],#[.agg #[.string ⟨#[]⟩,.int .i64 0,.int .i64 0,.int .i64 0,.slice none 0 0,.slice none 0 0,.slice none 0 0,.int .i64 0,.int .i64 0,.bool false,.slice none 0 0,.slice none 0 0,.int .i64 0,.string ⟨#[]⟩],.int .i64 0],[]⟩).memory Tryz.f8.params.toList Rows.layoutFitSpec.vars false (#[.agg #[.string ⟨#[]⟩,.int .i64 0,.int .i64 0,.int .i64 0,.slice none 0 0,.slice none 0 0,.slice none 0 0,.int .i64 0,.int .i64 0,.bool false,.slice none 0 0,.slice none 0 0,.int .i64 0,.string ⟨#[]⟩],.int .i64 0]:Array Value).toList 8=some ([.agg [.lit (.string []),.lit (.int .i64 0),.lit (.int .i64 0),.lit (.int .i64 0),.nil,.nil,.nil,.lit (.int .i64 0),.lit (.int .i64 0),.agg [.lit (.bool false),.nil,.nil],.lit (.int .i64 0),.lit (.string [])],.lit (.int .i64 0)],[],places):=⟨[],by kernel_rfl⟩
theorem lifted (os:Os) (started:os.Started) (H:Type) (enc:TypeId×Value->H) (F:Stop.Interp) : ReturnsInHanded {} Tryz.checked os 8 .any ((Rows.OpenSpec.upto Rows.layoutFitSpec).preRow enc Tryz.prog Tryz.f8 Rows.layoutFitUptoRow.domain false Rows.layoutFitUptoRow.laid) (((Rows.OpenSpec.upto Rows.layoutFitSpec).at F).post enc Tryz.prog Tryz.f8 false true false false):=by
 obtain⟨places,hx⟩:=qe os enc;refine returnsInHanded_of_row (C:=Tryz.checked) (s:=(Rows.OpenSpec.upto Rows.layoutFitSpec)) Tryz.own' started (by kernel_rfl) Tryz.func8
  (jo (enc:=enc) (C:=Tryz.checked) false (World.laidAll Tryz.prog os Rows.layoutFitUptoRow.laid) #[.agg #[.string ⟨#[]⟩,.int .i64 0,.int .i64 0,.int .i64 0,.slice none 0 0,.slice none 0 0,.slice none 0 0,.int .i64 0,.int .i64 0,.bool false,.slice none 0 0,.slice none 0 0,.int .i64 0,.string ⟨#[]⟩],.int .i64 0] (World.laidAll_os _ _ _) (World.shaped_of_ZipB (by kernel_rfl) (by kernel_rfl)) (by kernel_rfl)
   (OpenSpec.preRow_of_cond 8 hx (by kernel_rfl) (λk hk=>by cases hk;kernel_rfl) (by kernel_rfl) (by rw[MakeChecks.laidMetH_plain _ _ _ (by kernel_rfl)];exact laidMet_laidAll _ (by kernel_rfl) (by kernel_rfl)))) ?_
 clear hx;intro W base args ds gs before hval0 hW _ rA _ hL _ _;have hk:Rows.uptoSmall H (ds++gs)=true:=rA _ rfl;have xx:Rows.uptoBulkAll (ds++gs)<=1048576:=of_decide_eq_true hk;clear rA hk;have Br:∀(j:Nat) t v,Tryz.f8.params[j]?=some t->args[j]?=some v->Value.okWide Tryz.prog W .any base t v:=hval0;have hW':=hW;obtain⟨p,q,hA0,hV,rfl,hfz,GB⟩:=hW;have hA:DataW.TrodAll enc Tryz.prog W 0 (λ_=>true) true Tryz.f8.params.toList args.toList ds p:=hA0;rw[Tryz.params8] at hA Br;obtain⟨v0,vs0,d0,ds0,p0,q0,Yc,rfl,rfl,h0,r0⟩:=trodAll_cons hA;obtain⟨v1,vs1,d1,ds1,p1,q1,EC,rfl,rfl,h1,r1⟩:=trodAll_cons r0;obtain⟨rfl,rfl,rfl⟩:=trodAll_nil r1;obtain rfl:=EC;obtain rfl:args=#[v0,v1]:=by cases args;simp_all
 obtain⟨rfl,rfl⟩:=trodVars_none hV;have k0:=h0;have lt0:∀x∈p0,x.block<W.heap.size:=by obtain⟨m,hm⟩:=k0;exact DataW.trod_lt m _ _ _ hm
 have bk0:Rows.uptoBulk d0<=1048576:=aao (oX (by simp)) xx;have k1:=h1;have lt1:∀x∈p1,x.block<W.heap.size:=by obtain⟨m,hm⟩:=k1;exact DataW.trod_lt m _ _ _ hm
 have bk1:Rows.uptoBulk d1<=1048576:=aao (oX (by simp)) xx;obtain⟨uT,rfl,_⟩:=okWide_struct Tryz.underlying30 (Br 0 30 v0 rfl rfl);obtain⟨l0⟩:=uT;obtain⟨ado,hf0⟩:=h0;obtain⟨x0,zK,NJ,hb0⟩:=Tryz.opbElec _ _ _ _ _ _ _ _ _ hf0;have X8:=aao hb0 bk0;have Xp:SV W (λb=>b<W.heap.size) (.agg l0.toArray) x0:=⟨l0,rfl,zK⟩;obtain⟨x1,rfl⟩:=okWide_int Tryz.underlying3 (Br 1 3 v1 rfl rfl);have hT:=yA hL;clear hA0 hval0 hL hA;refine(lawFit_any hT (aam _) Xp (pA NJ X8)).mono λe W' ⟨he,Ve⟩=>?_;subst he;exact⟨_,rfl,_,_,_,[],_,[],hW',trodAll_mk1 (shut_bool Tryz.underlying4 _),(trodAll_cons_mk (Below.trod Tryz.laidOut (by kernel_rfl) (of_decide_eq_true (by kernel_rfl)) k0 Ve lt0) (trodAll_cons_mk (Below.trod Tryz.laidOut (by kernel_rfl) (of_decide_eq_true (by kernel_rfl)) k1 Ve lt1) trodAll_mk0)),rfl,Ve.frame _,λh=>by cases h⟩
theorem cl1:laidOutB Tryz.prog=true:=by kernel_rfl
theorem cl2:mapsRowed Tryz.prog=true:=by kernel_rfl
theorem cl3:(Rows.layoutFitUptoRow.inPlace==Tryz.prog.inPlace 8)=true:=by kernel_rfl
theorem cl4:(Rows.layoutFitUptoRow.unfollowed==Tryz.prog.unfollowed 8)=true:=by kernel_rfl
theorem cl5:(Rows.layoutFitUptoRow.recurses==Tryz.prog.recurses 8)=true:=by kernel_rfl
theorem cl6:(Rows.layoutFitUptoRow.named==Tryz.prog.varsNamed 8)=true:=by kernel_rfl
theorem cl7:(Rows.layoutFitUptoRow.plainKeys==Tryz.prog.plainKeys)=true:=by kernel_rfl
theorem cl8:Tryz.prog.stopsHeard=true:=by kernel_rfl
theorem cl9:Tryz.prog.mayEnter=true:=by kernel_rfl
theorem YX:(Rows.layoutFitUptoRow.lifted==Tryz.prog.liftsFinal)=true:=by kernel_rfl
theorem YW:Rows.layoutFitUptoCard.stood.looks=Tryz.prog.looks []:=by kernel_rfl
theorem YV:false=Rows.layoutFitUptoRow.goesBy Tryz.prog:=by kernel_rfl
theorem closed:joinedFacts Tryz.prog 8 Tryz.f8 (Rows.OpenSpec.upto Rows.layoutFitSpec).bare Rows.layoutFitUptoRow=true:=by
 unfold joinedFacts;rw[cl1,cl2,cl3,cl4,cl5,cl6,cl7,cl8,cl9,YX];kernel_rfl
theorem qo:Rows.LayoutFitUptoSaid:=
 OpenClaim.holds_of_cond 8 Tryz.f8 rfl rfl rfl rfl rfl rfl rfl ⟨rfl,rfl,rfl,rfl,rfl⟩ rfl rfl rfl rfl rfl (by kernel_rfl) Tryz.func8 closed
  (of_decide_eq_true (by kernel_rfl)) (by unfold Func.isWrapper;first|(rw[if_pos (by decide+kernel)];kernel_rfl)|(rw[if_neg (by decide+kernel)];exact⟨rfl,rfl⟩))
  (λos started H enc _ F=>by rw[OpenClaim.pre_eq_preRow];exact lifted os started H enc F)
theorem proved:Rows.LayoutFitUptoCardSaid:=
 Claim7.holds_tied_plain_at .later [] _ _ _ _ qo (λ_ h=>by cases h) (by kernel_rfl) (λ_ h=>by cases h) layoutFitUpto_row_tie rfl ⟨rfl,rfl⟩ (by kernel_rfl) rfl
  (λf fn hf XP=>by
   obtain rfl:f=8:=aad ((show Tryz.prog.funcNamed "election/electionlaw10.LayoutFit" =some 8 by kernel_rfl).symm.trans hf) |>.symm;obtain rfl:fn=Tryz.f8:=(aad (Tryz.func8.symm.trans XP)).symm;exact⟨YW,λj t ht=>by
    rw[Tryz.params8] at ht;have hm:t∈[30,3]:=by simpa using Array.mem_of_getElem? ht
    have dW:([30,3].all λu=>!Tryz.prog.wantsStandIn u)=true:=by kernel_rfl
    exact(show Tryz.prog.wantsStandIn t=false by simpa using aau.1 dW t hm)⟩)
  YV
end Go.Proofs.YtdbpbfglhbiadaaGreatDoor.lawFit
