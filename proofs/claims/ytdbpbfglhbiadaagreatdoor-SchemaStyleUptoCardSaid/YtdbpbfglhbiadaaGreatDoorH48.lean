/- SchemaStyle -/
import Derived.Test.YtdbpbfglhbiadaaGreatDoorH00
import Derived.Test.YtdbpbfglhbiadaaGreatDoorH47
import Derived.Test.YtdbpbfglhbiadaaGreatDoorH41
import Derived.Test.YtdbpbfglhbiadaaGreatDoorTie
import Derived.Test.YtdbpbfglhbiadaaGreatDoorCards
set_option maxHeartbeats 4000000
set_option maxRecDepth 100000
namespace Go.Proofs.YtdbpbfglhbiadaaGreatDoor.lawSStyle
open Go.RowKit Go.ChangeShapes Go.WideShapes Go.ChangeAt Go.WideMaps Go.WideElems Go.ChangeMaps Go.Deep
theorem lD {W:World} (h:laidMetH Tryz.prog Rows.schemaStyleUptoRow.laid W):Ei W.heap.size W:=by
 rw[MakeChecks.laidMetH_plain _ _ _ (by kernel_rfl)] at h;exact nI (Lib.laidMet.reads h (.tail _ (.tail _ (.head _))))
theorem iO (os:Os) {H:Type} (enc:TypeId×Value->H):∃places,DataW.whole enc Tryz.prog ((World.laidAll Tryz.prog os Rows.schemaStyleUptoRow.laid).forCall (λ_ _=>0) ⟨#[],#[.agg #[.string ⟨#[]⟩,.int .i64 0,.int .i64 0,.int .i64 0,.slice none 0 0,.slice none 0 0,.slice none 0 0,.int .i64 0,.int .i64 0,.bool false,.slice none 0 0,.slice none 0 0,.int .i64 0,.string ⟨#[]⟩],.int .i64 0],[]⟩).memory Tryz.f4.params.toList Rows.schemaStyleSpec.vars false (#[.agg #[.string ⟨#[]⟩,.int .i64 0,.int .i64 0,.int .i64 0,.slice none 0 0,.slice none 0 0,.slice none 0 0,.int .i64 0,.int .i64 0,.bool false,.slice none 0 0,.slice none 0 0,.int .i64 0,.string ⟨#[]⟩],.int .i64 0]:Array Value).toList 8=some ([.agg [.lit (.string []),.lit (.int .i64 0),.lit (.int .i64 0),.lit (.int .i64 0),.nil,.nil,.nil,.lit (.int .i64 0),.lit (.int .i64 0),.agg [.lit (.bool false),.nil,.nil],.lit (.int .i64 0),.lit (.string [])],.lit (.int .i64 0)],[],places):=⟨[],by kernel_rfl⟩
theorem lifted (os:Os) (started:os.Started) (H:Type) (enc:TypeId×Value->H) (F:Stop.Interp) : ReturnsInHanded {} Tryz.checked os 4 .any ((Rows.OpenSpec.upto Rows.schemaStyleSpec).preRow enc Tryz.prog Tryz.f4 Rows.schemaStyleUptoRow.domain false Rows.schemaStyleUptoRow.laid) (((Rows.OpenSpec.upto Rows.schemaStyleSpec).at F).post enc Tryz.prog Tryz.f4 false true false false):=by
 obtain⟨places,hx⟩:=iO os enc;refine returnsInHanded_of_row (C:=Tryz.checked) (s:=(Rows.OpenSpec.upto Rows.schemaStyleSpec)) Tryz.own' started (by kernel_rfl) Tryz.func4
  (fj (enc:=enc) (C:=Tryz.checked) false (World.laidAll Tryz.prog os Rows.schemaStyleUptoRow.laid) #[.agg #[.string ⟨#[]⟩,.int .i64 0,.int .i64 0,.int .i64 0,.slice none 0 0,.slice none 0 0,.slice none 0 0,.int .i64 0,.int .i64 0,.bool false,.slice none 0 0,.slice none 0 0,.int .i64 0,.string ⟨#[]⟩],.int .i64 0] (World.laidAll_os _ _ _) (World.shaped_of_ZipB (by kernel_rfl) (by kernel_rfl)) (by kernel_rfl)
   (OpenSpec.preRow_of_cond 8 hx (by kernel_rfl) (λk hk=>by cases hk;kernel_rfl) (by kernel_rfl) (by rw[MakeChecks.laidMetH_plain _ _ _ (by kernel_rfl)];exact laidMet_laidAll _ (by kernel_rfl) (by kernel_rfl)))) ?_
 clear hx;intro W base args ds gs before hval0 hW _ j7 _ hL _ _;have hk:Rows.uptoSmall H (ds++gs)=true:=j7 _ rfl;have qt:Rows.uptoBulkAll (ds++gs)<=1048576:=of_decide_eq_true hk;clear j7 hk;have rU:∀(j:Nat) t v,Tryz.f4.params[j]?=some t->args[j]?=some v->Value.okWide Tryz.prog W .any base t v:=hval0;have hW':=hW;obtain⟨p,q,hA0,hV,rfl,hfz,EE⟩:=hW;have hA:DataW.TrodAll enc Tryz.prog W 0 (λ_=>true) true Tryz.f4.params.toList args.toList ds p:=hA0;rw[Tryz.params4] at hA rU;obtain⟨v0,vs0,d0,ds0,p0,q0,Gc,rfl,rfl,h0,r0⟩:=trodAll_cons hA;obtain⟨v1,vs1,d1,ds1,p1,q1,Gb,rfl,rfl,h1,r1⟩:=trodAll_cons r0;obtain⟨rfl,rfl,rfl⟩:=trodAll_nil r1;obtain rfl:=Gb;obtain rfl:args=#[v0,v1]:=by cases args;simp_all
 obtain⟨rfl,rfl⟩:=trodVars_none hV;have k0:=h0;have Zv:∀x∈p0,x.block<W.heap.size:=by obtain⟨m,hm⟩:=k0;exact DataW.trod_lt m _ _ _ hm
 have bk0:Rows.uptoBulk d0<=1048576:=aax (nJ (by simp)) qt;have k1:=h1;have lt1:∀x∈p1,x.block<W.heap.size:=by obtain⟨m,hm⟩:=k1;exact DataW.trod_lt m _ _ _ hm
 have bk1:Rows.uptoBulk d1<=1048576:=aax (nJ (by simp)) qt;obtain⟨so,rfl,_⟩:=okWide_struct Tryz.underlying30 (rU 0 30 v0 rfl rfl);obtain⟨l0⟩:=so;obtain⟨Qp,Vh⟩:=h0;obtain⟨x0,xk,yJ,hb0⟩:=Tryz.opbElec _ _ _ _ _ _ _ _ _ Vh;have Lo:=aax hb0 bk0;have FX:SV W (λb=>b<W.heap.size) (.agg l0.toArray) x0:=⟨l0,rfl,xk⟩;obtain⟨x1,rfl⟩:=okWide_int Tryz.underlying3 (rU 1 3 v1 rfl rfl);have hT:=lD hL;clear hA0 hval0 hL hA;refine(lawSS_any (p:=x1) hT (aaG _) FX (jB yJ Lo)).mono λe W' ⟨he,Mc⟩=>?_;subst he;exact⟨_,rfl,_,_,_,[],_,[],hW',trodAll_mk1 (shut_bool Tryz.underlying4 _),(trodAll_cons_mk (Below.trod Tryz.laidOut (by kernel_rfl) (of_decide_eq_true (by kernel_rfl)) k0 Mc Zv) (trodAll_cons_mk (Below.trod Tryz.laidOut (by kernel_rfl) (of_decide_eq_true (by kernel_rfl)) k1 Mc lt1) trodAll_mk0)),rfl,Mc.frame _,λh=>by cases h⟩
theorem cl1:laidOutB Tryz.prog=true:=by kernel_rfl
theorem cl2:mapsRowed Tryz.prog=true:=by kernel_rfl
theorem cl3:(Rows.schemaStyleUptoRow.inPlace==Tryz.prog.inPlace 4)=true:=by kernel_rfl
theorem cl4:(Rows.schemaStyleUptoRow.unfollowed==Tryz.prog.unfollowed 4)=true:=by kernel_rfl
theorem cl5:(Rows.schemaStyleUptoRow.recurses==Tryz.prog.recurses 4)=true:=by kernel_rfl
theorem cl6:(Rows.schemaStyleUptoRow.named==Tryz.prog.varsNamed 4)=true:=by kernel_rfl
theorem cl7:(Rows.schemaStyleUptoRow.plainKeys==Tryz.prog.plainKeys)=true:=by kernel_rfl
theorem cl8:Tryz.prog.stopsHeard=true:=by kernel_rfl
theorem cl9:Tryz.prog.mayEnter=true:=by kernel_rfl
theorem Gy:(Rows.schemaStyleUptoRow.lifted==Tryz.prog.liftsFinal)=true:=by kernel_rfl
theorem Gx:Rows.schemaStyleUptoCard.stood.looks=Tryz.prog.looks []:=by kernel_rfl
theorem Gw:false=Rows.schemaStyleUptoRow.goesBy Tryz.prog:=by kernel_rfl
theorem closed:joinedFacts Tryz.prog 4 Tryz.f4 (Rows.OpenSpec.upto Rows.schemaStyleSpec).bare Rows.schemaStyleUptoRow=true:=by
 unfold joinedFacts;rw[cl1,cl2,cl3,cl4,cl5,cl6,cl7,cl8,cl9,Gy];kernel_rfl
theorem iS:Rows.SchemaStyleUptoSaid:=
 OpenClaim.holds_of_cond 4 Tryz.f4 rfl rfl rfl rfl rfl rfl rfl ⟨rfl,rfl,rfl,rfl,rfl⟩ rfl rfl rfl rfl rfl (by kernel_rfl) Tryz.func4 closed
  (of_decide_eq_true (by kernel_rfl)) (by unfold Func.isWrapper;first|(rw[if_pos (by decide+kernel)];kernel_rfl)|(rw[if_neg (by decide+kernel)];exact⟨rfl,rfl⟩))
  (λos started H enc _ F=>by rw[OpenClaim.pre_eq_preRow];exact lifted os started H enc F)
theorem proved:Rows.SchemaStyleUptoCardSaid:=
 Claim7.holds_tied_plain_at .later [] _ _ _ _ iS (λ_ h=>by cases h) (by kernel_rfl) (λ_ h=>by cases h) schemaStyleUpto_row_tie rfl ⟨rfl,rfl⟩ (by kernel_rfl) rfl
  (λf fn hf PX=>by
   obtain rfl:f=4:=aaj ((show Tryz.prog.funcNamed "election/electionlaw08.SchemaStyle" =some 4 by kernel_rfl).symm.trans hf) |>.symm;obtain rfl:fn=Tryz.f4:=(aaj (Tryz.func4.symm.trans PX)).symm;exact⟨Gx,λj t ht=>by
    rw[Tryz.params4] at ht;have hm:t∈[30,3]:=by simpa using ads ht
    have eQ:([30,3].all λu=>!Tryz.prog.wantsStandIn u)=true:=by kernel_rfl
    exact(show Tryz.prog.wantsStandIn t=false by simpa using abc.1 eQ t hm)⟩)
  Gw
end Go.Proofs.YtdbpbfglhbiadaaGreatDoor.lawSStyle
