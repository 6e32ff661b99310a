/- SchemaLines -/
import Derived.Test.YtichkplomldgiaaGreatDoorJ30
import Derived.Test.YtichkplomldgiaaGreatDoorTie
import Derived.Test.YtichkplomldgiaaGreatDoorCards
set_option maxHeartbeats 4000000
set_option maxRecDepth 100000
namespace Go.Proofs.YtichkplomldgiaaGreatDoor.lawSLines
open Go.RowKit Go.ChangeShapes Go.WideShapes Go.ChangeAt Go.WideMaps Go.WideElems Go.ChangeMaps Go.Deep
theorem GZ {W:World} (h:laidMetH Tryz.prog Rows.schemaLinesUptoRow.laid W):Fx W.heap.size W:=by
 rw[MakeChecks.laidMetH_plain _ _ _ (by kernel_rfl)] at h;exact zu (Lib.laidMet.reads h (.tail _ (.tail _ (.head _))))
theorem zn (os:Os) {H:Type} (enc:TypeId×Value->H):∃places,DataW.whole enc Tryz.prog ((World.laidAll Tryz.prog os Rows.schemaLinesUptoRow.laid).forCall (λ_ _=>0) ⟨#[],#[.string ⟨#[]⟩,.int .i64 0],[]⟩).memory Tryz.f9.params.toList Rows.schemaLinesSpec.vars false (#[.string ⟨#[]⟩,.int .i64 0]:Array Value).toList 8=some ([.lit (.string []),.lit (.int .i64 0)],[],places):=⟨[],by kernel_rfl⟩
theorem lifted (os:Os) (started:os.Started) (H:Type) (enc:TypeId×Value->H) (F:Stop.Interp) : ReturnsInHanded {} Tryz.checked os 9 .any ((Rows.OpenSpec.upto Rows.schemaLinesSpec).preRow enc Tryz.prog Tryz.f9 Rows.schemaLinesUptoRow.domain false Rows.schemaLinesUptoRow.laid) (((Rows.OpenSpec.upto Rows.schemaLinesSpec).at F).post enc Tryz.prog Tryz.f9 false true false false):=by
 obtain⟨places,hx⟩:=zn os enc;refine returnsInHanded_of_row (C:=Tryz.checked) (s:=(Rows.OpenSpec.upto Rows.schemaLinesSpec)) Tryz.own' started (by kernel_rfl) Tryz.func9
  (jO (enc:=enc) (C:=Tryz.checked) false (World.laidAll Tryz.prog os Rows.schemaLinesUptoRow.laid) #[.string ⟨#[]⟩,.int .i64 0] (World.laidAll_os _ _ _) (World.shaped_of_ZipB (by kernel_rfl) (by kernel_rfl)) (by kernel_rfl)
   (OpenSpec.preRow_of_cond 8 hx (by kernel_rfl) (λk hk=>by cases hk;kernel_rfl) (by kernel_rfl) (by rw[MakeChecks.laidMetH_plain _ _ _ (by kernel_rfl)];exact laidMet_laidAll _ (by kernel_rfl) (by kernel_rfl)))) ?_
 clear hx;intro W base args ds gs before hval0 hW _ hcond _ hL _ _;have hk:Rows.uptoSmall H (ds++gs)=true:=hcond _ rfl;have Kd:Rows.uptoBulkAll (ds++gs)<=1048576:=of_decide_eq_true hk;clear hcond hk;have L5:∀(j:Nat) t v,Tryz.f9.params[j]?=some t->args[j]?=some v->Value.okWide Tryz.prog W .any base t v:=hval0;have hW':=hW;obtain⟨p,q,hA0,hV,rfl,hfz,J5⟩:=hW;have hA:DataW.TrodAll enc Tryz.prog W 0 (λ_=>true) true Tryz.f9.params.toList args.toList ds p:=hA0;rw[Tryz.params9] at hA L5;obtain⟨v0,TC,d0,ds0,p0,q0,VS,rfl,rfl,h0,r0⟩:=trodAll_cons hA;obtain⟨v1,vs1,d1,ds1,p1,q1,Mx,rfl,rfl,h1,r1⟩:=trodAll_cons r0;obtain⟨rfl,rfl,rfl⟩:=trodAll_nil r1;obtain rfl:=Mx;obtain rfl:args=#[v0,v1]:=by cases args;simp_all
 obtain⟨rfl,rfl⟩:=trodVars_none hV;have k0:=h0;have lt0:∀x∈p0,x.block<W.heap.size:=by obtain⟨m,hm⟩:=k0;exact DataW.trod_lt m _ _ _ hm
 have bk0:Rows.uptoBulk d0<=1048576:=Nat.le_trans (xP (by simp)) Kd;have k1:=h1;have lt1:∀x∈p1,x.block<W.heap.size:=by obtain⟨m,hm⟩:=k1;exact DataW.trod_lt m _ _ _ hm
 have bk1:Rows.uptoBulk d1<=1048576:=Nat.le_trans (xP (by simp)) Kd;obtain⟨x0,rfl⟩:=okWide_string Tryz.underlying9 (L5 0 9 v0 rfl rfl);obtain⟨x1,rfl⟩:=okWide_int Tryz.underlying3 (L5 1 3 v1 rfl rfl);have hT:=GZ hL;clear hA0 hval0 hL hA;refine(lawSL_any hT (Nat.le_refl _) x0 x1).mono λe W' ⟨he,W7⟩=>?_;subst he;exact⟨_,rfl,_,_,_,[],_,[],hW',trodAll_mk1 (shut_bool Tryz.underlying4 _),(trodAll_cons_mk (Below.trod Tryz.laidOut (by kernel_rfl) (of_decide_eq_true (by kernel_rfl)) k0 W7 lt0) (trodAll_cons_mk (Below.trod Tryz.laidOut (by kernel_rfl) (of_decide_eq_true (by kernel_rfl)) k1 W7 lt1) trodAll_mk0)),rfl,W7.frame _,λh=>by cases h⟩
theorem cl1:laidOutB Tryz.prog=true:=by kernel_rfl
theorem cl2:mapsRowed Tryz.prog=true:=by kernel_rfl
theorem cl3:(Rows.schemaLinesUptoRow.inPlace==Tryz.prog.inPlace 9)=true:=by kernel_rfl
theorem cl4:(Rows.schemaLinesUptoRow.unfollowed==Tryz.prog.unfollowed 9)=true:=by kernel_rfl
theorem cl5:(Rows.schemaLinesUptoRow.recurses==Tryz.prog.recurses 9)=true:=by kernel_rfl
theorem cl6:(Rows.schemaLinesUptoRow.named==Tryz.prog.varsNamed 9)=true:=by kernel_rfl
theorem cl7:(Rows.schemaLinesUptoRow.plainKeys==Tryz.prog.plainKeys)=true:=by kernel_rfl
theorem cl8:Tryz.prog.stopsHeard=true:=by kernel_rfl
theorem cl9:Tryz.prog.mayEnter=true:=by kernel_rfl
theorem WP:(Rows.schemaLinesUptoRow.lifted==Tryz.prog.liftsFinal)=true:=by kernel_rfl
theorem WO:Rows.schemaLinesUptoCard.stood.looks=Tryz.prog.looks []:=by kernel_rfl
theorem WN:false=Rows.schemaLinesUptoRow.goesBy Tryz.prog:=by kernel_rfl
theorem closed:joinedFacts Tryz.prog 9 Tryz.f9 (Rows.OpenSpec.upto Rows.schemaLinesSpec).bare Rows.schemaLinesUptoRow=true:=by
 unfold joinedFacts;rw[cl1,cl2,cl3,cl4,cl5,cl6,cl7,cl8,cl9,WP];kernel_rfl
theorem zN:Rows.SchemaLinesUptoSaid:=
 OpenClaim.holds_of_cond 9 Tryz.f9 rfl rfl rfl rfl rfl rfl rfl ⟨rfl,rfl,rfl,rfl,rfl⟩ rfl rfl rfl rfl rfl (by kernel_rfl) Tryz.func9 closed
  (of_decide_eq_true (by kernel_rfl)) (by unfold Func.isWrapper;first|(rw[if_pos (by decide+kernel)];kernel_rfl)|(rw[if_neg (by decide+kernel)];exact⟨rfl,rfl⟩))
  (λos started H enc _ F=>by rw[OpenClaim.pre_eq_preRow];exact lifted os started H enc F)
theorem proved:Rows.SchemaLinesUptoCardSaid:=
 Claim7.holds_tied_plain_at .later [] _ _ _ _ zN (λ_ h=>by cases h) (by kernel_rfl) (λ_ h=>by cases h) schemaLinesUpto_row_tie rfl ⟨rfl,rfl⟩ (by kernel_rfl) rfl
  (λf fn hf QA=>by
   obtain rfl:f=9:=Option.some.inj ((show Tryz.prog.funcNamed "election/electionlaw08.SchemaLines" =some 9 by kernel_rfl).symm.trans hf) |>.symm;obtain rfl:fn=Tryz.f9:=(Option.some.inj (Tryz.func9.symm.trans QA)).symm;exact⟨WO,λj t ht=>by
    rw[Tryz.params9] at ht;have hm:t∈[9,3]:=by simpa using Array.mem_of_getElem? ht
    have jy:([9,3].all λu=>!Tryz.prog.wantsStandIn u)=true:=by kernel_rfl
    exact(show Tryz.prog.wantsStandIn t=false by simpa using List.all_eq_true.1 jy t hm)⟩)
  WN
end Go.Proofs.YtichkplomldgiaaGreatDoor.lawSLines
