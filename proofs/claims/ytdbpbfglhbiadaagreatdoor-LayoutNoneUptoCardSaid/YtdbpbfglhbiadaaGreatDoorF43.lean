/- LayoutNone -/
import Derived.Test.YtdbpbfglhbiadaaGreatDoorF00
import Derived.Test.YtdbpbfglhbiadaaGreatDoorF42
import Derived.Test.YtdbpbfglhbiadaaGreatDoorF40
import Derived.Test.YtdbpbfglhbiadaaGreatDoorTie
import Derived.Test.YtdbpbfglhbiadaaGreatDoorCards
set_option maxHeartbeats 8000000
set_option maxRecDepth 100000
namespace Go.Proofs.YtdbpbfglhbiadaaGreatDoor.lawNone
open Go.RowKit Go.ChangeShapes Go.WideShapes Go.ChangeAt Go.WideMaps Go.WideElems Go.ChangeMaps Go.Deep
theorem yA {W:World} (h:laidMetH Tryz.prog Rows.layoutNoneUptoRow.laid W):Kd W.heap.size W:=by
 rw[MakeChecks.laidMetH_plain _ _ _ (by kernel_rfl)] at h;exact wA (Lib.laidMet.reads h (.tail _ (.tail _ (.head _))))
theorem qe (os:Os) {H:Type} (enc:TypeId×Value->H):∃places,DataW.whole enc Tryz.prog ((World.laidAll Tryz.prog os Rows.layoutNoneUptoRow.laid).forCall (λ_ _=>0) ⟨#[],#[.agg #[.string ⟨#[]⟩,.int .i64 0,.int .i64 0,.int .i64 0,.slice none 0 0,.slice none 0 0,.slice none 0 0,.int .i64 0,.int .i64 0,.bool false,.slice none 0 0,.slice none 0 0,.int .i64 0,.string ⟨#[]⟩],.int .i64 0,.slice none 0 0],[]⟩).memory Tryz.f9.params.toList Rows.layoutNoneSpec.vars false (#[.agg #[.string ⟨#[]⟩,.int .i64 0,.int .i64 0,.int .i64 0,.slice none 0 0,.slice none 0 0,.slice none 0 0,.int .i64 0,.int .i64 0,.bool false,.slice none 0 0,.slice none 0 0,.int .i64 0,.string ⟨#[]⟩],.int .i64 0,.slice none 0 0]:Array Value).toList 8=some ([.agg [.lit (.string []),.lit (.int .i64 0),.lit (.int .i64 0),.lit (.int .i64 0),.nil,.nil,.nil,.lit (.int .i64 0),.lit (.int .i64 0),.agg [.lit (.bool false),.nil,.nil],.lit (.int .i64 0),.lit (.string [])],.lit (.int .i64 0),.nil],[],places):=⟨[],by kernel_rfl⟩
theorem lifted (os:Os) (started:os.Started) (H:Type) (enc:TypeId×Value->H) (F:Stop.Interp) : ReturnsInHanded {} Tryz.checked os 9 .any ((Rows.OpenSpec.upto Rows.layoutNoneSpec).preRow enc Tryz.prog Tryz.f9 Rows.layoutNoneUptoRow.domain false Rows.layoutNoneUptoRow.laid) (((Rows.OpenSpec.upto Rows.layoutNoneSpec).at F).post enc Tryz.prog Tryz.f9 false true false false):=by
 obtain⟨places,hx⟩:=qe os enc;refine returnsInHanded_of_row (C:=Tryz.checked) (s:=(Rows.OpenSpec.upto Rows.layoutNoneSpec)) Tryz.own' started (by kernel_rfl) Tryz.func9
  (jo (enc:=enc) (C:=Tryz.checked) false (World.laidAll Tryz.prog os Rows.layoutNoneUptoRow.laid) #[.agg #[.string ⟨#[]⟩,.int .i64 0,.int .i64 0,.int .i64 0,.slice none 0 0,.slice none 0 0,.slice none 0 0,.int .i64 0,.int .i64 0,.bool false,.slice none 0 0,.slice none 0 0,.int .i64 0,.string ⟨#[]⟩],.int .i64 0,.slice none 0 0] (World.laidAll_os _ _ _) (World.shaped_of_ZipB (by kernel_rfl) (by kernel_rfl)) (by kernel_rfl)
   (OpenSpec.preRow_of_cond 8 hx (by kernel_rfl) (λk hk=>by cases hk;kernel_rfl) (by kernel_rfl) (by rw[MakeChecks.laidMetH_plain _ _ _ (by kernel_rfl)];exact laidMet_laidAll _ (by kernel_rfl) (by kernel_rfl)))) ?_
 clear hx;intro W base args ds gs before hval0 hW _ rA _ hL _ _;have hk:Rows.uptoSmall H (ds++gs)=true:=rA _ rfl;have xx:Rows.uptoBulkAll (ds++gs)<=1048576:=of_decide_eq_true hk;clear rA hk;have Br:∀(j:Nat) t v,Tryz.f9.params[j]?=some t->args[j]?=some v->Value.okWide Tryz.prog W .any base t v:=hval0;have hW':=hW;obtain⟨p,q,hA0,hV,rfl,hfz,GB⟩:=hW;have hA:DataW.TrodAll enc Tryz.prog W 0 (λ_=>true) true Tryz.f9.params.toList args.toList ds p:=hA0;rw[Tryz.params9] at hA Br;obtain⟨v0,vs0,d0,ds0,p0,q0,Yc,rfl,rfl,h0,r0⟩:=trodAll_cons hA;obtain⟨v1,vs1,d1,ds1,p1,q1,EC,rfl,rfl,h1,r1⟩:=trodAll_cons r0;obtain⟨v2,vs2,d2,ds2,p2,q2,Yb,rfl,rfl,h2,r2⟩:=trodAll_cons r1;obtain⟨rfl,rfl,rfl⟩:=trodAll_nil r2;obtain rfl:=Yb;obtain rfl:=EC;obtain rfl:args=#[v0,v1,v2]:=by cases args;simp_all
 obtain⟨rfl,rfl⟩:=trodVars_none hV;have k0:=h0;have lt0:∀x∈p0,x.block<W.heap.size:=by obtain⟨m,hm⟩:=k0;exact DataW.trod_lt m _ _ _ hm
 have bk0:Rows.uptoBulk d0<=1048576:=aao (oX (by simp)) xx;have k1:=h1;have lt1:∀x∈p1,x.block<W.heap.size:=by obtain⟨m,hm⟩:=k1;exact DataW.trod_lt m _ _ _ hm
 have bk1:Rows.uptoBulk d1<=1048576:=aao (oX (by simp)) xx;have k2:=h2;have lt2:∀x∈p2,x.block<W.heap.size:=by obtain⟨m,hm⟩:=k2;exact DataW.trod_lt m _ _ _ hm
 have bk2:Rows.uptoBulk d2<=1048576:=aao (oX (by simp)) xx;obtain⟨uT,rfl,_⟩:=okWide_struct Tryz.underlying30 (Br 0 30 v0 rfl rfl);obtain⟨l0⟩:=uT;obtain⟨ado,hf0⟩:=h0;obtain⟨x0,zK,NJ,hb0⟩:=Tryz.opbElec _ _ _ _ _ _ _ _ _ hf0;have X8:=aao hb0 bk0;have Xp:SV W (λb=>b<W.heap.size) (.agg l0.toArray) x0:=⟨l0,rfl,zK⟩;obtain⟨x1,rfl⟩:=okWide_int Tryz.underlying3 (Br 1 3 v1 rfl rfl);obtain⟨A2,n2,c2,rfl⟩:=okWide_slice Tryz.underlying40 (Br 2 40 v2 rfl rfl);obtain⟨amS,hf2⟩:=h2;obtain⟨x2,⟨B2,m2,e2,q32,Jj⟩,UO,bH⟩:=Tryz.opbInts _ _ _ _ _ _ _ _ _ hf2;obtain⟨rfl,rfl,rfl⟩:A2=B2/\n2=m2/\c2=e2:=by
  have e4:Value.slice A2 n2 c2=Value.slice B2 m2 e2:=by injection q32
  injection e4 with a b c
  exact⟨a,b,c⟩
 have ap0:=aao bH bk2;have hT:=yA hL;clear hA0 hval0 hL hA;refine(lawLN_any hT (aam _) Xp (pA NJ X8) Jj).mono λe W' ⟨he,Ve⟩=>?_;subst he;exact⟨_,rfl,_,_,_,[],_,[],hW',trodAll_mk1 (shut_bool Tryz.underlying4 _),(trodAll_cons_mk (Below.trod Tryz.laidOut (by kernel_rfl) (of_decide_eq_true (by kernel_rfl)) k0 Ve lt0) (trodAll_cons_mk (Below.trod Tryz.laidOut (by kernel_rfl) (of_decide_eq_true (by kernel_rfl)) k1 Ve lt1) (trodAll_cons_mk (Below.trod Tryz.laidOut (by kernel_rfl) (of_decide_eq_true (by kernel_rfl)) k2 Ve lt2) trodAll_mk0))),rfl,Ve.frame _,λh=>by cases h⟩
theorem cl1:laidOutB Tryz.prog=true:=by kernel_rfl
theorem cl2:mapsRowed Tryz.prog=true:=by kernel_rfl
theorem cl3:(Rows.layoutNoneUptoRow.inPlace==Tryz.prog.inPlace 9)=true:=by kernel_rfl
theorem cl4:(Rows.layoutNoneUptoRow.unfollowed==Tryz.prog.unfollowed 9)=true:=by kernel_rfl
theorem cl5:(Rows.layoutNoneUptoRow.recurses==Tryz.prog.recurses 9)=true:=by kernel_rfl
theorem cl6:(Rows.layoutNoneUptoRow.named==Tryz.prog.varsNamed 9)=true:=by kernel_rfl
theorem cl7:(Rows.layoutNoneUptoRow.plainKeys==Tryz.prog.plainKeys)=true:=by kernel_rfl
theorem cl8:Tryz.prog.stopsHeard=true:=by kernel_rfl
theorem cl9:Tryz.prog.mayEnter=true:=by kernel_rfl
theorem YX:(Rows.layoutNoneUptoRow.lifted==Tryz.prog.liftsFinal)=true:=by kernel_rfl
theorem YW:Rows.layoutNoneUptoCard.stood.looks=Tryz.prog.looks []:=by kernel_rfl
theorem YV:false=Rows.layoutNoneUptoRow.goesBy Tryz.prog:=by kernel_rfl
theorem closed:joinedFacts Tryz.prog 9 Tryz.f9 (Rows.OpenSpec.upto Rows.layoutNoneSpec).bare Rows.layoutNoneUptoRow=true:=by
 unfold joinedFacts;rw[cl1,cl2,cl3,cl4,cl5,cl6,cl7,cl8,cl9,YX];kernel_rfl
theorem qo:Rows.LayoutNoneUptoSaid:=
 OpenClaim.holds_of_cond 9 Tryz.f9 rfl rfl rfl rfl rfl rfl rfl ⟨rfl,rfl,rfl,rfl,rfl⟩ rfl rfl rfl rfl rfl (by kernel_rfl) Tryz.func9 closed
  (of_decide_eq_true (by kernel_rfl)) (by unfold Func.isWrapper;first|(rw[if_pos (by decide+kernel)];kernel_rfl)|(rw[if_neg (by decide+kernel)];exact⟨rfl,rfl⟩))
  (λos started H enc _ F=>by rw[OpenClaim.pre_eq_preRow];exact lifted os started H enc F)
theorem proved:Rows.LayoutNoneUptoCardSaid:=
 Claim7.holds_tied_plain_at .later [] _ _ _ _ qo (λ_ h=>by cases h) (by kernel_rfl) (λ_ h=>by cases h) layoutNoneUpto_row_tie rfl ⟨rfl,rfl⟩ (by kernel_rfl) rfl
  (λf fn hf XP=>by
   obtain rfl:f=9:=aad ((show Tryz.prog.funcNamed "election/electionlaw10.LayoutNone" =some 9 by kernel_rfl).symm.trans hf) |>.symm;obtain rfl:fn=Tryz.f9:=(aad (Tryz.func9.symm.trans XP)).symm;exact⟨YW,λj t ht=>by
    rw[Tryz.params9] at ht;have hm:t∈[30,3,40]:=by simpa using Array.mem_of_getElem? ht
    have dW:([30,3,40].all λu=>!Tryz.prog.wantsStandIn u)=true:=by kernel_rfl
    exact(show Tryz.prog.wantsStandIn t=false by simpa using aau.1 dW t hm)⟩)
  YV
end Go.Proofs.YtdbpbfglhbiadaaGreatDoor.lawNone
