/- AccountRecords -/
import Derived.Test.YtjlhbfbdcfajfaaGreatDoorB38
import Derived.Test.YtjlhbfbdcfajfaaGreatDoorR09
import Derived.Test.YtjlhbfbdcfajfaaGreatDoorTie
import Derived.Test.YtjlhbfbdcfajfaaGreatDoorCards
import Derived.ProofKit
import Derived.LaidMore
import Derived.OpenShut
import Derived.Stop.Joined
import Derived.SevenTiedAt
import Derived.Lay
import Derived.LaidOnce
import Derived.Lib.LaidU8
import Derived.Lib.AppendIntMem
import Derived.Carry
import Derived.ShutString
import Derived.ChangeOld
namespace Go.Proofs.YtjlhbfbdcfajfaaGreatDoor
open Go.ChangeShapes Go.WideShapes Go.ChangeAt Go.WideMaps Go.WideElems Go.RowKit Go.ChangeMaps Go.Deep
theorem Tryz.own':ownKnob Tryz.prog.godebug=none:=by kernel_rfl
theorem Tryz.laidOut:laidOutB Tryz.prog=true:=by kernel_rfl
theorem Df:Rows.laid_internal_strconv_uint64pow10=(Lib.tabData .u64 Lib.pow10Tab:DataW Unit):=rfl
theorem zT {W:World} (h:Lib.VarReads Tryz.prog W "internal/strconv.uint64pow10" Rows.laid_internal_strconv_uint64pow10):EL W.heap.size W:=by
 have hT:Lib.TabIs Tryz.prog W "internal/strconv.uint64pow10" .u64 Lib.pow10Tab:=by
  obtain⟨g,t,cs,fuel,p,hg,hty,acJ,hd⟩:=h;obtain⟨g0,hg0,Xa⟩:∃g0,Tryz.prog.globalNamed "internal/strconv.uint64pow10" =some g0∧(Tryz.prog.globals[g0]?).map (·.type)=some 257:=⟨(Tryz.prog.globalNamed "internal/strconv.uint64pow10").getD 0,by kernel_rfl,by kernel_rfl⟩;obtain rfl:=Option.some.inj (hg.symm.trans hg0);obtain rfl:=Option.some.inj (hty.symm.trans Xa);rw[Df] at hd;unfold Lib.TabIs;rw[acJ,←Lib.cells_of_tab Tryz.underlying257 Tryz.underlying198 (by kernel_rfl) (by kernel_rfl) hd]
 exact Lib.tabBelow_of_tabIs hT
end Go.Proofs.YtjlhbfbdcfajfaaGreatDoor
namespace Go.Proofs.YtjlhbfbdcfajfaaGreatDoor.lawRecords
open Go.ChangeShapes Go.WideShapes Go.ChangeAt Go.WideMaps Go.WideElems Go.RowKit Go.ChangeMaps Go.Deep
theorem Ix {W:World} (h:laidMetH Tryz.prog Rows.accountRecordsRow.laid W):EL W.heap.size W:=by
 rw[MakeChecks.laidMetH_plain _ _ _ (by kernel_rfl)] at h;exact zT (Lib.laidMet.reads h (.tail _ (.tail _ (.head _))))
set_option maxRecDepth 100000 in
theorem lifted (os:Os) (started:os.Started) (H:Type) (enc:TypeId×Value→H) : ReturnsInHanded {} Tryz.checked os 9 .any (fun w args=>(Rows.accountRecordsSpec.pre enc Tryz.prog Tryz.f9 [] false w args∧laidMetH Tryz.prog Rows.accountRecordsRow.laid w)∧sizedMet enc Tryz.prog Tryz.f9 (OpenSpec.ofChange Rows.accountRecordsSpec) false w args) (Rows.accountRecordsSpec.post enc Tryz.prog Tryz.f9 false true false false):=by
 refine returnsInHanded_of_change_and (C:=Tryz.checked) (X:=fun w _=>laidMetH Tryz.prog Rows.accountRecordsRow.laid w) (fun _ _ _ hh h=>h.of_heap hh) Tryz.own' started (by kernel_rfl) Tryz.func9
  (ChangeSpec.witness_shaped (enc:=enc) (C:=Tryz.checked) (os:=os) (X:=fun w _=>laidMetH Tryz.prog Rows.accountRecordsRow.laid w) false (World.laidAll Tryz.prog os Rows.accountRecordsRow.laid) #[.agg #[.string ⟨#[]⟩,.int .i64 0,.int .i64 0,.int .i64 0,.slice none 0 0,.slice none 0 0,.slice none 0 0,.int .i64 0,.int .i64 0,.bool false,.slice none 0 0,.slice none 0 0,.int .i64 0,.string ⟨#[]⟩],.slice none 0 0] 8 (World.laidAll_os _ _ _)
   (World.shaped_of_ZipB (by kernel_rfl) (by kernel_rfl)) (by kernel_rfl) (by kernel_rfl) (by kernel_rfl)
   (by rw[MakeChecks.laidMetH_plain _ _ _ (by kernel_rfl)];exact laidMet_laidAll _ (by kernel_rfl) (by kernel_rfl))) ?_
 intro W base args ds gs before hval0 hW _ _ hL _;have ku:∀(j:Nat) t v,Tryz.f9.params[j]?=some t→args[j]?=some v→Value.okWide Tryz.prog W .any base t v:=hval0;have hW':=hW;obtain⟨p,q,hA0,hV,rfl,hfz,Mf⟩:=hW;have hA:DataW.TrodAll enc Tryz.prog W 0 (fun _=>true) true Tryz.f9.params.toList args.toList ds p:=hA0;rw[Tryz.params9] at hA ku;obtain⟨v0,Jz,d0,ds0,p0,q0,axT,rfl,rfl,h0,r0⟩:=trodAll_cons hA;obtain⟨v1,J4,d1,ds1,p1,q1,ad6,rfl,rfl,h1,r1⟩:=trodAll_cons r0;obtain⟨rfl,rfl,rfl⟩:=trodAll_nil r1;obtain rfl:=ad6;obtain rfl:args=#[v0,v1]:=by cases args;simp_all
 obtain⟨rfl,rfl⟩:=trodVars_none hV;have k0:=h0;have lt0:∀x∈p0,x.block<W.heap.size:=by obtain⟨m,hm⟩:=k0;exact DataW.trod_lt m _ _ _ hm
 have k1:=h1;have lt1:∀x∈p1,x.block<W.heap.size:=by obtain⟨m,hm⟩:=k1;exact DataW.trod_lt m _ _ _ hm
 obtain⟨Hn,rfl,_⟩:=okWide_struct Tryz.underlying30 (ku 0 30 v0 rfl rfl);obtain⟨l0⟩:=Hn;obtain⟨ayj,QR⟩:=h0;obtain⟨_,_,_,_,hl0,_,_⟩:=DataW.trod_struct Tryz.underlying30 QR;have hC0:Tryz.prog.cellsOf 30=14:=by kernel_rfl
 have h14:(Tryz.prog.info? 30).map (·.size)=some 14:=by kernel_rfl
 have Cp:(Tryz.prog.info? 30).map (·.size)=some l0.length:=by rw[h14,show l0.length=14 from hl0.trans hC0]
 obtain⟨A,n,c,rfl⟩:=okWide_slice Tryz.underlying57 (ku 1 57 v1 rfl rfl);obtain⟨fuel,hf⟩:=h1;obtain⟨bs,⟨A3,n3,c3,e3,hro⟩,_⟩:=Tryz.openBatches _ _ _ _ _ _ _ _ _ hf;obtain⟨rfl,rfl,rfl⟩:A=A3∧n=n3∧c=c3:=by
  have e4:Value.slice A n c=Value.slice A3 n3 c3:=by injection e3
  injection e4 with a b c
  exact⟨a,b,c⟩
 have hT:=Ix hL;clear hA0 hval0;refine(lawAccountRecords_any (fun w' hb=>qF (hT.keep hb) hb.size) Cp hro (fun _ h=>h)).mono fun e W' ⟨he,bel⟩=>?_;subst he;exact⟨_,rfl,_,_,_,[],_,[],hW',trodAll_mk1 (shut_bool Tryz.underlying4 _),(trodAll_cons_mk (Below.trod Tryz.laidOut (by kernel_rfl) (of_decide_eq_true (by kernel_rfl)) k0 bel lt0) (trodAll_cons_mk (Below.trod Tryz.laidOut (by kernel_rfl) (of_decide_eq_true (by kernel_rfl)) k1 bel lt1) trodAll_mk0)),rfl,bel.frame _,fun h=>by cases h⟩
theorem zX:Rows.AccountRecordsSaid:=
 OpenClaim.holds_of_wide 9 Tryz.f9 rfl rfl rfl rfl rfl rfl rfl ⟨rfl,rfl,rfl,rfl,rfl⟩ rfl rfl rfl rfl rfl (by kernel_rfl) Tryz.func9 (by kernel_rfl)
  (of_decide_eq_true (by kernel_rfl)) (by unfold Func.isWrapper;first|(rw[if_pos (by decide+kernel)];kernel_rfl)|(rw[if_neg (by decide+kernel)];exact⟨rfl,rfl⟩))
  (fun os started H enc _=>lifted os started H enc)
theorem proved:Rows.AccountRecordsCardSaid:=
 Claim7.holds_tied_plain_at .later [] [.data,.data,.data,.data,.sentinel,.sentinel,.pinned] true (true, "a906bc379d0f90a3b95bfd1f6a063ced6bc461ce193c6295d0692cab14678bca") true
  zX (fun _ h=>by cases h) (by kernel_rfl) (fun _ h=>by cases h) accountRecords_row_tie rfl ⟨rfl,rfl⟩ (by kernel_rfl) rfl
  (fun f fn hf hfn=>by
   obtain rfl:f=9:=Option.some.inj ((show Tryz.prog.funcNamed "election/electionlaw20.AccountRecords" =some 9 by kernel_rfl).symm.trans hf) |>.symm;obtain rfl:fn=Tryz.f9:=(Option.some.inj (Tryz.func9.symm.trans hfn)).symm;exact⟨by kernel_rfl,fun j t ht=>by
    rw[Tryz.params9] at ht;have hm:t∈[30,57]:=by simpa using Array.mem_of_getElem? ht
    have bA:([30,57].all fun u=>!Tryz.prog.wantsStandIn u)=true:=by kernel_rfl
    exact(show Tryz.prog.wantsStandIn t=false by simpa using List.all_eq_true.1 bA t hm)⟩)
  (by kernel_rfl)
end Go.Proofs.YtjlhbfbdcfajfaaGreatDoor.lawRecords
