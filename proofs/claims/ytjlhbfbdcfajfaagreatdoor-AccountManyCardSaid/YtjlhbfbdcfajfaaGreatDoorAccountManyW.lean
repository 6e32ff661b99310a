/- AccountMany -/
import Derived.Test.YtjlhbfbdcfajfaaGreatDoorG31
import Derived.Test.YtjlhbfbdcfajfaaGreatDoorTie
import Derived.Test.YtjlhbfbdcfajfaaGreatDoorCards
import Derived.ProofKit
import Derived.LaidMore
import Derived.OpenShut
import Derived.Stop.Joined
import Derived.SevenTiedAt
import Derived.Lay
import Derived.LaidOnce
import Derived.Lib.LaidU8
import Derived.Lib.AppendIntMem
import Derived.Carry
import Derived.ShutString
import Derived.ChangeOld
/- AccountMany: Phantoms counts a negative Missing as 0, and its result is from 0 to 400: for every list of gaps. The package variable internal/strconv.uint64pow10 holds what the program's text lays (the card ties it). -/
namespace Go.Proofs.YtjlhbfbdcfajfaaGreatDoor
open Go.ChangeShapes Go.WideShapes Go.ChangeAt Go.WideMaps Go.WideElems Go.RowKit Go.ChangeMaps Go.Deep

theorem Tryz.own' : ownKnob Tryz.prog.godebug = none := by kernel_rfl
theorem Tryz.laidOut : laidOutB Tryz.prog = true := by kernel_rfl
theorem Tryz.openInt : Opens Tryz.prog 3 Int := opens_int Tryz.underlying3
theorem Tryz.openBool : Opens Tryz.prog 4 Bool := opens_bool Tryz.underlying4
instance : Fits GapD := ⟨fun _ => True⟩
theorem Tryz.openGap : Opens Tryz.prog 45 GapD := by
  intro H enc w base spare held fuel cs x h
  obtain ⟨hl, hff⟩ := trod_fields Tryz.underlying45 (by kernel_rfl) h
  have hC : Tryz.prog.cellsOf 45 = 6 := by kernel_rfl
  match cs, hl.trans hC with
  | [c0, c1, c2, c3, c4, c5], _ =>
    obtain ⟨_, _, h0⟩ := hff 0 _ c0 rfl rfl
    obtain ⟨_, _, h1⟩ := hff 1 _ c1 rfl rfl
    obtain ⟨_, _, h2⟩ := hff 2 _ c2 rfl rfl
    obtain ⟨_, _, h3⟩ := hff 3 _ c3 rfl rfl
    obtain ⟨_, _, h4⟩ := hff 4 _ c4 rfl rfl
    obtain ⟨_, _, h5⟩ := hff 5 _ c5 rfl rfl
    obtain ⟨x0, e0, _⟩ := Tryz.openInt _ _ _ _ _ _ _ _ _ h0
    obtain ⟨x1, e1, _⟩ := Tryz.openInt _ _ _ _ _ _ _ _ _ h1
    obtain ⟨x2, e2, _⟩ := Tryz.openInt _ _ _ _ _ _ _ _ _ h2
    obtain ⟨x3, e3, _⟩ := Tryz.openInt _ _ _ _ _ _ _ _ _ h3
    obtain ⟨x4, e4, _⟩ := Tryz.openInt _ _ _ _ _ _ _ _ _ h4
    obtain ⟨x5, e5, _⟩ := Tryz.openBool _ _ _ _ _ _ _ _ _ h5
    have q0 : c0 = .int .i64 x0 := by injection e0
    have q1 : c1 = .int .i64 x1 := by injection e1
    have q2 : c2 = .int .i64 x2 := by injection e2
    have q3 : c3 = .int .i64 x3 := by injection e3
    have q4 : c4 = .int .i64 x4 := by injection e4
    have q5 : c5 = .bool x5 := by injection e5
    subst q0 q1 q2 q3 q4 q5
    exact ⟨⟨x0, x1, x2, x3, x4, x5⟩, rfl, trivial⟩
theorem Tryz.openGaps : Opens Tryz.prog 36 (List GapD) := opens_slice Tryz.underlying36 (by kernel_rfl) (by show 0 < 6; omega) Tryz.openGap

theorem tab_data : Rows.laid_internal_strconv_uint64pow10 = (Lib.tabData .u64 Lib.pow10Tab : DataW Unit) := rfl
theorem tab_reads {W : World} (h : Lib.VarReads Tryz.prog W "internal/strconv.uint64pow10" Rows.laid_internal_strconv_uint64pow10) : Tab W.heap.size W := by
  have hT : Lib.TabIs Tryz.prog W "internal/strconv.uint64pow10" .u64 Lib.pow10Tab := by
    obtain ⟨g, t, cs, fuel, p, hg, hty, hvar, hd⟩ := h
    obtain ⟨g0, hg0, ht0⟩ : ∃ g0, Tryz.prog.globalNamed "internal/strconv.uint64pow10" = some g0 ∧ (Tryz.prog.globals[g0]?).map (·.type) = some 257 := ⟨(Tryz.prog.globalNamed "internal/strconv.uint64pow10").getD 0, by kernel_rfl, by kernel_rfl⟩
    obtain rfl := Option.some.inj (hg.symm.trans hg0)
    obtain rfl := Option.some.inj (hty.symm.trans ht0)
    rw [tab_data] at hd
    unfold Lib.TabIs
    rw [hvar, ← Lib.cells_of_tab Tryz.underlying257 Tryz.underlying198 (by kernel_rfl) (by kernel_rfl) hd]
  exact Lib.tabBelow_of_tabIs hT
end Go.Proofs.YtjlhbfbdcfajfaaGreatDoor
namespace Go.Proofs.YtjlhbfbdcfajfaaGreatDoor.lawMany
open Go.ChangeShapes Go.WideShapes Go.ChangeAt Go.WideMaps Go.WideElems Go.RowKit Go.ChangeMaps Go.Deep

theorem of_laid {W : World} (h : laidMetH Tryz.prog Rows.accountManyRow.laid W) : Tab W.heap.size W := by
  rw [MakeChecks.laidMetH_plain _ _ _ (by kernel_rfl)] at h
  exact tab_reads (Lib.laidMet.reads h (.tail _ (.tail _ (.head _))))

set_option maxRecDepth 100000 in
theorem lifted (os : Os) (started : os.Started) (H : Type) (enc : TypeId × Value → H) :
    ReturnsInHanded {} Tryz.checked os 6 .any (fun w args => (Rows.accountManySpec.pre enc Tryz.prog Tryz.f6 [] false w args ∧ laidMetH Tryz.prog Rows.accountManyRow.laid w) ∧ sizedMet enc Tryz.prog Tryz.f6 (OpenSpec.ofChange Rows.accountManySpec) false w args)
      (Rows.accountManySpec.post enc Tryz.prog Tryz.f6 false true false false) := by
  refine returnsInHanded_of_change_and (C := Tryz.checked) (X := fun w _ => laidMetH Tryz.prog Rows.accountManyRow.laid w) (fun _ _ _ hh h => h.of_heap hh) Tryz.own' started (by kernel_rfl) Tryz.func6
    (ChangeSpec.witness_shaped (enc := enc) (C := Tryz.checked) (os := os) (X := fun w _ => laidMetH Tryz.prog Rows.accountManyRow.laid w) false (World.laidAll Tryz.prog os Rows.accountManyRow.laid) #[.slice none 0 0] 8 (World.laidAll_os _ _ _)
      (World.shaped_of_ZipB (by kernel_rfl) (by kernel_rfl)) (by kernel_rfl) (by kernel_rfl) (by kernel_rfl)
      (by rw [MakeChecks.laidMetH_plain _ _ _ (by kernel_rfl)]; exact laidMet_laidAll _ (by kernel_rfl) (by kernel_rfl))) ?_
  intro W base args ds gs before hval0 hW _ _ hL _
  have hval : ∀ (j : Nat) t v, Tryz.f6.params[j]? = some t → args[j]? = some v → Value.okWide Tryz.prog W .any base t v := hval0
  have hW' := hW
  obtain ⟨p, q, hA0, hV, rfl, hfz, hnd⟩ := hW
  have hA : DataW.TrodAll enc Tryz.prog W 0 (fun _ => true) true Tryz.f6.params.toList args.toList ds p := hA0
  rw [Tryz.params6] at hA hval
  obtain ⟨v0, vs0, d0, ds0, p0, q0, hargs, rfl, rfl, h0, r0⟩ := trodAll_cons hA
  obtain ⟨rfl, rfl, rfl⟩ := trodAll_nil r0
  obtain rfl : args = #[v0] := by cases args; simp_all
  obtain ⟨rfl, rfl⟩ := trodVars_none hV
  have k0 := h0
  have lt0 : ∀ x ∈ p0, x.block < W.heap.size := by obtain ⟨m, hm⟩ := k0; exact DataW.trod_lt m _ _ _ hm
  obtain ⟨A, n, c, rfl⟩ := okWide_slice Tryz.underlying36 (hval 0 36 v0 rfl rfl)
  obtain ⟨fuel, hf⟩ := h0
  obtain ⟨gs0, ⟨A3, n3, c3, e3, hro⟩, _⟩ := Tryz.openGaps _ _ _ _ _ _ _ _ _ hf
  obtain ⟨rfl, rfl, rfl⟩ : A = A3 ∧ n = n3 ∧ c = c3 := by
    have e4 : Value.slice A n c = Value.slice A3 n3 c3 := by injection e3
    injection e4 with a b c
    exact ⟨a, b, c⟩
  have hT := of_laid hL
  clear hA0 hval0
  refine (lawAccountMany_any hT (Nat.le_refl _) hro (fun _ h => h)).mono fun e W' ⟨he, bel⟩ => ?_
  subst he
  exact ⟨_, rfl, _, _, _, [], _, [], hW', trodAll_mk1 (shut_bool Tryz.underlying4 _), (trodAll_cons_mk (Below.trod Tryz.laidOut (by kernel_rfl) (of_decide_eq_true (by kernel_rfl)) k0 bel lt0) trodAll_mk0), rfl, bel.frame _, fun h => by cases h⟩

theorem row_holds : Rows.AccountManySaid :=
  OpenClaim.holds_of_wide 6 Tryz.f6 rfl rfl rfl rfl rfl rfl rfl ⟨rfl, rfl, rfl, rfl, rfl⟩ rfl rfl rfl rfl rfl (by kernel_rfl) Tryz.func6 (by kernel_rfl)
    (of_decide_eq_true (by kernel_rfl)) (by unfold Func.isWrapper; first | (rw [if_pos (by decide +kernel)]; kernel_rfl) | (rw [if_neg (by decide +kernel)]; exact ⟨rfl, rfl⟩))
    (fun os started H enc _ => lifted os started H enc)

theorem proved : Rows.AccountManyCardSaid :=
  Claim7.holds_tied_plain_at .later [] [.data, .data, .data, .data, .sentinel, .sentinel, .pinned] true (true, "a906bc379d0f90a3b95bfd1f6a063ced6bc461ce193c6295d0692cab14678bca") true
    row_holds (fun _ h => by cases h) (by kernel_rfl) (fun _ h => by cases h) accountMany_row_tie rfl ⟨rfl, rfl⟩ (by kernel_rfl) rfl
    (fun f fn hf hfn => by
      obtain rfl : f = 6 := Option.some.inj ((show Tryz.prog.funcNamed "election/electionlaw20.AccountMany" = some 6 by kernel_rfl).symm.trans hf) |>.symm
      obtain rfl : fn = Tryz.f6 := (Option.some.inj (Tryz.func6.symm.trans hfn)).symm
      exact ⟨by kernel_rfl, fun j t ht => by
        rw [Tryz.params6] at ht
        have hm : t ∈ [36] := by simpa using Array.mem_of_getElem? ht
        have hall : ([36].all fun u => !Tryz.prog.wantsStandIn u) = true := by kernel_rfl
        exact (show Tryz.prog.wantsStandIn t = false by simpa using List.all_eq_true.1 hall t hm)⟩)
    (by kernel_rfl)
end Go.Proofs.YtjlhbfbdcfajfaaGreatDoor.lawMany
