/- SHA-256: a block is mixed into the state, in the reference. -/
import Derived.Test.YtofdjlngohhlmaaDoorSha4
import Derived.Test.YtofdjlngohhlmaaDoorDraw2
import Derived.Outline
namespace Go.Proofs.YtofdjlngohhlmaaDoor
open Go.RowKit

/-- the two arrays of the reference, while the region that makes them is carried out -/
def BInv (W : World) (bs : List UInt8) (st : Nat → BitVec 32) (v1 v2 : Value) (a0 : Act) (d : Nat → Bool) (a : Act) (w1 : World) : Prop :=
  ∃ v13 v14 v15 v5 v6, a = puts a0 [(13, v13), (14, v14), (15, v15), (5, v5), (6, v6)] ∧ (a0.tmps[1]? = some v1 ∧ a0.tmps[2]? = some v2 ∧ 15 < a0.tmps.size) ∧ Below W.heap.size W w1 ∧ W.heap.size ≤ w1.heap.size ∧ (d 5 = true → d 3 = true) ∧ (d 6 = true → d 4 = true) ∧
    (d 0 = true → v13 = v1) ∧ (d 1 = true → v14 = .agg (cells32 64 (upto bs 64))) ∧ (d 2 = true → v15 = .agg (cells32 8 st)) ∧
    (d 3 = true → ∃ g, v5 = .pointer (some ⟨g, 0, none⟩) ∧ W.heap.size ≤ g ∧ Blk w1 g 61 (cells32 64 (if d 5 then upto bs 64 else fun _ => 0))) ∧
    (d 4 = true → ∃ g, v6 = .pointer (some ⟨g, 0, none⟩) ∧ W.heap.size ≤ g ∧ Blk w1 g 57 (cells32 8 (if d 6 then st else fun _ => 0)))

theorem quiet_W {P : Program} {f : FuncId} {args : Array Value} {w : World} {n : Nat} {v : Value} (h : Calls P f args (w.drewN n) (RetW (w.drewN n) v)) : Calls P f args (w.drewN n) fun e w'' => e = .returned v ∧ ∃ m, w'' = w.drewN m :=
  h.mono fun _ _ ⟨he, hm⟩ => ⟨he, n, hm.symm⟩
theorem blk_ne {w : World} {g g' : Nat} {t t' : TypeId} {cs cs' : Array Value} (h : Blk w g t cs) (h' : Blk w g' t' cs') (ht : t ≠ t') : g ≠ g' := by
  rintro rfl
  have := h.symm.trans h'
  injection this with this
  injection this with _ h1
  exact ht h1

set_option maxRecDepth 100000 in
set_option maxHeartbeats 1000000 in
theorem block_ok {S : Nat → Prop} {A : Option Addr} {n c : Nat} {bs : List UInt8} {w : World} (st : Nat → BitVec 32) (h : RS w S A n c bs) (hS : ∀ b, S b → b < w.heap.size) (hn : 64 ≤ n) (hT : Tab w 0) :
    Calls Tryd.prog 30 #[.agg (cells32 8 st), .slice A n c] w (RetV w (.agg (cells32 8 (mixF st bs)))) := by
  have H := Lib.hid h; clear h
  have HT := Lib.hid hT; clear hT
  go_enter Tryd.func30, Tryd.ntmps30
  go_upto_region 1 with (fail)
  refine name_world fun W hW => ?_
  have hB : Below w.heap.size w W := by rw [hW]; exact ((Below.refl _ _).alloc (Nat.le_refl _) _).alloc (by simp) _
  have hz : #[Value.int .u32 0, .int .u32 0, .int .u32 0, .int .u32 0, .int .u32 0, .int .u32 0, .int .u32 0, .int .u32 0] = cells32 8 (fun _ => 0) := rfl
  have k0 : Blk W w.heap.size 57 (cells32 8 st) := by rw [hW]; exact Blk.alloc (Blk.new' rfl _ _) _
  have k1 : Blk W (w.heap.size + 1) 57 (cells32 8 fun _ => 0) := by rw [hW, ← hz]; exact Blk.new' (by simp) _ _
  have hzW : W.heap.size = w.heap.size + 2 := by rw [hW]; simp
  have HB := Lib.hid hB
  have K0 := Lib.hid k0
  have K1 := Lib.hid k1
  have HZ := Lib.hid hzW
  clear hB k0 k1 hW hz hzW
  refine wp_region_inv' 7 (BInv W bs st (.slice A n c) (.pointer (some ⟨w.heap.size, 0, none⟩))) (by kernel_rfl) (by kernel_rfl) ?_ ?_ ?_
  · refine ⟨undef, undef, undef, undef, undef, ?_, ⟨rfl, rfl, by simp⟩, (Below.refl _ _).drew, Nat.le_refl _, nofun, nofun, nofun, nofun, nofun, nofun, nofun⟩
    kernel_rfl
  · rintro Q' a0 d a' w1 i hi ⟨v13, v14, v15, v5, v6, rfl, ha0, hb, hsz, h53, h64, h0, h1, h2, h3, h4⟩ hdi hw
    have hk3 : ∀ w2, Below w1.heap.size w1 w2 → d 3 = true → ∃ g, v5 = .pointer (some ⟨g, 0, none⟩) ∧ W.heap.size ≤ g ∧ Blk w2 g 61 (cells32 64 (if d 5 then upto bs 64 else fun _ => 0)) :=
      fun w2 hb2 hd => let ⟨g, e1, e2, e3⟩ := h3 hd; ⟨g, e1, e2, e3.keep hb2⟩
    have hk4 : ∀ w2, Below w1.heap.size w1 w2 → d 4 = true → ∃ g, v6 = .pointer (some ⟨g, 0, none⟩) ∧ W.heap.size ≤ g ∧ Blk w2 g 57 (cells32 8 (if d 6 then st else fun _ => 0)) :=
      fun w2 hb2 hd => let ⟨g, e1, e2, e3⟩ := h4 hd; ⟨g, e1, e2, e3.keep hb2⟩
    have HW := Lib.hid hw
    have HZ1 := Lib.hid hsz
    have HB1 := Lib.hid hb
    have H0 := Lib.hid h0
    have H1 := Lib.hid h1
    have H2 := Lib.hid h2
    have H3 := Lib.hid h3
    have H4 := Lib.hid h4
    have HK3 := Lib.hid hk3
    have HK4 := Lib.hid hk4
    clear hw hb h0 h1 h2 h3 h4 hk3 hk4 hsz
    have a1 := ha0.1
    have a2 := ha0.2.1
    have hsz0 := ha0.2.2
    have e1 : (puts a0 [(13, v13), (14, v14), (15, v15), (5, v5), (6, v6)]).tmps[1]? = some (.slice A n c) := (puts_get_none (by rfl)).trans a1
    have e2 : (puts a0 [(13, v13), (14, v14), (15, v15), (5, v5), (6, v6)]).tmps[2]? = some (.pointer (some ⟨w.heap.size, 0, none⟩)) := (puts_get_none (by rfl)).trans a2
    have e13 : (puts a0 [(13, v13), (14, v14), (15, v15), (5, v5), (6, v6)]).tmps[13]? = some v13 := puts_get (by omega) (by rfl)
    have e14 : (puts a0 [(13, v13), (14, v14), (15, v15), (5, v5), (6, v6)]).tmps[14]? = some v14 := puts_get (by omega) (by rfl)
    have e15 : (puts a0 [(13, v13), (14, v14), (15, v15), (5, v5), (6, v6)]).tmps[15]? = some v15 := puts_get (by omega) (by rfl)
    have e5 : (puts a0 [(13, v13), (14, v14), (15, v15), (5, v5), (6, v6)]).tmps[5]? = some v5 := puts_get (by omega) (by rfl)
    have e6 : (puts a0 [(13, v13), (14, v14), (15, v15), (5, v5), (6, v6)]).tmps[6]? = some v6 := puts_get (by omega) (by rfl)
    obtain ⟨aa, haa⟩ : ∃ aa, puts a0 [(13, v13), (14, v14), (15, v15), (5, v5), (6, v6)] = aa := ⟨_, rfl⟩
    rw [haa] at e1 e2 e13 e14 e15 e5 e6
    rw [haa]
    match i, hi with
    | 0, _ =>
      refine wpOp_runs (w' := w1) rfl rfl (.slice A n c) ?_ ?_
      · clear e2 e13 e14 e15 e5 e6
        go_simp
      show BInv W bs st _ _ _ _ (Act.put _ (some 13) _) _
      rw [← haa, puts_put rfl rfl]
      exact ⟨_, v14, v15, v5, v6, rfl, ha0, HB1.out, HZ1.out, h53, h64, fun _ => rfl, H1.out, H2.out, H3.out, H4.out⟩
    | 1, _ =>
      obtain rfl := H0.out (HW.out 0 (by kernel_rfl))
      refine wpOp_calls rfl rfl 34 #[.slice A n c] ?_ (words_ok ((H.out.below HB.out hS).below HB1.out (fun b hb => by have := hS b hb; have := HZ.out; omega)) (fun b hb => by have := hS b hb; have := HZ.out; have := HZ1.out; omega) hn) ?_
      · clear e1 e2 e14 e15 e5 e6
        go_simp
      rintro e w2 ⟨rfl, hb2⟩
      refine ⟨_, rfl, ?_⟩
      show BInv W bs st _ _ _ _ (Act.put _ (some 14) _) _
      rw [← haa, puts_put rfl rfl] 
      exact ⟨_, _, v15, v5, v6, rfl, ha0, below_more HB1.out hb2, Nat.le_trans HZ1.out hb2.size, h53, h64, H0.out, fun _ => rfl, H2.out, HK3.out _ hb2, HK4.out _ hb2⟩
    | 2, _ =>
      refine wpOp_abs rfl rfl fun K hK => ?_
      refine (wp_load_row _ _ rfl w.heap.size (eval_get e2) _ (cells32 8 st) (0, 0) _ (K0.out.below HB1.out (by have := HZ.out; omega)) Tryd.underlying57 rfl (by rw [cells32_size]; kernel_rfl) (hK _ _ ?_))
      show BInv W bs st _ _ _ _ (Act.put _ (some 15) _) _
      rw [← haa, puts_put rfl rfl] 
      exact ⟨v13, v14, _, v5, v6, rfl, ha0, HB1.out, HZ1.out, h53, h64, H0.out, H1.out, fun _ => rfl, H3.out, H4.out⟩
    | 3, _ =>
      have h5 : d 5 = false := by
        cases h : d 5 with
        | false => rfl
        | true => rw [h53 h] at hdi; cases hdi
      have hb2 : Below w1.heap.size w1 (w1.alloc (.cells (cells32 64 fun _ => 0) 61)) := (Below.refl _ _).alloc (Nat.le_refl _) _
      refine wpOp_runs rfl rfl (.pointer (some ⟨w1.heap.size, 0, none⟩)) ?_ ?_ (w' := w1.alloc (.cells (cells32 64 fun _ => 0) 61))
      · go_simp
        rfl
      show BInv W bs st _ _ _ _ (Act.put _ (some 5) _) _
      rw [← haa, puts_put rfl rfl] 
      refine ⟨v13, v14, v15, _, v6, rfl, ha0, below_more HB1.out hb2, Nat.le_trans HZ1.out hb2.size, fun _ => rfl, h64, H0.out, H1.out, H2.out, fun _ => ⟨w1.heap.size, rfl, HZ1.out, ?_⟩, HK4.out _ hb2⟩
      show Blk _ _ _ (cells32 64 (if d 5 = true then _ else _))
      rw [h5]
      exact Blk.new _ _ _
    | 4, _ =>
      have h6 : d 6 = false := by
        cases h : d 6 with
        | false => rfl
        | true => rw [h64 h] at hdi; cases hdi
      have hb2 : Below w1.heap.size w1 (w1.alloc (.cells (cells32 8 fun _ => 0) 57)) := (Below.refl _ _).alloc (Nat.le_refl _) _
      refine wpOp_runs rfl rfl (.pointer (some ⟨w1.heap.size, 0, none⟩)) ?_ ?_ (w' := w1.alloc (.cells (cells32 8 fun _ => 0) 57))
      · go_simp
        rfl
      show BInv W bs st _ _ _ _ (Act.put _ (some 6) _) _
      rw [← haa, puts_put rfl rfl] 
      refine ⟨v13, v14, v15, v5, _, rfl, ha0, below_more HB1.out hb2, Nat.le_trans HZ1.out hb2.size, h53, fun _ => rfl, H0.out, H1.out, H2.out, HK3.out _ hb2, fun _ => ⟨w1.heap.size, rfl, HZ1.out, ?_⟩⟩
      show Blk _ _ _ (cells32 8 (if d 6 = true then _ else _))
      rw [h6]
      exact Blk.new _ _ _
    | 5, _ =>
      obtain ⟨g, rfl, hg, kg⟩ := H3.out (HW.out 3 (by kernel_rfl))
      obtain rfl := H1.out (HW.out 1 (by kernel_rfl))
      have h5 : d 5 = false := hdi
      rw [h5] at kg
      have kg' : Blk w1 g 61 (cells32 64 fun _ => 0) := kg
      have d3 := HW.out 3 (by kernel_rfl)
      refine wpOp_abs rfl rfl fun K hK => ?_
      refine (wp_store_row _ _ _ rfl g (cells32 64 (upto bs 64)) (eval_get e5) (eval_get e14) _ _ kg' (by rw [cells32_size]; kernel_rfl) (by rw [cells32_size, cells32_size]) (cells32_one _ _) (hK _ _ ?_))
      refine ⟨v13, _, v15, _, v6, haa.symm, ha0, below_setRow HB1.out hg _, by rw [size_setRow]; exact HZ1.out, fun _ => d3, h64, H0.out, fun _ => rfl, H2.out, fun _ => ⟨g, rfl, hg, setRow_heap _ _ _ _ _ _ kg'⟩, fun hd4 => ?_⟩
      obtain ⟨g6, e1, e2, e3⟩ := H4.out hd4
      exact ⟨g6, e1, e2, (setRow_other _ _ _ _ (blk_ne e3 kg' (by decide))).trans e3⟩
    | 6, _ =>
      obtain ⟨g, rfl, hg, kg⟩ := H4.out (HW.out 4 (by kernel_rfl))
      obtain rfl := H2.out (HW.out 2 (by kernel_rfl))
      have h6 : d 6 = false := hdi
      rw [h6] at kg
      have kg' : Blk w1 g 57 (cells32 8 fun _ => 0) := kg
      have d4 := HW.out 4 (by kernel_rfl)
      refine wpOp_abs rfl rfl fun K hK => ?_
      refine (wp_store_row _ _ _ rfl g (cells32 8 st) (eval_get e6) (eval_get e15) _ _ kg' (by rw [cells32_size]; kernel_rfl) (by rw [cells32_size, cells32_size]) (cells32_one _ _) (hK _ _ ?_))
      refine ⟨v13, v14, _, v5, _, haa.symm, ha0, below_setRow HB1.out hg _, by rw [size_setRow]; exact HZ1.out, h53, fun _ => d4, H0.out, H1.out, fun _ => rfl, fun hd3 => ?_, fun _ => ⟨g, rfl, hg, setRow_heap _ _ _ _ _ _ kg'⟩⟩
      obtain ⟨g5, e1, e2, e3⟩ := H3.out hd3
      exact ⟨g5, e1, e2, (setRow_other _ _ _ _ (blk_ne e3 kg' (by decide))).trans e3⟩
  · rintro d a' w1 ⟨v13, v14, v15, v5, v6, rfl, ha0, hb, hsz, h53, h64, h0, h1, h2, h3, h4⟩ hd
    obtain rfl := h0 (hd 0 (by omega))
    obtain rfl := h1 (hd 1 (by omega))
    obtain rfl := h2 (hd 2 (by omega))
    obtain ⟨g5, rfl, hg5, k5⟩ := h3 (hd 3 (by omega))
    obtain ⟨g6, rfl, hg6, k6⟩ := h4 (hd 4 (by omega))
    rw [if_pos (hd 5 (by omega))] at k5
    rw [if_pos (hd 6 (by omega))] at k6
    have hl5 : w.heap.size + 1 < g5 := by have := HZ.out; omega
    have hl6 : w.heap.size + 1 < g6 := by have := HZ.out; omega
    have hne : g5 ≠ g6 := blk_ne k5 k6 (by decide)
    have hB1 : Below w.heap.size w w1 := below_more HB.out hb
    have k01 := K0.out.keep hb
    have k11 := K1.out.keep hb
    clear ha0 hb hsz h53 h64 hg5 hg6 hd HB K0 K1 HZ h0 h1 h2 h3 h4
    have HB := Lib.hid hB1
    have K0 := Lib.hid k01
    have K1 := Lib.hid k11
    have K5 := Lib.hid k5
    have K6 : Hid (Blk w1 g6 57 (cells32 8 (rnds bs st 0))) := Lib.hid k6
    clear hB1 k01 k11 k5 k6
    simp only [puts, Act.put, List.setIfInBounds_toArray, List.set_cons_zero, List.set_cons_succ]
    go_wp2_with fail
    go_loopw [7] (fun i wr => ∃ k : Nat, k ≤ 64 ∧ i = .int .i64 k ∧ Below w.heap.size w wr ∧ Blk wr w.heap.size 57 (cells32 8 st) ∧ Blk wr (w.heap.size + 1) 57 (cells32 8 fun _ => 0) ∧ Blk wr g5 61 (cells32 64 (upto bs 64)) ∧ Blk wr g6 57 (cells32 8 (rnds bs st k)))
      (fun i _ => 64 - (intOf i).toNat)
    case atStart => exact ⟨0, by omega, rfl, HB.out, K0.out, K1.out, K5.out, K6.out⟩
    case round =>
      clear HB K0 K1 K5 K6
      obtain ⟨k, hk, rfl, hB, k0, k1, k5, k6⟩ := hrel
      have HB := Lib.hid hB
      have K0 := Lib.hid k0
      have K1 := Lib.hid k1
      have K5 := Lib.hid k5
      have K6 := Lib.hid k6
      clear hB k0 k1 k5 k6
      by_cases hlt : k < 64
      · have lk : (k : Int) < 64 := by omega
        obtain ⟨sk, hsk⟩ : ∃ sk, rnds bs st k = sk := ⟨_, rfl⟩
        have HSK := Lib.hid hsk
        rw [hsk] at K6
        clear hsk
        have t1 := (HT.out.below HB.out HT.out.1).2 k hlt
        unfold wrd at t1
        have ew : wr.cell? ⟨g5, k, none⟩ = some (.int .u32 ((wd bs k).toNat : Int)) := (K5.out.cell k).trans ((cells32_get _ hlt).trans (by rw [upto, if_pos hlt]; rfl))
        have e0 : wr.cell? ⟨g6, 0, none⟩ = some (.int .u32 ((sk 0).toNat : Int)) := (K6.out.cell 0).trans (cells32_get _ (by omega))
        have e1 : wr.cell? ⟨g6, 1, none⟩ = some (.int .u32 ((sk 1).toNat : Int)) := (K6.out.cell 1).trans (cells32_get _ (by omega))
        have e2 : wr.cell? ⟨g6, 2, none⟩ = some (.int .u32 ((sk 2).toNat : Int)) := (K6.out.cell 2).trans (cells32_get _ (by omega))
        have e3 : wr.cell? ⟨g6, 3, none⟩ = some (.int .u32 ((sk 3).toNat : Int)) := (K6.out.cell 3).trans (cells32_get _ (by omega))
        have e4 : wr.cell? ⟨g6, 4, none⟩ = some (.int .u32 ((sk 4).toNat : Int)) := (K6.out.cell 4).trans (cells32_get _ (by omega))
        have e5 : wr.cell? ⟨g6, 5, none⟩ = some (.int .u32 ((sk 5).toNat : Int)) := (K6.out.cell 5).trans (cells32_get _ (by omega))
        have e6 : wr.cell? ⟨g6, 6, none⟩ = some (.int .u32 ((sk 6).toNat : Int)) := (K6.out.cell 6).trans (cells32_get _ (by omega))
        have e7 : wr.cell? ⟨g6, 7, none⟩ = some (.int .u32 ((sk 7).toNat : Int)) := (K6.out.cell 7).trans (cells32_get _ (by omega))
        go_wp2_with fail
        go_quiet (fail)
        go_wp2_with fail
        obtain ⟨wx, hwx⟩ : ∃ wx, wr.drewN nq = wx := ⟨_, rfl⟩
        have HBx : Hid (Below w.heap.size w wx) := Lib.hid (by rw [← hwx]; exact below_drewN HB.out nq)
        have K0x : Hid (Blk wx w.heap.size 57 (cells32 8 st)) := Lib.hid (by rw [← hwx]; exact K0.out.drewN nq)
        have K1x : Hid (Blk wx (w.heap.size + 1) 57 (cells32 8 fun _ => 0)) := Lib.hid (by rw [← hwx]; exact K1.out.drewN nq)
        have K5x : Hid (Blk wx g5 61 (cells32 64 (upto bs 64))) := Lib.hid (by rw [← hwx]; exact K5.out.drewN nq)
        have K6x : Hid (Blk wx g6 57 (cells32 8 sk)) := Lib.hid (by rw [← hwx]; exact K6.out.drewN nq)
        have f0 : wx.cell? ⟨g6, 0, none⟩ = some (.int .u32 ((sk 0).toNat : Int)) := by rw [← hwx]; exact e0
        have f1 : wx.cell? ⟨g6, 1, none⟩ = some (.int .u32 ((sk 1).toNat : Int)) := by rw [← hwx]; exact e1
        have f2 : wx.cell? ⟨g6, 2, none⟩ = some (.int .u32 ((sk 2).toNat : Int)) := by rw [← hwx]; exact e2
        have f3 : wx.cell? ⟨g6, 3, none⟩ = some (.int .u32 ((sk 3).toNat : Int)) := by rw [← hwx]; exact e3
        have f4 : wx.cell? ⟨g6, 4, none⟩ = some (.int .u32 ((sk 4).toNat : Int)) := by rw [← hwx]; exact e4
        have f5 : wx.cell? ⟨g6, 5, none⟩ = some (.int .u32 ((sk 5).toNat : Int)) := by rw [← hwx]; exact e5
        have f6 : wx.cell? ⟨g6, 6, none⟩ = some (.int .u32 ((sk 6).toNat : Int)) := by rw [← hwx]; exact e6
        have f7 : wx.cell? ⟨g6, 7, none⟩ = some (.int .u32 ((sk 7).toNat : Int)) := by rw [← hwx]; exact e7
        have fw : wx.cell? ⟨g5, k, none⟩ = some (.int .u32 ((wd bs k).toNat : Int)) := by rw [← hwx]; exact ew
        have ft : wx.cell? ⟨0, k, none⟩ = some (.int .u32 ((kn k).toNat : Int)) := by rw [← hwx]; exact t1
        rw [hwx]
        clear hwx e0 e1 e2 e3 e4 e5 e6 e7 ew t1
        have b6 := bsum6_bits (sk 4)
        have b2 := bsum2_bits (sk 0)
        have bc : bits .xor .u32 (bits .and .u32 ((sk 4).toNat : Int) ((sk 5).toNat : Int)) (bits .and .u32 (bits .xor .u32 (if IntKind.u32.signed = true then -1 else IntKind.u32.max) ((sk 4).toNat : Int)) ((sk 6).toNat : Int)) = ((chs (sk 4) (sk 5) (sk 6)).toNat : Int) := chs_bits (sk 4) (sk 5) (sk 6)
        have bm := maj_bits (sk 0) (sk 1) (sk 2)
        go_quiet ((go_at_call 35; first | ((with_reducible refine (refrot6 _ _).mono ?_); rintro e w' ⟨rfl, rfl⟩; exact ⟨rfl, _, rfl⟩) | ((with_reducible refine (refrot11 _ _).mono ?_); rintro e w' ⟨rfl, rfl⟩; exact ⟨rfl, _, rfl⟩) | ((with_reducible refine (refrot25 _ _).mono ?_); rintro e w' ⟨rfl, rfl⟩; exact ⟨rfl, _, rfl⟩)))
        go_wp2_with fail
        have bo : (((sk 7).toNat : Int) + ((bsum6 (sk 4)).toNat : Int) + ((chs (sk 4) (sk 5) (sk 6)).toNat : Int) + ((kn k).toNat : Int) + ((wd bs k).toNat : Int)) % 4294967296 = ((one bs sk k).toNat : Int) := by
          simp only [one, BitVec.toNat_add]; omega
        rw [bo]
        clear bo
        obtain ⟨wy, hwx⟩ : ∃ wy, wx.drewN nq = wy := ⟨_, rfl⟩
        have HBy : Hid (Below w.heap.size w wy) := Lib.hid (by rw [← hwx]; exact below_drewN HBx.out _)
        have K0y : Hid (Blk wy w.heap.size 57 (cells32 8 st)) := Lib.hid (by rw [← hwx]; exact K0x.out.drewN _)
        have K1y : Hid (Blk wy (w.heap.size + 1) 57 (cells32 8 fun _ => 0)) := Lib.hid (by rw [← hwx]; exact K1x.out.drewN _)
        have K5y : Hid (Blk wy g5 61 (cells32 64 (upto bs 64))) := Lib.hid (by rw [← hwx]; exact K5x.out.drewN _)
        have K6y : Hid (Blk wy g6 57 (cells32 8 sk)) := Lib.hid (by rw [← hwx]; exact K6x.out.drewN _)
        have yf0 : wy.cell? ⟨g6, 0, none⟩ = some (.int .u32 ((sk 0).toNat : Int)) := by rw [← hwx]; exact f0
        have yf1 : wy.cell? ⟨g6, 1, none⟩ = some (.int .u32 ((sk 1).toNat : Int)) := by rw [← hwx]; exact f1
        have yf2 : wy.cell? ⟨g6, 2, none⟩ = some (.int .u32 ((sk 2).toNat : Int)) := by rw [← hwx]; exact f2
        have yf3 : wy.cell? ⟨g6, 3, none⟩ = some (.int .u32 ((sk 3).toNat : Int)) := by rw [← hwx]; exact f3
        have yf4 : wy.cell? ⟨g6, 4, none⟩ = some (.int .u32 ((sk 4).toNat : Int)) := by rw [← hwx]; exact f4
        have yf5 : wy.cell? ⟨g6, 5, none⟩ = some (.int .u32 ((sk 5).toNat : Int)) := by rw [← hwx]; exact f5
        have yf6 : wy.cell? ⟨g6, 6, none⟩ = some (.int .u32 ((sk 6).toNat : Int)) := by rw [← hwx]; exact f6
        have yf7 : wy.cell? ⟨g6, 7, none⟩ = some (.int .u32 ((sk 7).toNat : Int)) := by rw [← hwx]; exact f7
        rw [hwx]
        clear hwx f0 f1 f2 f3 f4 f5 f6 f7 fw ft b6 bc
        go_quiet ((go_at_call 35; first | ((with_reducible refine (refrot2 _ _).mono ?_); rintro e w' ⟨rfl, rfl⟩; exact ⟨rfl, _, rfl⟩) | ((with_reducible refine (refrot13 _ _).mono ?_); rintro e w' ⟨rfl, rfl⟩; exact ⟨rfl, _, rfl⟩) | ((with_reducible refine (refrot22 _ _).mono ?_); rintro e w' ⟨rfl, rfl⟩; exact ⟨rfl, _, rfl⟩)))
        have bt : (((bsum2 (sk 0)).toNat : Int) + ((maj (sk 0) (sk 1) (sk 2)).toNat : Int)) % 4294967296 = ((two sk).toNat : Int) := by
          simp only [two, BitVec.toNat_add]; omega
        rw [bt]
        clear bt
        obtain ⟨wz, hwx⟩ : ∃ wz, wy.drewN nq = wz := ⟨_, rfl⟩
        have HBz : Hid (Below w.heap.size w wz) := Lib.hid (by rw [← hwx]; exact below_drewN HBy.out _)
        have K0z : Hid (Blk wz w.heap.size 57 (cells32 8 st)) := Lib.hid (by rw [← hwx]; exact K0y.out.drewN _)
        have K1z : Hid (Blk wz (w.heap.size + 1) 57 (cells32 8 fun _ => 0)) := Lib.hid (by rw [← hwx]; exact K1y.out.drewN _)
        have K5z : Hid (Blk wz g5 61 (cells32 64 (upto bs 64))) := Lib.hid (by rw [← hwx]; exact K5y.out.drewN _)
        have K6z : Hid (Blk wz g6 57 (cells32 8 sk)) := Lib.hid (by rw [← hwx]; exact K6y.out.drewN _)
        have zf0 : wz.cell? ⟨g6, 0, none⟩ = some (.int .u32 ((sk 0).toNat : Int)) := by rw [← hwx]; exact yf0
        have zf1 : wz.cell? ⟨g6, 1, none⟩ = some (.int .u32 ((sk 1).toNat : Int)) := by rw [← hwx]; exact yf1
        have zf2 : wz.cell? ⟨g6, 2, none⟩ = some (.int .u32 ((sk 2).toNat : Int)) := by rw [← hwx]; exact yf2
        have zf3 : wz.cell? ⟨g6, 3, none⟩ = some (.int .u32 ((sk 3).toNat : Int)) := by rw [← hwx]; exact yf3
        have zf4 : wz.cell? ⟨g6, 4, none⟩ = some (.int .u32 ((sk 4).toNat : Int)) := by rw [← hwx]; exact yf4
        have zf5 : wz.cell? ⟨g6, 5, none⟩ = some (.int .u32 ((sk 5).toNat : Int)) := by rw [← hwx]; exact yf5
        have zf6 : wz.cell? ⟨g6, 6, none⟩ = some (.int .u32 ((sk 6).toNat : Int)) := by rw [← hwx]; exact yf6
        have zf7 : wz.cell? ⟨g6, 7, none⟩ = some (.int .u32 ((sk 7).toNat : Int)) := by rw [← hwx]; exact yf7
        rw [hwx]
        clear hwx yf0 yf1 yf2 yf3 yf4 yf5 yf6 yf7 b2 bm
        have ba := u32_add' (one bs sk k) (two sk)
        have be := u32_add' (sk 3) (one bs sk k)
        obtain ⟨oo, hoo⟩ : ∃ x, one bs sk k = x := ⟨_, rfl⟩
        obtain ⟨aa, haa⟩ : ∃ x, one bs sk k + two sk = x := ⟨_, rfl⟩
        obtain ⟨ee, hee⟩ : ∃ x, sk 3 + one bs sk k = x := ⟨_, rfl⟩
        rw [haa] at ba
        rw [hee] at be
        have HAA := Lib.hid haa
        have HEE := Lib.hid hee
        rw [hoo] at ba be
        rw [hoo]
        clear haa hee hoo
        go_upto_region 8 with (fail)
        refine wp_region_list ?_
        iterate 20
          refine wpList_reads (v := ?_) rfl ?_ ?_
          rotate_left 1
          · go_simp
            with_reducible rfl
          simp only [Act.put, List.setIfInBounds_toArray, List.set_cons_zero, List.set_cons_succ]
        refine wpList_store_row rfl _ _ _ rfl g6 (cells32 8 (stp bs sk k)) rfl ?_ _ (cells32 8 sk) K6z.out (by rw [cells32_size]; kernel_rfl) (by rw [cells32_size, cells32_size]) (cells32_one _ _) ?_
        · show Value.agg #[.int .u32 (aa.toNat : Int), .int .u32 ((sk 0).toNat : Int), .int .u32 ((sk 1).toNat : Int), .int .u32 ((sk 2).toNat : Int), .int .u32 (ee.toNat : Int), .int .u32 ((sk 4).toNat : Int), .int .u32 ((sk 5).toNat : Int), .int .u32 ((sk 6).toNat : Int)] = _
          rw [← HAA.out, ← HEE.out]
          rfl
        refine wpList_nil ?_
        have HB9 : Hid (Below w.heap.size w (wz.setRow g6 (cells32 8 (stp bs sk k)))) := Lib.hid (below_setRow HBz.out (by omega) _)
        have K09 : Hid (Blk (wz.setRow g6 (cells32 8 (stp bs sk k))) w.heap.size 57 (cells32 8 st)) := Lib.hid ((setRow_other _ _ _ _ (by omega)).trans K0z.out)
        have K19 : Hid (Blk (wz.setRow g6 (cells32 8 (stp bs sk k))) (w.heap.size + 1) 57 (cells32 8 fun _ => 0)) := Lib.hid ((setRow_other _ _ _ _ (by omega)).trans K1z.out)
        have K59 : Hid (Blk (wz.setRow g6 (cells32 8 (stp bs sk k))) g5 61 (cells32 64 (upto bs 64))) := Lib.hid ((setRow_other _ _ _ _ hne).trans K5z.out)
        have K69 : Hid (Blk (wz.setRow g6 (cells32 8 (stp bs sk k))) g6 57 (cells32 8 (stp bs sk k))) := Lib.hid (setRow_heap _ _ _ _ _ _ K6z.out)
        obtain ⟨w9, hw9⟩ : ∃ w9, wz.setRow g6 (cells32 8 (stp bs sk k)) = w9 := ⟨_, rfl⟩
        rw [hw9] at HB9 K09 K19 K59 K69
        rw [hw9]
        clear hw9 zf0 zf1 zf2 zf3 zf4 zf5 zf6 zf7 ba be
        simp only [Act.put]
        go_wp2_with fail
        go_roundw
        case rel => exact ⟨k + 1, by omega, by go_num, HB9.out, K09.out, K19.out, K59.out, by rw [rnds, HSK.out]; exact K69.out⟩
        case measure => simp [intOf]; omega
      · have hk64 : k = 64 := by omega
        rw [hk64] at K6
        clear hk64
        go_wp2_with fail
        clear hlt hk
        obtain ⟨sk, hsk⟩ : ∃ sk, rnds bs st 64 = sk := ⟨_, rfl⟩
        have hmx : mixF st bs = fun j => st j + sk j := by funext j; rw [mixF, hsk]
        have HM := Lib.hid hmx
        rw [hsk] at K6
        clear hsk hmx
        obtain ⟨wd0, rfl⟩ : ∃ w9 : World, w9 = wr := ⟨_, rfl⟩
        go_loopw [12] (fun i wr => ∃ k : Nat, k ≤ 8 ∧ i = .int .i64 k ∧ Below w.heap.size w wr ∧ Blk wr g6 57 (cells32 8 fun j => if j < k then st j + sk j else sk j) ∧ Blk wr (w.heap.size + 1) 57 (cells32 8 fun _ => 0) ∧ Blk wr w.heap.size 57 (cells32 8 st))
          (fun i _ => 8 - (intOf i).toNat)
        case atStart => exact ⟨0, by omega, rfl, HB.out, K6.out, K1.out, K0.out⟩
        case round =>
          clear HB K0 K1 K6 K5
          obtain ⟨k, hk, rfl, hB, k6, k1, k0⟩ := hrel
          have HB := Lib.hid hB
          have K0 := Lib.hid k0
          have K1 := Lib.hid k1
          have K6 := Lib.hid k6
          clear hB k0 k1 k6
          by_cases hlt : k < 8
          · have lk : (k : Int) < 8 := by omega
            have e0 : wr.cell? ⟨g6, k, none⟩ = some (.int .u32 ((sk k).toNat : Int)) := (K6.out.cell k).trans ((cells32_get _ hlt).trans (by rw [if_neg (by omega)]; rfl))
            have f0 : wr.frozen? ⟨g6, k, none⟩ = false := K6.out.frozen k
            have e3 : wr.cell? ⟨w.heap.size, k, none⟩ = some (.int .u32 ((st k).toNat : Int)) := (K0.out.cell k).trans (cells32_get _ hlt)
            have bs1 := u32_add' (sk k) (st k)
            have hnext : cells32 8 (fun j => if j = k then sk k + st k else if j < k then st j + sk j else sk j) = cells32 8 (fun j => if j < k + 1 then st j + sk j else sk j) := by
              congr 1
              funext j
              by_cases h1 : j = k
              · subst h1; rw [if_pos rfl, if_pos (by omega), BitVec.add_comm]
              · rw [if_neg h1]
                by_cases h2 : j < k
                · rw [if_pos h2, if_pos (by omega)]
                · rw [if_neg h2, if_neg (by omega)]
            have HN := Lib.hid hnext
            clear hnext
            go_upto_region 12 with (fail)
            refine wp_region_seq (fun w' => w'.cell? ⟨g6, k, none⟩ = some (.int .u32 ((sk k).toNat : Int)) ∧ w'.frozen? ⟨g6, k, none⟩ = false ∧ w'.cell? ⟨w.heap.size, k, none⟩ = some (.int .u32 ((st k).toNat : Int))) 8
              [(0, true), (1, true), (2, true), (3, true), (4, true), (5, true), (6, true), (7, true)]
              (by kernel_rfl) rfl (by kernel_rfl) (by kernel_rfl) (by kernel_rfl) (fun _ _ d _ _ h => by cases d <;> exact h) ⟨e0, f0, e3⟩ ?_
            iterate 8
              refine seqL_read (v := ?_) rfl rfl ?_ ?_
              rotate_left 1
              · intro w hS
                go_simp
                with_reducible rfl
              simp only [Act.put, List.getElem_toArray, List.getElem_cons_zero, List.getElem_cons_succ, List.setIfInBounds_toArray, List.set_cons_zero, List.set_cons_succ]
            refine seqL_last rfl fun K hK => ?_
            go_simp
            refine hK _ _ ?_
            clear hK K
            go_wp2_with fail
            go_roundw
            case rel =>
              refine ⟨k + 1, by omega, by go_num, (HB.out.setCell (by simp; omega) _).drew, ?_, (K1.out.far (show w.heap.size + 1 ≠ g6 by omega) _).drew, (K0.out.far (show w.heap.size ≠ g6 by omega) _).drew⟩
              rw [← HN.out, ← cells32_set]
              exact (K6.out.set_ k _).drew
            case measure => simp [intOf]; omega
          · have hk8 : k = 8 := by omega
            have hfin : cells32 8 (fun j => if j < k then st j + sk j else sk j) = cells32 8 (mixF st bs) := by
              rw [HM.out, hk8]
              refine congrArg List.toArray (List.map_congr_left fun j hj => ?_)
              rw [List.mem_range] at hj
              show wrd (if j < 8 then st j + sk j else sk j) = wrd (st j + sk j)
              rw [if_pos hj]
            rw [hfin] at K6
            clear hk8 hfin
            go_upto_region 13 with (fail)
            refine wp_region_list ?_
            refine wpList_load_row rfl _ _ rfl g6 rfl _ (cells32 8 (mixF st bs)) (0, 0) _ K6.out Tryd.underlying57 rfl (by rw [cells32_size]; kernel_rfl) ?_
            refine wpList_store_row rfl _ _ _ rfl (w.heap.size + 1) (cells32 8 (mixF st bs)) rfl rfl _ (cells32 8 fun _ => 0) K1.out (by rw [cells32_size]; kernel_rfl) (by rw [cells32_size, cells32_size]) (cells32_one _ _) ?_
            refine wpList_nil ?_
            have hb9 : Below w.heap.size w (wr.setRow (w.heap.size + 1) (cells32 8 (mixF st bs))) := below_setRow HB.out (by omega) _
            have k9 : Blk (wr.setRow (w.heap.size + 1) (cells32 8 (mixF st bs))) (w.heap.size + 1) 57 (cells32 8 (mixF st bs)) := setRow_heap _ _ _ _ _ _ K1.out
            obtain ⟨w9, hw9⟩ : ∃ w9, wr.setRow (w.heap.size + 1) (cells32 8 (mixF st bs)) = w9 := ⟨_, rfl⟩
            rw [hw9] at hb9 k9 ⊢
            clear hw9
            have HB9 := Lib.hid hb9
            have K9 := Lib.hid k9
            clear hb9 k9
            simp only [Act.put]
            go_wp2_with fail
            refine bodyPost_ret (results_cell_row rfl _ _ (w.heap.size + 1) _ _ _ _ rfl K9.out Tryd.underlying57 rfl (by rw [cells32_size]; kernel_rfl)) rfl ?_
            exact ⟨rfl, HB9.out⟩
end Go.Proofs.YtofdjlngohhlmaaDoor
