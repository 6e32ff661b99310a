/- The next word of a source, in the program and in the reference. -/
import Derived.Test.YtofdjlngohhlmaaDoorRnd1
import Derived.Deep.DeepCutAuto
namespace Go.Proofs.YtofdjlngohhlmaaDoor
open Go.RowKit

/-- a call that hands back v and has changed block g alone, which now holds these cells -/
def RetG (w : World) (g : Nat) (t : TypeId) (cs : Array Value) (v : Value) (e : Ending) (w' : World) : Prop := e = .returned v ∧ w.grownBy w' (some g) ∧ Blk w' g t cs
theorem grown_below {w w1 : World} (h : Below w.heap.size w w1) (row : Option Nat) : w.grownBy w1 row := grownBy_of_below h (Nat.le_refl _) row
theorem joinF_two (a b : List UInt8) : joinF [a, b] = be a.length 4 ++ a ++ (be b.length 4 ++ b) := by simp [joinF]
theorem u8_word (N p : Nat) (y : UInt8) (h : UInt8.ofNat (N / 2 ^ p) = y) : IntKind.u8.wrap ((N : Int) / 2 ^ p) = (y.toNat : Int) := by
  rw [← h, ← u8_of, Int.natCast_ediv, Int.natCast_pow]; rfl

set_option maxRecDepth 100000 in
set_option maxHeartbeats 2000000 in
theorem word_ok (seed : ByteArray) (N g : Nat) (w : World) (hk : Blk w g 43 #[.string seed, .int .u64 N]) (hs : seed.size ≤ 1073741000) (hN : N < 18446744073709551615) (hT : Tab w 1) (hg1 : g ≠ 1) :
    Calls Tryd.prog 21 #[.pointer (some ⟨g, 0, none⟩)] w (RetG w g 43 #[.string seed, .int .u64 ((N + 1 : Nat) : Int)] (.int .u64 (wordF seed N))) := by
  have HK := Lib.hid hk
  have HT := Lib.hid hT
  have hg := hk.lt
  clear hk hT
  go_enter Tryd.func21, Tryd.ntmps21
  go_wp2_with fail
  go_loopw [3, 4] (fun v i wr => ∃ (k : Nat) (z : Int) (ys : List UInt8), k ≤ 8 ∧ i = .int .i64 z ∧ z + 8 = 8 * k ∧ Own wr NoBlk w.heap.size 5 v ys ∧ ys ++ be N k = be N 8 ∧ Below w.heap.size w wr)
    (fun _ i _ => (intOf i + 8).toNat)
  case atStart => exact ⟨8, 56, [], by omega, rfl, by omega, Own.nil _ _ _, rfl, Below.refl _ _⟩
  case round =>
    obtain ⟨k, z, ys, hk, rfl, hz, how, hys, hb⟩ := hrel
    have HO1 := Lib.hid how
    have HY := Lib.hid hys
    have HB1 := Lib.hid hb
    have KR := Lib.hid (HK.out.keep hb)
    clear how hys hb
    rcases k with _ | k
    · obtain rfl : z = -8 := by omega
      clear hz
      have e0 : wr.cell? ⟨g, 0, none⟩ = some (.string seed) := KR.out.cell 0
      have e1 : wr.cell? ⟨g, 1, none⟩ = some (.int .u64 N) := KR.out.cell 1
      have f1 : wr.frozen? ⟨g, 1, none⟩ = false := KR.out.frozen 1
      have hN1 : (N : Int) + 1 < 18446744073709551616 := by omega
      go_upto_region 9 with (fail)
      have hset : Blk (wr.setCell ⟨g, 1, none⟩ (.int .u64 ((N : Int) + 1))) g 43 #[.string seed, .int .u64 ((N + 1 : Nat) : Int)] := by
        have := KR.out.set_ 1 (.int .u64 ((N + 1 : Nat) : Int))
        exact this
      have how := HO1.out.setCell (p := ⟨g, 1, none⟩) (fun h => by have := (HO1.out.lt g h).1; omega) (fun _ h => h.elim) (.int .u64 ((N : Int) + 1))
      have hyp : ys = be N 8 := by
        have := HY.out
        rw [be, List.append_nil] at this
        exact this
      rw [hyp] at how
      have hgw : w.grownBy (wr.setCell ⟨g, 1, none⟩ (.int .u64 ((N : Int) + 1))) (some g) := (grown_below HB1.out _).trans (grownBy_setCell wr ⟨g, 1, none⟩ _)
      have htab : Tab (wr.setCell ⟨g, 1, none⟩ (.int .u64 ((N : Int) + 1))) 1 := by
        have h0 := HT.out.below HB1.out HT.out.1
        exact ⟨by simpa using h0.1, fun t ht => (World.cell?_setCell_other wr ⟨g, 1, none⟩ ⟨1, t, none⟩ _ (fun e => by injection e with e; first | exact hg1 e | exact hg1 e.symm)).trans (h0.2 t ht)⟩
      have hzz : (wr.setCell ⟨g, 1, none⟩ (.int .u64 ((N : Int) + 1))).heap.size = wr.heap.size := by simp
      obtain ⟨W, hW⟩ : ∃ W, wr.setCell ⟨g, 1, none⟩ (.int .u64 ((N : Int) + 1)) = W := ⟨_, rfl⟩
      rw [hW] at hset how hgw htab hzz ⊢
      have hz1 := HB1.out.size
      have HK1 := Lib.hid hset
      have HO2 := Lib.hid how
      have HG2 := Lib.hid hgw
      have HT2 := Lib.hid htab
      have HZ2 : Hid (w.heap.size ≤ W.heap.size) := Lib.hid (by omega)
      have e0 : W.cell? ⟨g, 0, none⟩ = some (.string seed) := hset.cell 0
      clear hW hset how hgw htab e1 f1 HO1 HB1 KR hyp HY hzz hz1
      clear hN1
      have hb5 := bytesWorld_below W 5 seed
      have hz5 := Lib.bytesWorld_size W 5 seed
      have hr5 : RS (Lib.bytesWorld W 5 seed) (· < (Lib.bytesWorld W 5 seed).heap.size) (some ⟨W.heap.size, 0, none⟩) seed.size (grownCap W seed.size 0 5) (bts seed) := RS.bytesWorld W 5 seed (by omega) (by rw [hz5]; omega)
      have hcv := Lib.run_convert_string_bytes (P := Tryd.prog) W 9 45 5 seed Tryd.underlying9 Tryd.underlying45 Tryd.underlying5
      obtain ⟨w5, hw5⟩ : ∃ w5, Lib.bytesWorld W 5 seed = w5 := ⟨_, rfl⟩
      obtain ⟨c5, hc5⟩ : ∃ c5, grownCap W seed.size 0 5 = c5 := ⟨_, rfl⟩
      obtain ⟨g5, hg5⟩ : ∃ g5, W.heap.size = g5 := ⟨_, rfl⟩
      rw [hw5, hc5, hg5] at hr5
      rw [hw5, hc5, hg5] at hcv
      rw [hw5] at hb5 hz5
      have HB5 := Lib.hid hb5
      have HR5 := Lib.hid hr5
      have HZ5 := Lib.hid hz5
      clear hb5 hr5 hz5 hw5 hc5 hg5
      obtain ⟨A3, n3, c3, rfl, hn3⟩ := HO2.out.slice
      have HN3 := Lib.hid hn3
      clear hn3
      go_wp2_with fail
      have hb6 : Below w5.heap.size w5 (w5.alloc (.cells #[.slice (some ⟨g5, 0, none⟩) seed.size c5, .slice A3 n3 c3] 45)) := (Below.refl _ _).alloc (Nat.le_refl _) _
      have hb56 := below_more HB5.out hb6
      have hr6 : RS (w5.alloc (.cells #[.slice (some ⟨g5, 0, none⟩) seed.size c5, .slice A3 n3 c3] 45)) (· < w5.heap.size + 1) (some ⟨w5.heap.size, 0, none⟩) 2 2 [bts seed, be N 8] := by
        refine RS.of_blk (t := 45) (cs := #[.slice (some ⟨g5, 0, none⟩) seed.size c5, .slice A3 n3 c3]) (Blk.new _ _ _) ?_ rfl (Nat.le_refl _) (by decide) (by omega)
        refine Flat.cons (ds := [_]) ⟨_, _, _, rfl, (HR5.out.below hb6 (fun b hb => hb)).sub (fun b hb => by omega)⟩ (Flat.cons (ds := [_]) ⟨_, _, _, rfl, ?_⟩ .nil)
        have h1 : Own w5 NoBlk w.heap.size 5 (.slice A3 n3 c3) (be N 8) := HO2.out.below HB5.out
        exact (h1.below hb6).rs (fun _ h => h.elim) (fun g _ h2 => by simpa using h2)
      have hsz6 : (w5.alloc (.cells #[.slice (some ⟨g5, 0, none⟩) seed.size c5, .slice A3 n3 c3] 45)).heap.size = w5.heap.size + 1 := by simp
      refine (of_ok hr6 (fun b hb => by rw [hsz6]; exact hb) (by rw [joinF_two]; simp [be_length, bts_length]; omega) (HT2.out.keep hb56)).mono ?_
      rintro e w7 ⟨rfl, hb7⟩
      have HB7 := Lib.hid (below_more hb56 hb7)
      clear hb6 hb56 hr6 hsz6 hb7 hcv e0
      go_wp2_with fail
      refine (first_ok _ (sha_length _) w7).mono ?_
      rintro e w8 ⟨rfl, hb8⟩
      have HB8 := Lib.hid (below_more HB7.out hb8)
      clear hb8
      go_wp2_with fail
      go_ret
      exact ⟨rfl, HG2.out.trans (grown_below HB8.out _), HK1.out.keep HB8.out⟩
    · obtain ⟨p, hp⟩ : ∃ p, 8 * k = p := ⟨_, rfl⟩
      obtain rfl : z = p := by omega
      clear hz
      have hp2 : p ≤ 64 := by omega
      have e1 : wr.cell? ⟨g, 1, none⟩ = some (.int .u64 N) := KR.out.cell 1
      obtain ⟨y, hy⟩ : ∃ y, UInt8.ofNat (N / 2 ^ p) = y := ⟨_, rfl⟩
      have hv := u8_word N p y hy
      have HP := Lib.hid hp
      have HYY := Lib.hid hy
      clear hp hy
      have hl1 : Hid (ys.length ≤ 8) := by
        have := congrArg List.length HY.out
        rw [List.length_append, be_length, be_length] at this
        show ys.length ≤ 8
        omega
      go_wp2_with (at_builtin
                   refine wpList_append_gen (α := UInt8) (w0 := w) (B := w.heap.size) (base := w.heap.size) rfl _ _ 45 rfl 1 Tryd.bytesTy rfl HO1.out HB1.out (Nat.le_refl _) HB1.out.size [.int .u8 (y.toNat : Int)] y 1 rfl rfl 5 (by simp [Value.oneCell']) (by have := hl1.out; omega) ?_
                   intro v2 w2 hown2 hb2 _ _
                   have HO2 := Lib.hid hown2
                   have HB2 := Lib.hid hb2
                   clear hown2 hb2)
      go_roundw
      case rel =>
        refine ⟨k, (p : Int) - 8, ys ++ [y], by omega, by go_num, by have := HP.out; omega, HO2.out, ?_, HB2.out⟩
        rw [← HY.out, be, ← HYY.out, HP.out, List.append_assoc]
        rfl
      case measure => simp [intOf]; omega
end Go.Proofs.YtofdjlngohhlmaaDoor
