/- The law RankingPlain: a vote that marks different candidates, one for each rank, without gaps, has exactly these as its ranking. -/
import Derived.Test.YtofdjlngohhlmaaRank10
import Derived.Deep.CutBlock
namespace Go.Proofs.Ytofdjlngohhlmaa
open Go.RowKit

theorem plain_prefs (ov sk r : Int) (q : Nat) (want : List Int) (h1 : want.Nodup) (h2 : ∀ x ∈ want, 0 ≤ x ∧ x < (q : Int)) (h3 : want.length ≤ r.toNat) : prefsF ov sk r q (want.map fun x => [x]) = want := by
  unfold prefsF
  rw [List.take_of_length_le (by simpa using h3), List.map_map]
  have e : want.map ((marksF · (q : Int)) ∘ fun x => [x]) = want.map fun x => [x] := by
    refine List.map_congr_left fun x hx => ?_
    obtain ⟨a, b⟩ := h2 x hx
    simp [marksF, addMark, a, b]
  rw [e]
  have := prefsGo_plain ov sk want [] false (by simpa using h1)
  simpa using this
theorem tmod_bounds (x : Int) (q : Nat) (hq : 0 < q) : -(q : Int) < x.tmod q ∧ x.tmod q < q := by
  refine ⟨?_, ?_⟩
  · have := Int.lt_tmod_of_pos x (show (0 : Int) < (q : Int) by omega); omega
  · exact Int.tmod_lt_of_pos x (by omega)

set_option maxRecDepth 100000 in
set_option maxHeartbeats 4000000 in
theorem lawPlain_any {S : Nat → Prop} (nm : ByteArray) (A A2 : Option Addr) (n c n2 c2 : Nat) (me se ra di ti ov sk : Int) (order : List Int) (w : World)
    (h1 : RS w S A2 n2 c2 order) (hS : ∀ b, S b → b < w.heap.size) (hc : n ≤ c) :
    Calls Try.prog 7 #[.agg #[.string nm, .slice A n c, .int .i64 me, .int .i64 se, .int .i64 ra, .int .i64 di, .int .i64 ti, .int .i64 ov, .int .i64 sk], .slice A2 n2 c2] w (RetV w (.bool true)) := by
  obtain ⟨w2, hw2⟩ : ∃ w2, w2 = w.alloc (.cells #[.string nm, .slice A n c, .int .i64 me, .int .i64 se, .int .i64 ra, .int .i64 di, .int .i64 ti, .int .i64 ov, .int .i64 sk] 24) := ⟨_, rfl⟩
  have hB2 : Below w.heap.size w w2 := by rw [hw2]; exact (Below.refl _ _).alloc (Nat.le_refl _) _
  have hz2 : w2.heap.size = w.heap.size + 1 := by rw [hw2]; simp
  have b0 : Blk w2 w.heap.size 24 #[.string nm, .slice A n c, .int .i64 me, .int .i64 se, .int .i64 ra, .int .i64 di, .int .i64 ti, .int .i64 ov, .int .i64 sk] := by rw [hw2]; exact Blk.new' rfl _ _
  have H1 := Lib.hid (h1.below hB2 hS)
  have hno := h1.max
  clear h1
  have HW := Lib.hid hw2; clear hw2
  have HZ2 := Lib.hid hz2; clear hz2
  have HB2 := Lib.hid hB2
  have hS2 := Lib.hid (fun b h => Nat.lt_of_lt_of_le (hS b h) hB2.size : ∀ b, S b → b < w2.heap.size)
  have hS0 := Lib.hid hS
  clear hB2 hS
  have K0 := Lib.hid b0
  have e0 : w2.cell? ⟨w.heap.size, 0, none⟩ = some (.string nm) := b0.cell 0
  have e1 : w2.cell? ⟨w.heap.size, 1, none⟩ = some (.slice A n c) := b0.cell 1
  have e2 : w2.cell? ⟨w.heap.size, 2, none⟩ = some (.int .i64 me) := b0.cell 2
  have e3 : w2.cell? ⟨w.heap.size, 3, none⟩ = some (.int .i64 se) := b0.cell 3
  have e4 : w2.cell? ⟨w.heap.size, 4, none⟩ = some (.int .i64 ra) := b0.cell 4
  have e5 : w2.cell? ⟨w.heap.size, 5, none⟩ = some (.int .i64 di) := b0.cell 5
  have e6 : w2.cell? ⟨w.heap.size, 6, none⟩ = some (.int .i64 ti) := b0.cell 6
  have e7 : w2.cell? ⟨w.heap.size, 7, none⟩ = some (.int .i64 ov) := b0.cell 7
  have e8 : w2.cell? ⟨w.heap.size, 8, none⟩ = some (.int .i64 sk) := b0.cell 8
  clear b0
  go_enter Try.func7, Try.ntmps7
  go_upto_region 1 with (fail)
  rw [← HW.out]
  go_wp2_with fail
  refine (short_any (S := fun _ => False) nm A none n c 0 0 me se ra di ti ov sk 0 [] _ (RS.nil _ _) (fun _ h => h.elim) hc).mono ?_
  rintro e w3 ⟨A3, n3, c3, rfl, hr, hb⟩
  have k0 := K0.out.keep hb
  have p0 := keepc hb e0
  have p1 := keepc hb e1
  have p2 := keepc hb e2
  have p3 := keepc hb e3
  have p4 := keepc hb e4
  have p5 := keepc hb e5
  have p6 := keepc hb e6
  have p7 := keepc hb e7
  have p8 := keepc hb e8
  have r0 : ∀ i, w3.frozen? ⟨w.heap.size, i, none⟩ = false := fun i => k0.frozen i
  have K0' := Lib.hid k0
  have HB3 := Lib.hid (below_more HB2.out hb)
  have HB3z := Lib.hid hb.size
  have HO3 := Lib.hid (H1.out.below hb hS2.out)
  clear hb hr k0 e0 e1 e2 e3 e4 e5 e6 e7 e8
  go_upto_region 2 with (fail)
  refine name_world ?_
  intro W hW
  have b0 : Blk W w.heap.size 24 #[.string nm, .slice A (min n 7) c, .int .i64 me, .int .i64 se, .int .i64 (min ra 7), .int .i64 di, .int .i64 ti, .int .i64 ov, .int .i64 sk] := by
    rw [hW]
    exact Blk.setAll [_, _, _, _, _, _, _, _, _] K0'.out rfl
  have hBW : Below w.heap.size w W := by
    rw [hW]
    iterate 9 refine Below.setCell ?_ (by simp) _
    exact HB3.out
  have hzW : W.heap.size = w3.heap.size := by rw [hW]; simp
  have hoW : RS W S A2 n2 c2 order := by
    refine HO3.out.keep (fun _ h => h) ?_
    rw [hW]
    iterate 9 refine Keeps.setCell ?_ (fun h => by have := hS0.out _ h; simp at this) _
    exact Keeps.refl _ _
  have hzW2 : w.heap.size < W.heap.size := by have := HZ2.out; have := HB3z.out; omega
  have HW3 := Lib.hid hW
  clear hW hzW p0 p1 p2 p3 p4 p5 p6 p7 p8 r0
  have HBW := Lib.hid hBW; clear hBW
  have HOW := Lib.hid hoW; clear hoW
  obtain ⟨q, hqE⟩ : ∃ q, q = min n 7 := ⟨_, rfl⟩
  obtain ⟨r7, hr7E⟩ : ∃ r, r = min ra 7 := ⟨_, rfl⟩
  rw [← hqE, ← hr7E] at b0
  have hq7 : q ≤ 7 := by omega
  have hr77 : r7 ≤ 7 := by omega
  have HQE := Lib.hid hqE
  have HR7E := Lib.hid hr7E
  clear hqE hr7E
  have B0 := Lib.hid b0; clear b0
  have s1 : W.cell? ⟨w.heap.size, 1, none⟩ = some (.slice A q c) := B0.out.cell 1
  have s4 : W.cell? ⟨w.heap.size, 4, none⟩ = some (.int .i64 r7) := B0.out.cell 4
  have hlo := Lib.hid HOW.out.len
  have hS3 := Lib.hid (fun b h => Nat.lt_of_lt_of_le (hS0.out b h) HBW.out.size : ∀ b, S b → b < W.heap.size)
  go_upto_block 0 with (fail)
  go_cut [6, 7] (fun v _ wc => ∃ (want : List Int), want.length ≤ 7 ∧ want.length ≤ r7.toNat ∧ Own wc NoB W.heap.size 3 v want ∧ Below W.heap.size W wc ∧ want.Nodup ∧ (∀ x ∈ want, 0 ≤ x ∧ x < (q : Int)))
  case first =>
    go_wp2
    go_loopw [6, 7] (fun v i wr => ∃ (k : Nat) (want : List Int), k ≤ n2 ∧ i = .int .i64 k ∧ want.length ≤ 7 ∧ want.length ≤ r7.toNat ∧ Own wr NoB W.heap.size 3 v want ∧ Below W.heap.size W wr ∧ want.Nodup ∧ (∀ x ∈ want, 0 ≤ x ∧ x < (q : Int)))
      (fun _ i _ => n2 - (intOf i).toNat)
    case atStart => exact ⟨0, [], Nat.zero_le _, rfl, Nat.zero_le _, Nat.zero_le _, Own.nil _ _ _, Below.refl _ _, List.nodup_nil, by simp⟩
    case round =>
      obtain ⟨k, want, hk, rfl, hw7, hwr, hown, hbel, hnd, hin⟩ := hrel
      obtain ⟨A', n', c', rfl, hn'⟩ := hown.slice
      have HO := Lib.hid hown; clear hown
      have hn'7 : n' ≤ 7 := by omega
      have hn'r : n' ≤ r7.toNat := by omega
      have HN := Lib.hid hn'; clear hn' hw7 hwr
      have HB := Lib.hid hbel
      have s1' := keepc hbel s1
      have s4' := keepc hbel s4
      have HND := Lib.hid hnd
      have HIN := Lib.hid hin
      have HS1 := Lib.hid s1
      have HS4 := Lib.hid s4
      have hrs := Lib.hid (HO.out.rs (S' := fun b => b < wr.heap.size) (fun _ h => h.elim) (fun _ _ h => h))
      clear hnd hin s1 s4
      by_cases hgo : k < n2 ∧ (n' : Int) < r7 ∧ 0 < q
      · obtain ⟨hlt, hnr, hq0⟩ := hgo
        obtain ⟨b, o, x, rfl, hSb, hx0, e0⟩ := HOW.out.int_at hlt
        have e1 := keepc hbel e0
        clear hx0 e0 hbel
        obtain ⟨hb1, hb2⟩ := tmod_bounds x q hq0
        have hqne : ((q : Int) == 0) = false := by simp; omega
        obtain ⟨y, hy⟩ : ∃ y, (x.tmod ↑q + ↑q) % ↑q = y := ⟨_, rfl⟩
        have hy1 : 0 ≤ y := by rw [← hy]; exact Int.emod_nonneg _ (by omega)
        have hy2 : y < q := by rw [← hy]; exact Int.emod_lt_of_pos _ (by omega)
        go_wp2
        go_loop [9, 11, 53] (fun t _ i => ∃ (hb : Bool) (j : Nat), t = .bool hb ∧ j ≤ n' ∧ i = .int .i64 j ∧ (hb = true ↔ y ∈ want.take j)) (fun _ _ i => n' - (intOf i).toNat)
        case atStart => exact ⟨false, 0, rfl, Nat.zero_le _, rfl, by simp⟩
        case round =>
          obtain ⟨hb, j, rfl, hj, rfl, hiff⟩ := hrel
          have HI := Lib.hid hiff; clear hiff
          by_cases hjn : j < n'
          · obtain ⟨b', o', z, rfl, _, hz0, e2⟩ := hrs.out.int_at hjn
            have hz := Lib.hid hz0; clear hz0
            cases hb
            · go_wp2
              go_round
              case rel => exact ⟨(z == y), j + 1, rfl, by omega, by go_num, mts1 hz.out HI.out⟩
              case measure => simp [intOf]; omega
            · go_wp2
              go_round
              case rel => exact ⟨true, j + 1, rfl, by omega, by go_num, mts2 hz.out (by have := HI.out; simpa using this)⟩
              case measure => simp [intOf]; omega
          · have hjn' : j = n' := by omega
            have hj2 := Lib.hid hjn'; clear hjn'
            have ht : want.take j = want := List.take_of_length_le (by rw [← HN.out, hj2.out]; exact Nat.le_refl _)
            have hi := HI.out
            rw [ht] at hi
            clear ht
            cases hb
            · have hni := Lib.hid (show y ∉ want by simpa using hi)
              clear hi
              go_wp2_with (at_builtin
                           refine wpList_append_gen (α := Int) (w0 := W) (B := W.heap.size) (base := W.heap.size) rfl _ _ 32 rfl 8 Try.ints rfl HO.out HB.out (Nat.le_refl _) HB.out.size [.int .i64 y] y 1 rfl rfl 3 (by simp [Value.oneCell']) (by have := HN.out; omega) ?_
                           intro v' w' hown' hbel' _ _
                           have HO' := Lib.hid hown'; clear hown'
                           have HB' := Lib.hid hbel'; clear hbel')
              go_roundw
              case rel =>
                have hN := HN.out
                refine ⟨k + 1, want ++ [y], by omega, by go_num, ?_, ?_, HO'.out, HB'.out, ?_, ?_⟩
                · rw [List.length_append, ← hN]; simp; omega
                · rw [List.length_append, ← hN]; simp; omega
                · rw [List.nodup_append]
                  refine ⟨HND.out, by simp, fun a ha b hb => ?_⟩
                  simp at hb
                  subst hb
                  rintro rfl
                  exact hni.out ha
                · intro z hz
                  rw [List.mem_append, List.mem_singleton] at hz
                  rcases hz with hz | rfl
                  · exact HIN.out z hz
                  · exact ⟨hy1, hy2⟩
              case measure => simp [intOf]; omega
            · go_wp2
              go_roundw
              case rel => exact ⟨k + 1, want, by omega, by go_num, by rw [← HN.out]; exact hn'7, by rw [← HN.out]; exact hn'r, HO.out, HB.out, HND.out, HIN.out⟩
              case measure => simp [intOf]; omega
      · have hN := HN.out
        have hw1 := Lib.hid (show want.length ≤ 7 by omega)
        have hw2 := Lib.hid (show want.length ≤ r7.toNat by omega)
        clear hN
        rcases (show n2 ≤ k ∨ (k < n2 ∧ r7 ≤ (n' : Int)) ∨ (k < n2 ∧ (n' : Int) < r7 ∧ q = 0) by omega) with h | ⟨h, h'⟩ | ⟨h, h', h''⟩
        all_goals
          clear hgo
          try subst h''
          go_wp2
          go_meet
          case rel => exact ⟨want, hw1.out, hw2.out, HO.out, HB.out, HND.out, HIN.out⟩
  case rest =>
    obtain ⟨wd, rfl⟩ : ∃ wd : World, wd = wc := ⟨_, rfl⟩
    obtain ⟨want, hw7, hwr, hown, hbel, hnd, hin⟩ := hcut
    obtain ⟨A', n', c', rfl, hn'⟩ := hown.slice
    have hrs := Lib.hid (hown.rs (S' := fun b => b < wd.heap.size) (fun _ h => h.elim) (fun _ _ h => h))
    have HBC := Lib.hid hbel
    have HND := Lib.hid hnd
    have HIN := Lib.hid hin
    have HN := Lib.hid hn'
    have hn7 : n' ≤ 7 := by omega
    have HWR := Lib.hid hwr
    have hxw : w.heap.size < wd.heap.size := Nat.lt_of_lt_of_le hzW2 hbel.size
    clear hown hbel hnd hin hn' hw7 hwr s1 s4
    go_upto_region 17 with (fail)
    refine name_world ?_
    intro V hV
    have bV : Blk V wd.heap.size 27 #[.int .i64 0, .slice none 0 0] := by rw [hV]; exact Blk.new' rfl _ _
    have hzV : V.heap.size = wd.heap.size + 1 := by rw [hV]; simp
    have hBV : Below wd.heap.size wd V := by rw [hV]; exact (Below.refl _ _).alloc (Nat.le_refl _) _
    have BV := Lib.hid bV
    have HZV := Lib.hid hzV
    have HBV := Lib.hid hBV
    have hrV := Lib.hid (hrs.out.below hBV (fun _ h => h))
    clear hV bV hzV hBV
    go_upto_block 4 with (fail)
    go_cut [72] (fun _ wr => ∃ (v : Value), Blk wr wd.heap.size 27 #[.int .i64 0, v] ∧ (∃ A5 n5 c5, v = .slice A5 n5 c5 ∧ RS wr (fun b => b < wr.heap.size) A5 n5 c5 (want.map fun x => [x])) ∧ Below wd.heap.size V wr)
    case first =>
      go_wp2
      go_loopw [72] (fun i wr => ∃ (j : Nat) (v : Value) (S : Nat → Prop), j ≤ n' ∧ i = .int .i64 j ∧ Blk wr wd.heap.size 27 #[.int .i64 0, v] ∧ Own wr S V.heap.size 32 v ((want.take j).map fun x => [x]) ∧ Below wd.heap.size V wr ∧ (∀ b, S b → V.heap.size ≤ b))
        (fun i _ => n' - (intOf i).toNat)
      case atStart => exact ⟨0, .slice none 0 0, fun _ => False, Nat.zero_le _, rfl, BV.out, Own.nil' _ _ (fun _ h => h.elim) _ _, Below.refl _ _, fun _ h => h.elim⟩
      case round =>
        obtain ⟨j, v, S1, hj, rfl, hbv, hown, hbel, hsv⟩ := hrel
        have HSV := Lib.hid hsv; clear hsv
        obtain ⟨A5, n5, c5, rfl, hn5⟩ := hown.slice
        have HO := Lib.hid hown; clear hown
        have HN5 := Lib.hid hn5; clear hn5
        have HB := Lib.hid hbel
        have K2 := Lib.hid hbv
        have HZ' := Lib.hid hbel.size
        have hzz : wd.heap.size < wr.heap.size := by have := HZV.out; have := hbel.size; omega
        clear hbel hbv
        by_cases hjn : j < n'
        · obtain ⟨b, o, x, rfl, hSb, hx0, e0⟩ := hrV.out.int_at hjn
          have hbW : b < wd.heap.size := hSb
          have e1 : wr.cell? ⟨b, o + j, none⟩ = some (.int .i64 x) := (HB.out.cell (p := ⟨b, o + j, none⟩) hbW).trans e0
          have hx := Lib.hid hx0; clear hx0 e0
          have e4 : wr.cell? ⟨wd.heap.size, 1, none⟩ = some (.slice A5 n5 c5) := K2.out.cell 1
          have f4 : wr.frozen? ⟨wd.heap.size, 1, none⟩ = false := K2.out.frozen 1
          have hOW := Lib.hid ((HO.out.alloc (.cells #[.int .i64 x] 3)).widen (S' := fun b => S1 b ∨ b = wr.heap.size) (fun b h => .inl h) (fun b h => by
            rcases h with h | rfl
            · exact ((HO.out.alloc (.cells #[.int .i64 x] 3)).apart b h)
            · refine ⟨by simp, fun h => ?_⟩
              have h2 := (HO.out.lt _ h.symm).2
              omega))
          have hB1 := Lib.hid (HB.out.alloc (Nat.le_of_lt hzz) (.cells #[.int .i64 x] 3))
          have hrx := Lib.hid (RS.of_blk (S := fun b => S1 b ∨ b = wr.heap.size) (Blk.new wr 3 #[.int .i64 x]) (Flat.ints [x]) rfl (Nat.le_refl 1) (by decide) (.inr rfl))
          go_wp2_with (at_builtin
                       refine wpList_append_gen (α := List Int) (w0 := V) (wr := wr.alloc (.cells #[.int .i64 x] 3)) (B := wd.heap.size) (base := V.heap.size) rfl _ _ 25 rfl 24 Try.rows rfl hOW.out hB1.out (by have := HZV.out; omega) (by have := HZ'.out; simp; omega) [.slice (some ⟨wr.heap.size, 0, none⟩) 1 1] [x] 1 (by rw [World.size_alloc]; rfl) ⟨_, _, _, rfl, hrx.out⟩ 32 (by simp [Value.oneCell']) (by simp; omega) ?_
                       intro v' w1 hown1 hbel1 hgrow hat
                       obtain ⟨A9, n9, c9, rfl, hn9⟩ := hown1.slice
                       have HN9 := Lib.hid hn9; clear hn9
                       have hne := (fun h => by have h1 : V.heap.size ≤ wd.heap.size := (HO.out.lt _ h).1; have := HZV.out; omega : ¬ ((Value.slice A5 n5 c5).ownBlock = some wd.heap.size))
                       have kk := ((K2.out.alloc (.cells #[.int .i64 x] 3)).alloc _).grown hgrow (fun h => hne h.symm)
                       have g4 : w1.frozen? ⟨wd.heap.size, 1, none⟩ = false := kk.frozen 1
                       have g1 : w1.cell? ⟨wd.heap.size, 1, none⟩ = some (.slice A5 n5 c5) := kk.cell 1
                       have HKK := Lib.hid kk
                       have HO1 := Lib.hid hown1
                       have HB1 := Lib.hid hbel1
                       clear hown1 hbel1 hgrow hat hne kk)
          go_roundw
          case rel =>
            refine ⟨j + 1, _, fun b => S1 b ∨ b = wr.heap.size, by omega, by go_num, HKK.out.set_ 1 _, ?_, HB1.out.setCell (Nat.le_refl _) _, fun b hb => ?_⟩
            · rw [map_take_snoc hx.out]
              exact HO1.out.setCell (fun h => by have h1 : V.heap.size ≤ wd.heap.size := (HO1.out.lt _ h).1; have := HZV.out; omega) (fun b hb => by
                show b ≠ wd.heap.size
                have := HZV.out
                rcases hb with hb | rfl
                · have := HSV.out b hb; omega
                · omega) _
            · have := HZ'.out
              rcases hb with hb | rfl
              · exact HSV.out b hb
              · omega
          case measure => simp [intOf]; omega
        · have hjn' : j = n' := by omega
          have hj2 := Lib.hid hjn'; clear hjn'
          go_wp2
          go_meet
          case rel =>
            have ht : want.take j = want := List.take_of_length_le (by rw [← HN.out, hj2.out]; exact Nat.le_refl _)
            have h := HO.out
            rw [ht] at h
            exact ⟨_, K2.out, ⟨_, _, _, rfl, h.rs (fun b hb => (h.apart b hb).1) (fun _ _ h => h)⟩, HB.out⟩
    case rest =>
      obtain ⟨v, hbv, ⟨A5, n5, c5, rfl, hr5⟩, hbr⟩ := hcut
      obtain ⟨wr, rfl⟩ : ∃ wr : World, wr = wc := ⟨_, rfl⟩
      have HBR := Lib.hid hbr
      have BC := Lib.hid (((B0.out.keep HBC.out).below HBV.out hxw).below hbr hxw)
      have HBWR := Lib.hid ((HBW.out.trans (HBC.out.mono HBW.out.size)).trans ((HBV.out.trans hbr).mono (Nat.le_of_lt hxw)))
      have HR5 := Lib.hid hr5
      have HBV2 := Lib.hid hbv
      have HRW := Lib.hid ((hrV.out.below hbr (fun _ h => h)).sub (S' := fun b => b < wr.heap.size) (fun b h => Nat.lt_of_lt_of_le h (Nat.le_trans (by have := HZV.out; omega) hbr.size)))
      clear hr5 hbv hbr
      go_wp2_with fail
      refine (awake_any _).mono ?_
      rintro e w4 ⟨rfl, hb4⟩
      have BC4 := Lib.hid (BC.out.keep hb4)
      have BV4 := Lib.hid (HBV2.out.keep hb4)
      have HR54 := Lib.hid (HR5.out.below hb4 (fun _ h => h))
      have HRW4 := Lib.hid (HRW.out.below hb4 (fun _ h => h))
      have HB4 := Lib.hid (HBWR.out.trans (hb4.mono HBWR.out.size))
      have hz4 := Lib.hid hb4.size
      clear hb4
      have z0 : w4.cell? ⟨w.heap.size, 0, none⟩ = some (.string nm) := BC4.out.cell 0
      have z1 : w4.cell? ⟨w.heap.size, 1, none⟩ = some (.slice A q c) := BC4.out.cell 1
      have z2 : w4.cell? ⟨w.heap.size, 2, none⟩ = some (.int .i64 me) := BC4.out.cell 2
      have z3 : w4.cell? ⟨w.heap.size, 3, none⟩ = some (.int .i64 se) := BC4.out.cell 3
      have z4 : w4.cell? ⟨w.heap.size, 4, none⟩ = some (.int .i64 r7) := BC4.out.cell 4
      have z5 : w4.cell? ⟨w.heap.size, 5, none⟩ = some (.int .i64 di) := BC4.out.cell 5
      have z6 : w4.cell? ⟨w.heap.size, 6, none⟩ = some (.int .i64 ti) := BC4.out.cell 6
      have z7 : w4.cell? ⟨w.heap.size, 7, none⟩ = some (.int .i64 ov) := BC4.out.cell 7
      have z8 : w4.cell? ⟨w.heap.size, 8, none⟩ = some (.int .i64 sk) := BC4.out.cell 8
      have y0 : w4.cell? ⟨wd.heap.size, 0, none⟩ = some (.int .i64 0) := BV4.out.cell 0
      have y1 : w4.cell? ⟨wd.heap.size, 1, none⟩ = some (.slice A5 n5 c5) := BV4.out.cell 1
      have hn5 := Lib.hid (show n5 ≤ 1073741824 by have h1 := HR5.out.len; rw [List.length_map] at h1; have := HN.out; omega)
      have hrs5 := Lib.hid (show ∀ l ∈ want.map (fun x => [x]), l.length ≤ 1073741824 by intro l hl; obtain ⟨x, _, rfl⟩ := List.mem_map.1 hl; simp)
      go_wp2_with fail
      refine (prefs_any (S := fun b => b < wr.heap.size) _ _ _ _ _ _ _ _ _ _ _ _ _ _ _ (want.map fun x => [x]) _ HR54.out (fun b h => Nat.lt_of_lt_of_le h hz4.out) hn5.out hrs5.out).mono ?_
      rintro e w5 ⟨A6, n6, c6, rfl, hr6, hb5⟩
      have HR6 := Lib.hid hr6
      have HRW5 := Lib.hid (HRW4.out.below hb5 (fun b h => Nat.lt_of_lt_of_le h hz4.out))
      have HB5 := Lib.hid (HB4.out.trans (hb5.mono HB4.out.size))
      clear hr6 hb5
      go_wp2_with fail
      refine (eq_yes _ _ _ _ _ _ _ _ _ HR6.out HRW5.out (plain_prefs ov sk r7 q want HND.out HIN.out HWR.out)).mono ?_
      rintro e w6 ⟨rfl, m, rfl⟩
      go_wp2
      go_ret
      exact ⟨rfl, below_drewN HB5.out _⟩
end Go.Proofs.Ytofdjlngohhlmaa
