/- The reference's Sequence; draw.Sequence; draw.At. -/
import Derived.Test.YtofdjlngohhlmaaDoorSeq3
namespace Go.Proofs.YtofdjlngohhlmaaDoor
open Go.RowKit

theorem rseq_no (seed : ByteArray) (n : Int) (w : World) (h : n < 0 ∨ 1024 < n) :
    Calls Tryd.prog 6 #[.string seed, .int .i64 n] w (RetN w 3 ([] : List Int)) := by
  rcases h with h | h
  · go_enter Tryd.func6, Tryd.ntmps6
    go_wp2_with fail
    go_ret
    exact ⟨_, rfl, Own.nil _ _ _, Below.refl _ _⟩
  · have h' : ¬ n < 0 := by omega
    go_enter Tryd.func6, Tryd.ntmps6
    go_wp2_with fail
    go_ret
    exact ⟨_, rfl, Own.nil _ _ _, Below.refl _ _⟩

set_option maxHeartbeats 2000000 in
theorem rseq_ok (seed : ByteArray) (n : Nat) (w : World) (hs : seed.size ≤ 1073741000) (hn : n ≤ 1024) (hT : Tab w 0) :
    Calls Tryd.prog 6 #[.string seed, .int .i64 n] w (RetN w 3 (seqF seed n)) := by
  have HT := Lib.hid hT
  clear hT
  have hnb : (n : Int) ≤ 1024 := by omega
  go_enter Tryd.func6, Tryd.ntmps6
  go_wp2_with fail
  go_loopw [5, 6] (fun v i wr => ∃ m : Nat, m ≤ n ∧ i = .int .i64 m ∧ Own wr NoBlk w.heap.size 3 v (iota m) ∧ Below w.heap.size w wr)
    (fun _ i _ => n - (intOf i).toNat)
  case atStart => exact ⟨0, by omega, rfl, Own.nil _ _ _, Below.refl _ _⟩
  case round =>
    obtain ⟨m, hm, rfl, ho, hb⟩ := hrel
    have HO1 := Lib.hid ho
    have HB1 := Lib.hid hb
    clear ho hb
    by_cases hlt : m < n
    · go_wp2_with (at_builtin
                   refine wpList_append_gen (α := Int) (w0 := w) (B := w.heap.size) (base := w.heap.size) rfl _ _ 23 rfl 8 Tryd.intsTy rfl HO1.out HB1.out (Nat.le_refl _) HB1.out.size [.int .i64 (m : Int)] (m : Int) 1 rfl rfl 3 (by simp [Value.oneCell']) (by rw [iota_length]; omega) ?_
                   intro v2 w2 hown2 hb2 _ _
                   have HO2 := Lib.hid hown2
                   have HB2 := Lib.hid hb2
                   clear hown2 hb2)
      go_roundw
      case rel =>
        refine ⟨m + 1, by omega, by go_num, ?_, HB2.out⟩
        have e : iota (m + 1) = iota m ++ [(m : Int)] := by simp [iota, List.range_succ]
        rw [e]
        exact HO2.out
      case measure => simp [intOf]; omega
    · have hmn : m = n := by omega
      have hfin : iota m = (shuf seed n 0).1 := by rw [hmn]; rfl
      rw [hfin] at HO1
      obtain ⟨A7, n7, c7, rfl, hn7⟩ := HO1.out.slice
      have hn7' : n7 = n := by rw [hn7, shuf_length]
      subst hn7'
      clear hmn hfin hn7
      go_upto_region 9 with (fail)
      refine name_world fun w2 hw2 => ?_
      obtain ⟨gs, hgs⟩ : ∃ gs, wr.heap.size = gs := ⟨_, rfl⟩
      rw [hgs]
      have hl0 : w.heap.size ≤ gs := by have := HB1.out.size; omega
      have hl1 : 0 < gs := by have := HT.out.1; omega
      have hne : (Value.slice A7 n7 c7).ownBlock ≠ some gs := fun e => by have := (HO1.out.lt gs e).2; omega
      have HB2 : Hid (Below w.heap.size w w2) := Lib.hid (by rw [hw2]; exact HB1.out.alloc HB1.out.size _)
      have HO2 : Hid (Own w2 NoBlk w.heap.size 3 (.slice A7 n7 c7) (shuf seed n7 0).1) := Lib.hid (by rw [hw2]; exact HO1.out.alloc _)
      have HS2 : Hid (Blk w2 gs 36 #[.string seed, .int .u64 ((shuf seed n7 0).2 : Nat)]) := Lib.hid (by rw [hw2]; exact Blk.new' hgs _ _)
      have HNE := Lib.hid hne
      clear hw2 hgs HO1 HB1 hne hlt hm
      go_wp2_with fail
      go_loopw [8, 9] (fun i _ wr => ∃ m : Nat, m ≤ n7 - 1 ∧ i = .int .i64 m ∧ Own wr NoBlk w.heap.size 3 (.slice A7 n7 c7) (shuf seed n7 m).1 ∧ Below w.heap.size w wr ∧ Blk wr gs 36 #[.string seed, .int .u64 ((shuf seed n7 m).2 : Nat)])
        (fun i _ _ => n7 - (intOf i).toNat)
      case atStart => exact ⟨0, by omega, rfl, HO2.out, HB2.out, HS2.out⟩
      case round =>
        clear HO2 HB2 HS2
        obtain ⟨m, hm, rfl, ho, hb, hs2⟩ := hrel
        have hlen := shuf_length seed n7 m
        have hcnt := shuf_count seed n7 m
        have HO1 := Lib.hid ho
        have HB1 := Lib.hid hb
        have HS1 := Lib.hid hs2
        have HLEN := Lib.hid hlen
        have HCNT := Lib.hid hcnt
        clear ho hb hs2 hlen hcnt
        by_cases hlt : m + 1 < n7
        · obtain ⟨d, hd⟩ : ∃ d, n7 - m = d := ⟨_, rfl⟩
          have hdd : (n7 : Int) - (m : Int) = (d : Int) := by omega
          obtain ⟨l, hl⟩ : ∃ l, (shuf seed n7 m).1 = l := ⟨_, rfl⟩
          obtain ⟨N, hN⟩ : ∃ N, (shuf seed n7 m).2 = N := ⟨_, rfl⟩
          rw [hl] at HO1 HLEN
          rw [hN] at HS1 HCNT
          have hnext : shuf seed n7 (m + 1) = (swp l m (m + belowF seed d N), belowN seed d N) := by rw [shuf, hl, hN, hd]
          have HNX := Lib.hid hnext
          have HD := Lib.hid hd
          clear hl hN hnext hd
          have hbl : m + belowF seed d N < n7 := by
            have := belowF_lt seed d N (by have := HD.out; omega)
            have := HD.out
            omega
          go_wp2_with fail
          refine (rbelow_ok seed d N gs wr HS1.out hs (by have := HCNT.out; omega) (HT.out.below HB1.out HT.out.1) (by omega) (by have := HD.out; omega) (by have := HD.out; omega)).mono ?_
          rintro e w2 ⟨rfl, hg2, hk2⟩
          obtain ⟨b, hb⟩ : ∃ b, belowF seed d N = b := ⟨_, rfl⟩
          rw [hb] at HNX hbl
          rw [hb]
          obtain ⟨j, hj⟩ : ∃ j, m + b = j := ⟨_, rfl⟩
          rw [hj] at HNX hbl
          have hjj : (m : Int) + (b : Int) = (j : Int) := by omega
          have HB2 := Lib.hid (HB1.out.grown hg2 HB1.out.size (fun k hk => by injection hk with hk; omega))
          have HO2 := Lib.hid (HO1.out.keep hg2 (.inr HNE.out) (fun _ h => h.elim))
          have HS2 := Lib.hid hk2
          clear hg2 hk2 HB1 HO1 HS1 hb hj hdd
          have hmn : m < n7 := by omega
          have hx := getD_some (l := l) (k := m) (by rw [HLEN.out]; exact hmn)
          have hy := getD_some (l := l) (k := j) (by rw [HLEN.out]; exact hbl)
          obtain ⟨x, hxx⟩ : ∃ x, l.getD m 0 = x := ⟨_, rfl⟩
          obtain ⟨y, hyy⟩ : ∃ y, l.getD j 0 = y := ⟨_, rfl⟩
          rw [hxx] at hx
          rw [hyy] at hy
          obtain ⟨g7, u, hg7, hbase, _, hu, ecx, fcx⟩ := HO2.out.get1 rfl hx
          subst hg7
          have hns : gs ≠ g7 := fun e => HNE.out (by rw [e]; rfl)
          have hn71 : (n7 : Int) ≤ (c7 : Int) := by have := HO2.out.cap; omega
          have hu' : [u] = [.int .i64 x] := hu
          injection hu' with hu'
          subst hu'
          obtain ⟨gb, u, hgb, _, _, hu2, ecy, fcy⟩ := HO2.out.get1 rfl hy
          injection hgb with hgb
          injection hgb with hgb
          subst hgb
          have hu2' : [u] = [.int .i64 y] := hu2
          injection hu2' with hu2'
          subst hu2'
          have HXX := Lib.hid hxx
          have HYY := Lib.hid hyy
          clear hx hy hxx hyy hu hu2
          obtain ⟨v9, hv9⟩ := cell_set_some (w := w2) (p := ⟨g7, m, none⟩) (x := .int .i64 y) (q := ⟨g7, j, none⟩) ecy
          clear hn71
          go_upto_region 13 with (fail)
          go_region
          go_wp2_with fail
          go_roundw
          case rel =>
            obtain ⟨q1, q2⟩ := HO2.out.stored (k := m) (u := .int .i64 y) (x := y) rfl rfl
            obtain ⟨r1, r2⟩ := q1.stored (k := j) (u := .int .i64 x) (x := x) rfl rfl
            refine ⟨m + 1, by omega, by go_num, ?_, ?_, ?_⟩
            · rw [HNX.out]
              show Own _ _ _ _ _ ((l.set m (l.getD j 0)).set j (l.getD m 0))
              rw [HXX.out, HYY.out]
              exact r1.drew
            · exact ((HB2.out.setCell (p := ⟨g7, m, none⟩) hbase _).setCell (p := ⟨g7, j, none⟩) hbase _).drew
            · rw [HNX.out]
              exact ((HS2.out.far (p := ⟨g7, m, none⟩) hns _).far (p := ⟨g7, j, none⟩) hns _).drew
          case measure => simp [intOf]; omega
        · have hkm : m = n7 - 1 := by omega
          have hres : (shuf seed n7 m).1 = seqF seed n7 := by rw [hkm]; rfl
          rw [hres] at HO1
          clear hkm hres
          go_wp2_with fail
          go_ret
          exact ⟨_, rfl, HO1.out, HB1.out⟩
end Go.Proofs.YtofdjlngohhlmaaDoor
