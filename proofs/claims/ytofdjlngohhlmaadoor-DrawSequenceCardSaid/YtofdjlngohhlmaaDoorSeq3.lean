/- draw.Prefix: the walk. -/
import Derived.Test.YtofdjlngohhlmaaDoorSeq2
import Derived.Deep.DeepCutAuto
namespace Go.Proofs.YtofdjlngohhlmaaDoor
open Go.RowKit

theorem Tryd.intInfo : (Tryd.prog.info? 3).map (fun i => (i.zero, i.size, i.bytes)) = some (some (.int .i64 0), 1, 8) := by kernel_rfl
/-- the place up to which a prefix goes -/
def clip (k : Int) (n : Nat) : Nat := min k.toNat n
theorem clip_le (k : Int) (n : Nat) : clip k n ≤ n := Nat.min_le_right _ _
theorem iota_next (n k : Nat) (h : k < n) : ((iota k ++ List.replicate (n - k) 0).set k (k : Int)) = iota (k + 1) ++ List.replicate (n - (k + 1)) 0 := by
  rw [List.set_append_right _ _ (by rw [iota_length]; exact Nat.le_refl _), iota_length, Nat.sub_self]
  have : n - k = (n - (k + 1)) + 1 := by omega
  rw [this, List.replicate_succ, List.set_cons_zero, iota, iota, List.range_succ, List.map_append]
  simp
theorem getD_some {l : List Int} {k : Nat} (h : k < l.length) : l[k]? = some (l.getD k 0) := by
  rw [List.getD_eq_getElem?_getD, List.getElem?_eq_getElem h]; rfl

theorem Own.base_le {α : Type} [Rep α] {w : World} {S : Nat → Prop} {base base' : Nat} {e : TypeId} {v : Value} {xs : List α} (h : Own w S base e v xs) (hb : base' ≤ base) : Own w S base' e v xs := by
  obtain ⟨cs, ⟨h0, h1⟩, h2, h3⟩ := h
  refine ⟨cs, ⟨h0, ?_⟩, h2, h3⟩
  rcases h1 with h1 | ⟨g, cap, cur, q1, q2, q3⟩
  · exact .inl h1
  · exact .inr ⟨g, cap, cur, q1, Nat.le_trans hb q2, q3⟩
theorem cell_set_some {w : World} {p q : Addr} {x v : Value} (h : w.cell? q = some v) : ∃ v', (w.setCell p x).cell? q = some v' := by
  by_cases hpq : p = q
  · subst hpq
    exact ⟨x, World.cell?_setCell_same w p x h⟩
  · exact ⟨v, (World.cell?_setCell_other w p q x hpq).trans h⟩
theorem prefix_no (seed : ByteArray) (n k : Int) (w : World) (h : n < 0 ∨ 1024 < n) :
    Calls Tryd.prog 11 #[.string seed, .int .i64 n, .int .i64 k] w (RetN w 3 ([] : List Int)) := by
  rcases h with h | h
  · go_enter Tryd.func11, Tryd.ntmps11
    go_wp2_with fail
    go_ret
    exact ⟨_, rfl, Own.nil _ _ _, Below.refl _ _⟩
  · have h' : ¬ n < 0 := by omega
    go_enter Tryd.func11, Tryd.ntmps11
    go_wp2_with fail
    go_ret
    exact ⟨_, rfl, Own.nil _ _ _, Below.refl _ _⟩

set_option maxHeartbeats 2000000 in
theorem prefix_ok (seed : ByteArray) (n : Nat) (k : Int) (w : World) (hs : seed.size ≤ 1073741000) (hn : n ≤ 1024) (hT : Tab w 1) :
    Calls Tryd.prog 11 #[.string seed, .int .i64 n, .int .i64 k] w (RetN w 3 ((seqF seed n).take (clip k n))) := by
  have HT := Lib.hid hT
  clear hT
  obtain ⟨i0, hi, hz0, hz1, hz2⟩ := info_parts Tryd.intInfo
  have HI := Lib.hid hi
  have HZ0 := Lib.hid hz0
  have HZ1 := Lib.hid hz1
  have HZ2 := Lib.hid hz2
  clear hi hz0 hz1 hz2
  obtain ⟨kk, hkk⟩ : ∃ kk, clip k n = kk := ⟨_, rfl⟩
  have hkn : kk ≤ n := by rw [← hkk]; exact clip_le k n
  have HKK := Lib.hid hkk
  clear hkk
  go_enter Tryd.func11, Tryd.ntmps11
  go_upto_region 3 with (fail)
  go_cut [2] (fun v wx => v = .int .i64 (kk : Int) ∧ wx = w)
  case first =>
    go_wp2_with fail
    all_goals
      go_meet
      have hc := HKK.out
      unfold clip at hc
      refine ⟨?_, rfl⟩
      show Value.int _ _ = Value.int _ _
      congr 1
      omega
  case rest =>
    obtain ⟨rfl, rfl⟩ := hcut
    go_wp2_with (refine wpList_make_Own (α := Int) _ rfl _ _ _ rfl rfl wc.heap.size i0 (.int .i64 0) Tryd.underlying23 HI.out HZ0.out HZ1.out rfl .i64 .i64 (n : Int) (n : Int) n rfl rfl rfl rfl (by rw [HZ2.out]; omega) (by unfold maxLen; omega) (Nat.le_refl _) 0 NoBlk (fun _ h => h.elim) (fun _ _ => rfl) ?_
                 intro w1 ho1 hg1
                 have HO1 := Lib.hid ho1
                 have HB1 := Lib.hid ((Below.refl wc.heap.size wc).grown hg1 (Nat.le_refl _) (fun k hk => by cases hk))
                 clear ho1 hg1)
    obtain ⟨g7, hg7⟩ : ∃ g7, wc.heap.size = g7 := ⟨_, rfl⟩
    rw [hg7] at HO1
    rw [hg7]
    have HG7 := Lib.hid hg7
    clear hg7
    go_loopw [8, 26] (fun _ i wr => ∃ m : Nat, m ≤ n ∧ i = .int .i64 m ∧ Own wr NoBlk g7 3 (.slice (some ⟨g7, 0, none⟩) n n) (iota m ++ List.replicate (n - m) 0) ∧ Below wc.heap.size wc wr)
      (fun _ i _ => n - (intOf i).toNat)
    case atStart => exact ⟨0, by omega, rfl, by simpa [iota] using HO1.out, HB1.out⟩
    case round =>
      clear HO1 HB1
      obtain ⟨m, hm, rfl, ho, hb⟩ := hrel
      have HO1 := Lib.hid ho
      have HB1 := Lib.hid hb
      clear ho hb
      by_cases hlt : m < n
      · have lm : (m : Int) < (n : Int) := by omega
        have hx : (iota m ++ List.replicate (n - m) 0)[m]? = some 0 := by
          rw [List.getElem?_append_right (by rw [iota_length]; exact Nat.le_refl _), iota_length, Nat.sub_self, List.getElem?_replicate, if_pos (by omega)]
        obtain ⟨g, u, hgg, _, _, hu, hcell, hfr⟩ := HO1.out.get1 rfl hx
        injection hgg with hgg
        injection hgg with hgg
        subst hgg
        have hu' : [u] = [.int .i64 0] := hu
        injection hu' with hu'
        subst hu'
        have HX := Lib.hid hx
        clear hx hu
        go_wp2_with fail
        go_roundw
        case rel =>
          obtain ⟨q1, q2⟩ := HO1.out.stored (k := m) (u := .int .i64 (m : Int)) (x := (m : Int)) rfl rfl
          rw [iota_next n m hlt] at q1
          exact ⟨m + 1, by omega, by go_num, q1, HB1.out.setCell (by have := HG7.out; simp; omega) _⟩
        case measure => simp [intOf]; omega
      · have hmn : m = n := by omega
        have hfin : iota m ++ List.replicate (n - m) 0 = (shuf seed n 0).1 := by rw [hmn]; simp [shuf]
        rw [hfin] at HO1
        clear hmn hfin
        go_wp2_with fail
        refine (new_ok seed wr).mono ?_
        rintro e w2 ⟨rfl, hw2⟩
        obtain ⟨gs, hgs⟩ : ∃ gs, wr.heap.size = gs := ⟨_, rfl⟩
        rw [hgs]
        have hl7 : g7 < gs := by have := (HO1.out.lt g7 rfl).2; omega
        have hl0 : wc.heap.size ≤ g7 := by have := HG7.out; omega
        have hl1 : 1 < g7 := by have := HT.out.1; omega
        have HB2 : Hid (Below wc.heap.size wc w2) := Lib.hid (by rw [hw2]; exact HB1.out.alloc HB1.out.size _)
        have HO2 : Hid (Own w2 NoBlk g7 3 (.slice (some ⟨g7, 0, none⟩) n n) (shuf seed n 0).1) := Lib.hid (by rw [hw2]; exact HO1.out.alloc _)
        have HS2 : Hid (Blk w2 gs 43 #[.string seed, .int .u64 ((shuf seed n 0).2 : Nat)]) := Lib.hid (by rw [hw2]; exact Blk.new' hgs _ _)
        clear hw2 hgs HO1 HB1 hlt hm
        go_wp2_with fail
        clear HG7
        go_loopw [10, 11] (fun i _ wr => ∃ m : Nat, m ≤ min kk (n - 1) ∧ i = .int .i64 m ∧ Own wr NoBlk g7 3 (.slice (some ⟨g7, 0, none⟩) n n) (shuf seed n m).1 ∧ Below wc.heap.size wc wr ∧ Blk wr gs 43 #[.string seed, .int .u64 ((shuf seed n m).2 : Nat)])
          (fun i _ _ => n - (intOf i).toNat)
        case atStart => exact ⟨0, by omega, rfl, HO2.out, HB2.out, HS2.out⟩
        case round =>
          clear HO2 HB2 HS2
          obtain ⟨m, hm, rfl, ho, hb, hs2⟩ := hrel
          have hlen := shuf_length seed n m
          have hcnt := shuf_count seed n m
          have HO1 := Lib.hid ho
          have HB1 := Lib.hid hb
          have HS1 := Lib.hid hs2
          have HLEN := Lib.hid hlen
          have HCNT := Lib.hid hcnt
          clear ho hb hs2 hlen hcnt
          by_cases hlt : m < kk ∧ m + 1 < n
          · obtain ⟨h1, h2⟩ := hlt
            have d1 : decide ((m : Int) < (kk : Int)) = true := by simp; omega
            have d2 : decide ((m : Int) < (n : Int) - 1) = true := by simp; omega
            obtain ⟨d, hd⟩ : ∃ d, n - m = d := ⟨_, rfl⟩
            have hdd : (n : Int) - (m : Int) = (d : Int) := by omega
            obtain ⟨l, hl⟩ : ∃ l, (shuf seed n m).1 = l := ⟨_, rfl⟩
            obtain ⟨N, hN⟩ : ∃ N, (shuf seed n m).2 = N := ⟨_, rfl⟩
            rw [hl] at HO1 HLEN
            rw [hN] at HS1 HCNT
            have hnext : shuf seed n (m + 1) = (swp l m (m + belowF seed d N), belowN seed d N) := by rw [shuf, hl, hN, hd]
            have HNX := Lib.hid hnext
            have HD := Lib.hid hd
            clear hl hN hnext hd
            have hbl : m + belowF seed d N < n := by
              have := belowF_lt seed d N (by have := HD.out; omega)
              have := HD.out
              omega
            go_wp2_with fail
            refine (below_ok seed d N gs wr HS1.out hs (by have := HCNT.out; omega) (HT.out.below HB1.out HT.out.1) (by omega) (by omega) (by omega)).mono ?_
            rintro e w2 ⟨rfl, hg2, hk2⟩
            obtain ⟨b, hb⟩ : ∃ b, belowF seed d N = b := ⟨_, rfl⟩
            rw [hb] at HNX hbl
            rw [hb]
            obtain ⟨j, hj⟩ : ∃ j, m + b = j := ⟨_, rfl⟩
            rw [hj] at HNX hbl
            have hjj : (m : Int) + (b : Int) = (j : Int) := by omega
            have HB2 := Lib.hid (HB1.out.grown hg2 HB1.out.size (fun k hk => by injection hk with hk; omega))
            have HO2 := Lib.hid (HO1.out.keep hg2 (.inr (by rw [show (Value.slice (some ⟨g7, 0, none⟩) n n).ownBlock = some g7 from rfl]; intro e; injection e with e; omega)) (fun _ h => h.elim))
            have HS2 := Lib.hid hk2
            clear hg2 hk2 HB1 HO1 HS1 hb hj hdd
            have hmn : m < n := by omega
            have hx := getD_some (l := l) (k := m) (by rw [HLEN.out]; exact hmn)
            have hy := getD_some (l := l) (k := j) (by rw [HLEN.out]; exact hbl)
            obtain ⟨x, hxx⟩ : ∃ x, l.getD m 0 = x := ⟨_, rfl⟩
            obtain ⟨y, hyy⟩ : ∃ y, l.getD j 0 = y := ⟨_, rfl⟩
            rw [hxx] at hx
            rw [hyy] at hy
            obtain ⟨ga, u, hga, _, _, hu, ecx, fcx⟩ := HO2.out.get1 rfl hx
            injection hga with hga
            injection hga with hga
            subst hga
            have hu' : [u] = [.int .i64 x] := hu
            injection hu' with hu'
            subst hu'
            obtain ⟨gb, u, hgb, _, _, hu2, ecy, fcy⟩ := HO2.out.get1 rfl hy
            injection hgb with hgb
            injection hgb with hgb
            subst hgb
            have hu2' : [u] = [.int .i64 y] := hu2
            injection hu2' with hu2'
            subst hu2'
            have HXX := Lib.hid hxx
            have HYY := Lib.hid hyy
            clear hx hy hxx hyy hu hu2
            obtain ⟨v9, hv9⟩ := cell_set_some (w := w2) (p := ⟨g7, m, none⟩) (x := .int .i64 y) (q := ⟨g7, j, none⟩) ecy
            go_upto_region 15 with (fail)
            go_region
            go_wp2_with fail
            go_roundw
            case rel =>
              obtain ⟨q1, q2⟩ := HO2.out.stored (k := m) (u := .int .i64 y) (x := y) rfl rfl
              obtain ⟨r1, r2⟩ := q1.stored (k := j) (u := .int .i64 x) (x := x) rfl rfl
              refine ⟨m + 1, by omega, by go_num, ?_, ?_, ?_⟩
              · rw [HNX.out]
                show Own _ _ _ _ _ ((l.set m (l.getD j 0)).set j (l.getD m 0))
                rw [HXX.out, HYY.out]
                exact r1.drew
              · exact ((HB2.out.setCell (p := ⟨g7, m, none⟩) hl0 _).setCell (p := ⟨g7, j, none⟩) hl0 _).drew
              · rw [HNX.out]
                exact ((HS2.out.far (p := ⟨g7, m, none⟩) (show gs ≠ g7 by omega) _).far (p := ⟨g7, j, none⟩) (show gs ≠ g7 by omega) _).drew
            case measure => simp [intOf]; omega
          · have hkm : m = min kk (n - 1) := by omega
            have hres : (shuf seed n m).1.take kk = (seqF seed n).take kk := by rw [hkm]; exact prefix_eq seed n kk hkn
            have HRES := Lib.hid hres
            clear hkm hres
            have post : ∀ (wz : World) (v : Value), Own wz NoBlk wr.heap.size 3 v ((shuf seed n m).1.take kk) → Below wr.heap.size wr wz → RetN wc 3 ((seqF seed n).take (clip k n)) (.returned v) wz := by
              intro wz v h1 h2
              refine ⟨v, rfl, ?_, below_more HB1.out h2⟩
              rw [HKK.out, ← HRES.out]
              exact h1.base_le HB1.out.size
            have hrs : RS wr (· < wr.heap.size) (some ⟨g7, 0, none⟩) kk n ((shuf seed n m).1.take kk) := (HO1.out.rs (fun _ h => h.elim) (fun _ _ h2 => h2)).take hkn
            have POST := Lib.hid post
            have HRS := Lib.hid hrs
            have hnb : (n : Int) ≤ 1024 := by omega
            have hk0 : (kk : Int) ≤ (n : Int) := by omega
            clear post hrs
            by_cases h1 : m < kk
            all_goals
              have d1 := h1
              have d2 : m < kk → decide ((m : Int) < (n : Int) - 1) = false := by intro h; simp; omega
              first
              | (have d3 := d2 h1
                 have d4 : decide ((m : Int) < (kk : Int)) = true := by simp; omega
                 clear d2)
              | (have d4 : decide ((m : Int) < (kk : Int)) = false := by simp; omega
                 clear d2)
              go_wp2_with fail
              refine (cloneI_ok HRS.out (fun b hb => hb) (by omega)).mono ?_
              rintro e w9 ⟨v9, rfl, ho9, hb9⟩
              have HO9 := Lib.hid ho9
              have HB9 := Lib.hid hb9
              clear ho9 hb9
              go_wp2_with fail
              go_ret
              exact POST.out _ _ HO9.out HB9.out
end Go.Proofs.YtofdjlngohhlmaaDoor
