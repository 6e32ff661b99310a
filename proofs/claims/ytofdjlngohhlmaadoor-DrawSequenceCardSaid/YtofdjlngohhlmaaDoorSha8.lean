/- SHA-256: the digest of a text. -/
import Derived.Test.YtofdjlngohhlmaaDoorSha4
import Derived.Test.YtofdjlngohhlmaaDoorSha7
namespace Go.Proofs.YtofdjlngohhlmaaDoor
open Go.RowKit

/-- the first state -/
def h0 (j : Nat) : BitVec 32 := [(1779033703 : BitVec 32), 3144134277, 1013904242, 2773480762, 1359893119, 2600822924, 528734635, 1541459225].getD j 0
/-- the state behind k blocks -/
def runB (ps : List UInt8) : Nat → Nat → BitVec 32
  | 0 => h0
  | k + 1 => mixF (runB ps k) (ps.drop (64 * k))
/-- the digest -/
def sha (bs : List UInt8) : List UInt8 := (List.range 8).flatMap fun j => be (runB (pad bs) ((pad bs).length / 64) j).toNat 4
theorem pad_length (bs : List UInt8) : (pad bs).length = bs.length + 1 + zs bs.length + 8 := by simp [pad, be_length]; omega
theorem pad_whole (bs : List UInt8) : (pad bs).length % 64 = 0 := by
  have := zs_stop bs.length
  rw [pad_length]; omega

theorem flat_len (st : Nat → BitVec 32) (k : Nat) : ((List.range k).flatMap fun j => be (st j).toNat 4).length = 4 * k := by
  induction k with
  | zero => rfl
  | succ k ih => rw [List.range_succ, List.flatMap_append, List.length_append, ih]; simp [be_length]; omega
theorem sha_length (bs : List UInt8) : (sha bs).length = 32 := flat_len _ 8
/-- a whole array out of the middle of a block -/
theorem run_loadVar_at {P : Program} (w : World) (a : Addr) (ty : TypeId) (cs : List Value) (d : TypeDesc) (hc : CellsAt w a cs)
    (hu : P.underlying ty = some d) (hd : (match d with | .struct _ | .array _ _ => true | _ => false) = true) (hi : (P.info? ty).map (·.size) = some cs.length) :
    (loadVar ty a).run P w = .ok (.agg cs.toArray) w := by
  have hl := run_loadCells_list (P := P) w a cs hc
  cases hq : P.info? ty with
  | none => simp [hq] at hi
  | some i =>
    have hs : i.size = cs.length := by simpa [hq] using hi
    have hagg : (isAgg ty).run P w = .ok true w := by
      unfold isAgg
      rw [Sem.run_bind, run_underlying hu w]
      cases d <;> simp_all
    simp [loadVar, Sem.run_bind, hagg, sizeOf, typeInfo, hq, hs, hl]
theorem run_index_cell {P : Program} (w : World) (t e : TypeId) (N : Nat) (cs : Array Value) (k : Nat) (u : Value) (h : P.underlying t = some (.array N e)) (d : TypeDesc) (hd : P.underlying e = some d) (hd' : (match d with | .struct _ | .array _ _ => true | _ => false) = false)
    (hs : (P.info? e).map (·.size) = some 1) (hk : k < N) (hc : cs[k]? = some u) : (Instr.index t (.agg cs) (.int .i64 k)).run P w = .ok u w := by
  obtain ⟨i0, hi, hsz⟩ : ∃ i, P.info? e = some i ∧ i.size = 1 := by
    cases hq : P.info? e with
    | none => rw [hq] at hs; cases hs
    | some i => rw [hq] at hs; exact ⟨i, rfl, by simpa using hs⟩
  have hs' : (sizeOf e).run P w = .ok 1 w := by simp [sizeOf, typeInfo, hi, hsz]
  have : (Go.part e cs k).run P w = .ok u w := by
    cases d <;> simp_all [Go.part, isAgg, run_underlying hd]
  simp [Instr.index, asIntOf, run_underlying h, hs', hk, this]

/-- bytes in a row -/
def cells8 (xs : List UInt8) : Array Value := (xs.map fun x => Value.int .u8 (x.toNat : Int)).toArray
theorem cells8_size (xs : List UInt8) : (cells8 xs).size = xs.length := by simp [cells8]
theorem cells8_one (xs : List UInt8) : (cells8 xs).all (·.oneCell') = true := by
  rw [Array.all_eq_true_iff_forall_mem]
  intro x hx
  simp only [cells8, List.mem_toArray, List.mem_map] at hx
  obtain ⟨j, _, rfl⟩ := hx
  rfl

set_option maxRecDepth 100000 in
set_option maxHeartbeats 1000000 in
theorem sum_ok {S : Nat → Prop} {A : Option Addr} {n c : Nat} {bs : List UInt8} {w : World} (h : RS w S A n c bs) (hS : ∀ b, S b → b < w.heap.size) (hl : n ≤ 1073741824) (hT : Tab w 1) :
    Calls Tryd.prog 28 #[.slice A n c] w (RetV w (.agg (cells8 (sha bs)))) := by
  have H := Lib.hid h; clear h
  have HL := Lib.hid H.out.len
  have HT := Lib.hid hT; clear hT
  go_enter Tryd.func28, Tryd.ntmps28
  go_upto_region 2 with (fail)
  refine name_world fun W hW => ?_
  have hB : Below w.heap.size w W := by rw [hW]; exact ((Below.refl _ _).alloc (Nat.le_refl _) _).alloc (by simp) _
  have k0 : Blk W w.heap.size 48 (cells8 (List.replicate 32 0)) := by rw [hW]; exact Blk.alloc (Blk.new' rfl _ _) _
  have k1 : Blk W (w.heap.size + 1) 57 (cells32 8 (runB (pad bs) 0)) := by rw [hW]; exact Blk.new' (by simp) _ _
  have hzW : W.heap.size = w.heap.size + 2 := by rw [hW]; simp
  have HB := Lib.hid hB
  have K0 := Lib.hid k0
  have K1 := Lib.hid k1
  have HZ := Lib.hid hzW
  clear hB k0 k1 hW hzW
  go_wp2_with fail
  refine (padded_ok (H.out.below HB.out hS) (fun b hb => by have := hS b hb; have := HZ.out; omega) hl).mono ?_
  rintro e w1 ⟨v1, rfl, ho1, hb1⟩
  obtain ⟨A1, n1, c1, rfl, hn1⟩ := ho1.slice
  have hp1 : RS w1 (Fresh W w1) A1 n1 c1 (pad bs) := ho1.rs (fun _ h => h.elim) (fun g h1 h2 => ⟨h1, h2⟩)
  have HP1 := Lib.hid hp1
  have HB1 := Lib.hid (below_more HB.out (hb1.mono (Nat.le_refl _)))
  have K01 := Lib.hid (K0.out.keep hb1)
  have K11 := Lib.hid (K1.out.keep hb1)
  have HZ1 := Lib.hid hb1.size
  clear HB K0 K1 hb1 ho1 hp1 hn1
  go_wp2_with fail
  go_loopw [4] (fun v wr => ∃ (k : Nat) (A' : Option Addr) (n' c' : Nat), v = .slice A' n' c' ∧ 64 * k ≤ (pad bs).length ∧ RS wr (Fresh W w1) A' n' c' ((pad bs).drop (64 * k)) ∧ Below w.heap.size w wr ∧ w1.heap.size ≤ wr.heap.size ∧ Blk wr w.heap.size 48 (cells8 (List.replicate 32 0)) ∧ Blk wr (w.heap.size + 1) 57 (cells32 8 (runB (pad bs) k)))
    (fun v _ => slen v)
  case atStart => exact ⟨0, A1, n1, c1, rfl, by omega, HP1.out, HB1.out, Nat.le_refl _, K01.out, K11.out⟩
  case round =>
    clear HB1 K01 K11 HP1
    obtain ⟨k, A', n', c', rfl, hk, hp, hB, hsz, k0, k1⟩ := hrel
    have hn' : n' = (pad bs).length - 64 * k := by rw [← hp.len, List.length_drop]
    have hcap := hp.cap
    have HB := Lib.hid hB
    have K0 := Lib.hid k0
    have K1 := Lib.hid k1
    have HP := Lib.hid hp
    have HSZ := Lib.hid hsz
    have HN := Lib.hid hn'
    have HK := Lib.hid hk
    clear hB k0 k1 hp hsz hn' hk
    by_cases hlt : 0 < n'
    · have h64 : 64 ≤ n' := by have := pad_whole bs; have := HN.out; have := HK.out; omega
      have h64c : 64 ≤ c' := by omega
      go_upto_region 5 with (fail)
      refine wp_region_list ?_
      refine wpList_load_row rfl _ _ rfl (w.heap.size + 1) rfl _ (cells32 8 (runB (pad bs) k)) (0, 0) _ K1.out Tryd.underlying57 rfl (by rw [cells32_size]; kernel_rfl) ?_
      simp only [Act.put, List.setIfInBounds_toArray, List.set_cons_zero, List.set_cons_succ]
      go_wp2_with fail
      refine (mix_ok _ HP.out (fun b hb => Nat.lt_of_lt_of_le hb.2 HSZ.out) h64 (HT.out.below HB.out HT.out.1)).mono ?_
      rintro e w2 ⟨rfl, hb2⟩
      rename_i K hK
      refine hK _ _ ?_
      clear hK K
      refine wpList_store_row rfl _ _ _ rfl (w.heap.size + 1) (cells32 8 (runB (pad bs) (k + 1))) rfl rfl _ (cells32 8 (runB (pad bs) k)) (K1.out.keep hb2) (by rw [cells32_size]; kernel_rfl) (by rw [cells32_size, cells32_size]) (cells32_one _ _) ?_
      refine wpList_nil ?_
      obtain ⟨w3, hw3⟩ : ∃ w3, w2.setRow (w.heap.size + 1) (cells32 8 (runB (pad bs) (k + 1))) = w3 := ⟨_, rfl⟩
      have hz3 : w3.heap.size = w2.heap.size := by rw [← hw3]; simp
      have HB3 : Hid (Below w.heap.size w w3) := Lib.hid (by rw [← hw3]; exact below_setRow (below_more HB.out (hb2.mono (Nat.le_refl _))) (by omega) _)
      have K03 : Hid (Blk w3 w.heap.size 48 (cells8 (List.replicate 32 0))) := Lib.hid (by rw [← hw3]; exact (setRow_other _ _ _ _ (by omega)).trans (K0.out.keep hb2))
      have K13 : Hid (Blk w3 (w.heap.size + 1) 57 (cells32 8 (runB (pad bs) (k + 1)))) := Lib.hid (by rw [← hw3]; exact setRow_heap _ _ _ _ _ _ (K1.out.keep hb2))
      have HSZ3 : Hid (w1.heap.size ≤ w3.heap.size) := Lib.hid (by rw [hz3]; exact Nat.le_trans HSZ.out hb2.size)
      have HP3 : Hid (RS w3 (Fresh W w1) A' n' c' ((pad bs).drop (64 * k))) := Lib.hid (by
        rw [← hw3]
        refine (HP.out.below hb2 (fun b hb => Nat.lt_of_lt_of_le hb.2 HSZ.out)).keep (fun _ h => h) (fun p hp => cell_setRow_other _ _ _ _ ?_)
        have := hp.1; have := HZ.out; omega)
      rw [hw3]
      clear hw3 hz3 hb2 HB K0 K1 HSZ HP
      simp only [Act.put]
      go_wp2_with fail
      go_roundw
      case rel =>
        refine ⟨k + 1, _, _, _, rfl, ?_, ?_, HB3.out, HSZ3.out, K03.out, K13.out⟩
        · have := HN.out; omega
        · have := HP3.out.drop h64
          rw [List.drop_drop] at this
          exact this
      case measure => simp [slen]; omega
    · have hn0 : n' = 0 := by omega
      have hkk : k = (pad bs).length / 64 := by have := HN.out; have := HK.out; omega
      have hsha : sha bs = (List.range 8).flatMap fun j => be (runB (pad bs) k j).toNat 4 := by rw [sha, hkk]
      obtain ⟨st, hst⟩ : ∃ st, runB (pad bs) k = st := ⟨_, rfl⟩
      rw [hst] at hsha K1
      have HS := Lib.hid hsha
      clear hst hsha hkk HN HK HP hcap
      subst hn0
      go_upto_region 7 with (fail)
      refine wp_region_list ?_
      refine wpList_load_row rfl _ _ rfl (w.heap.size + 1) rfl _ (cells32 8 st) (0, 0) _ K1.out Tryd.underlying57 rfl (by rw [cells32_size]; kernel_rfl) ?_
      simp only [Act.put, List.setIfInBounds_toArray, List.set_cons_zero, List.set_cons_succ]
      go_wp2_with fail
      obtain ⟨wd0, rfl⟩ : ∃ w9 : World, w9 = wr := ⟨_, rfl⟩
      go_loopw [5, 20] (fun v i wr => ∃ k : Nat, k ≤ 8 ∧ i = .int .i64 k ∧ Own wr NoBlk wd0.heap.size 5 v ((List.range k).flatMap fun j => be (st j).toNat 4) ∧ Below wd0.heap.size wd0 wr)
        (fun _ i _ => 8 - (intOf i).toNat)
      case atStart => exact ⟨0, by omega, rfl, Own.nil _ _ _, Below.refl _ _⟩
      case round =>
        obtain ⟨k, hk, rfl, ho, hb⟩ := hrel
        have HO2 := Lib.hid ho
        have HB2 := Lib.hid hb
        clear ho hb
        by_cases hlt : k < 8
        · have lk : (k : Int) < 8 := by omega
          have hix : (cells32 8 st)[k]? = some (.int .u32 ((st k).toNat : Int)) := cells32_get st hlt
          have hrun := run_index_cell wr 57 56 8 (cells32 8 st) k _ Tryd.underlying57 _ Tryd.underlying56 rfl (by kernel_rfl) hlt hix
          go_wp2_with fail
          have h4 : (4 : Int) = ((4 : Nat) : Int) := rfl
          refine (number_ok (n := (st k).toNat) (m := 4) HO2.out HB2.out.size (by have := (st k).isLt; omega) (by omega) (by rw [flat_len]; omega)).mono ?_
          rintro e w5 ⟨v5, rfl, ho5, hg5, _⟩
          have HO5 := Lib.hid ho5
          have HB5 := Lib.hid (HB2.out.grown hg5 HB2.out.size (fun j hj => (HO2.out.lt j hj).1))
          clear ho5 hg5 h4
          go_wp2_with fail
          go_roundw
          case rel =>
            refine ⟨k + 1, by omega, by go_num, ?_, HB5.out⟩
            rw [List.range_succ, List.flatMap_append]
            simpa using HO5.out
          case measure => simp [intOf]; omega
        · have hk8 : k = 8 := by omega
          rw [hk8, ← HS.out] at HO2
          clear hk8
          obtain ⟨A8, n8, c8, rfl, hn8⟩ := HO2.out.slice
          have HN8 := Lib.hid hn8
          clear hn8
          go_upto_region 12 with (fail)
          refine wp_region_list ?_
          have hrs : RS wr (fun _ => True) A8 n8 c8 (sha bs) := HO2.out.rs (fun _ _ => trivial) (fun _ _ _ => trivial)
          have hn32 : n8 = 32 := HN8.out.trans (sha_length bs)
          subst hn32
          cases A8 with
          | none =>
            obtain ⟨_, _, e, _⟩ := hrs.2.2.2 (by omega)
            cases e
          | some ad =>
            have hca := hrs.bytesAt
            refine wpList_reads (v := .slice (some ad) 32 c8) rfl ?_ ?_
            · go_simp
            simp only [Act.put]
            refine wpList_reads (v := .pointer (some ad)) rfl ?_ ?_
            · go_simp
              simp [Instr.arrayAt, run_underlying Tryd.underlying48]
            refine wpList_reads (v := .agg (cells8 (sha bs))) rfl ?_ ?_
            · have := run_loadVar_at wr ad 48 ((sha bs).map fun x => Value.int .u8 (x.toNat : Int)) _ hca Tryd.underlying48 rfl (by rw [List.length_map, sha_length]; kernel_rfl)
              show (((Instr.loadAt 48 (.pointer (some ad))) >>= fun v => pure (Next.value v)) : Sem Next).run _ wr = _
              simp only [Instr.loadAt, Instr.sureAddr, Sem.run_bind, Sem.run_pure, Result.andThen_ok, this]
              rfl
            refine wpList_store_row rfl _ _ _ rfl w.heap.size (cells8 (sha bs)) rfl rfl _ (cells8 (List.replicate 32 0)) (K0.out.keep HB2.out) (by rw [cells8_size, sha_length]; kernel_rfl) (by rw [cells8_size, cells8_size, sha_length]; rfl) (cells8_one _) ?_
            refine wpList_nil ?_
            have k5 := K0.out.keep HB2.out
            have hb9 : Below w.heap.size w (wr.setRow w.heap.size (cells8 (sha bs))) := below_setRow (below_more HB.out (HB2.out.mono (Nat.le_refl _))) (Nat.le_refl _) _
            have k9 : Blk (wr.setRow w.heap.size (cells8 (sha bs))) w.heap.size 48 (cells8 (sha bs)) := setRow_heap _ _ _ _ _ _ k5
            obtain ⟨w9, hw9⟩ : ∃ w9, wr.setRow w.heap.size (cells8 (sha bs)) = w9 := ⟨_, rfl⟩
            rw [hw9] at hb9 k9 ⊢
            clear hw9
            have HB9 := Lib.hid hb9
            have K9 := Lib.hid k9
            clear hb9 k9 k5
            simp only [Act.put]
            go_wp2_with fail
            refine bodyPost_ret (results_cell_row rfl _ _ w.heap.size _ _ _ _ rfl K9.out Tryd.underlying48 rfl (by rw [cells8_size, sha_length]; kernel_rfl)) rfl ?_
            exact ⟨rfl, HB9.out⟩
end Go.Proofs.YtofdjlngohhlmaaDoor
