/- SHA-256, the reference: texts one behind the other, each with its length; the digest of several texts. -/
import Derived.Test.YtofdjlngohhlmaaDoorSha9
import Derived.Test.YtofdjlngohhlmaaDoorSha12
namespace Go.Proofs.YtofdjlngohhlmaaDoor
open Go.RowKit

set_option maxRecDepth 100000 in
set_option maxHeartbeats 1000000 in
theorem rjoin_ok {S : Nat → Prop} {A : Option Addr} {n c : Nat} {ps : List (List UInt8)} {w : World} (h : RS w S A n c ps) (hS : ∀ b, S b → b < w.heap.size) (hl : (joinF ps).length ≤ 1073741824) :
    Calls Tryd.prog 27 #[.slice A n c] w (RetN w 5 (joinF ps)) := by
  have H := Lib.hid h
  have hmax := h.max
  have HL := Lib.hid h.len
  clear h
  go_enter Tryd.func27, Tryd.ntmps27
  go_wp2_with fail
  go_loopw [3, 4] (fun v i wr => ∃ k : Nat, k ≤ n ∧ i = .int .i64 k ∧ Own wr NoBlk w.heap.size 5 v (joinF (ps.take k)) ∧ Below w.heap.size w wr)
    (fun _ i _ => n - (intOf i).toNat)
  case atStart => exact ⟨0, by omega, rfl, Own.nil _ _ _, Below.refl _ _⟩
  case round =>
    obtain ⟨k, hk, rfl, ho, hb⟩ := hrel
    have HO := Lib.hid ho
    have HB := Lib.hid hb
    clear ho hb
    by_cases hlt : k < n
    · obtain ⟨b, o, p, A', n', c', rfl, hSb, hp0, e0, hrow⟩ := H.out.row_at hlt
      have hbl := hS b hSb
      have e1 := (HB.out.cell (p := ⟨b, o + k, none⟩) hbl).trans e0
      have E0 := Lib.hid e0
      have HP := Lib.hid hp0
      have HR := Lib.hid hrow
      have hn' : p.length = n' := hrow.len
      have HN := Lib.hid hn'
      have hjoin : joinF (ps.take (k + 1)) = joinF (ps.take k) ++ (be n' 4 ++ p) := by
        rw [take_snoc hp0, joinF, joinF, List.flatMap_append]
        simp [hn']
      have hlen : (joinF (ps.take (k + 1))).length ≤ (joinF ps).length := by
        have : joinF ps = joinF (ps.take (k + 1)) ++ joinF (ps.drop (k + 1)) := by
          rw [joinF, joinF, joinF, ← List.flatMap_append, List.take_append_drop]
        rw [this, List.length_append]; omega
      rw [hjoin, List.length_append, List.length_append, be_length] at hlen
      have HJ := Lib.hid hjoin
      have hpn : n' ≤ 1073741824 := by omega
      have hl1 : (joinF (ps.take k)).length ≤ 1073741824 := by omega
      clear hn' hjoin hp0 e0 hrow
      go_upto_region 6 with (fail)
      obtain ⟨y0, hy0⟩ : ∃ y, UInt8.ofNat (n' / 2 ^ 24) = y := ⟨_, rfl⟩
      obtain ⟨y1, hy1⟩ : ∃ y, UInt8.ofNat (n' / 2 ^ 16) = y := ⟨_, rfl⟩
      obtain ⟨y2, hy2⟩ : ∃ y, UInt8.ofNat (n' / 2 ^ 8) = y := ⟨_, rfl⟩
      obtain ⟨y3, hy3⟩ : ∃ y, UInt8.ofNat (n' / 2 ^ 0) = y := ⟨_, rfl⟩
      have hbe : be n' 4 = [y0, y1, y2, y3] := by rw [← hy0, ← hy1, ← hy2, ← hy3]; rfl
      have v0 : IntKind.u8.wrap ((n' : Int) / 16777216) = (y0.toNat : Int) := by rw [← hy0, ← u8_of, Int.natCast_ediv]; rfl
      have v1 : IntKind.u8.wrap ((n' : Int) / 65536) = (y1.toNat : Int) := by rw [← hy1, ← u8_of, Int.natCast_ediv]; rfl
      have v2 : IntKind.u8.wrap ((n' : Int) / 256) = (y2.toNat : Int) := by rw [← hy2, ← u8_of, Int.natCast_ediv]; rfl
      have v3 : IntKind.u8.wrap (n' : Int) = (y3.toNat : Int) := by rw [← hy3, ← u8_of]; simp
      have HBE := Lib.hid hbe
      clear hy0 hy1 hy2 hy3 hbe
      refine wp_region_seq (fun w' => w'.cell? ⟨b, o + k, none⟩ = some (.slice A' n' c')) 19
        [(0, true), (1, true), (2, true), (3, true), (4, true), (5, true), (6, true), (7, true), (8, true), (9, true), (10, true), (11, true), (14, true), (15, true), (16, true), (17, true), (12, false), (13, false), (18, false)]
        (by kernel_rfl) rfl (by kernel_rfl) (by kernel_rfl) (by kernel_rfl) (fun _ _ d _ _ h => by cases d <;> exact h) e1 ?_
      iterate 16
        refine seqL_read (v := ?_) rfl rfl ?_ ?_
        rotate_left 1
        · intro w hS
          go_simp
          with_reducible rfl
        simp only [Act.put, List.getElem_toArray, List.getElem_cons_zero, List.getElem_cons_succ, List.setIfInBounds_toArray, List.set_cons_zero, List.set_cons_succ]
      refine seqL_do rfl fun K hK => ?_
      go_simp
      refine hK _ _ ((World.cell?_alloc_lt _ _ _ (World.block_lt_of_cell? _ _ e1)).trans e1) ?_
      clear hK K
      have how := (HO.out.alloc (.cells #[.int .u8 (y0.toNat : Int), .int .u8 (y1.toNat : Int), .int .u8 (y2.toNat : Int), .int .u8 (y3.toNat : Int)] 5)).drew
      have hbw : Below w.heap.size w (wr.alloc (.cells #[.int .u8 (y0.toNat : Int), .int .u8 (y1.toNat : Int), .int .u8 (y2.toNat : Int), .int .u8 (y3.toNat : Int)] 5)).drew := (HB.out.alloc HB.out.size _).drew
      have hca := (CellsAt.new wr [.int .u8 (y0.toNat : Int), .int .u8 (y1.toNat : Int), .int .u8 (y2.toNat : Int), .int .u8 (y3.toNat : Int)] 5).drew
      obtain ⟨w5, hw5⟩ : ∃ w5, (wr.alloc (.cells #[.int .u8 (y0.toNat : Int), .int .u8 (y1.toNat : Int), .int .u8 (y2.toNat : Int), .int .u8 (y3.toNat : Int)] 5)).drew = w5 := ⟨_, rfl⟩
      rw [hw5] at how hbw hca ⊢
      clear hw5
      have HO5 := Lib.hid how
      have HB5 := Lib.hid hbw
      have HC5 := Lib.hid hca
      clear how hbw hca e1 HO HB v0 v1 v2 v3
      refine seqL_do rfl fun K hK => ?_
      refine step_append_Own (α := UInt8) rfl _ _ 45 rfl 1 Tryd.bytesTy rfl HO5.out ⟨wr.heap.size, 0, none⟩ 4 4 _ [y0, y1, y2, y3] rfl rfl (Flat.bytes [y0, y1, y2, y3]) HC5.out (by simp [Value.oneCell']) (by simp; omega) HB5.out.size ?_
      intro v6 w6 ho6 hg6 _
      have hb6 := HB5.out.grown hg6 HB5.out.size (fun j hj => (HO5.out.lt j hj).1)
      refine hK _ _ ((hb6.cell (p := ⟨b, o + k, none⟩) hbl).trans E0.out) ?_
      clear hK K
      obtain ⟨A6, n6, c6, rfl, hn6⟩ := ho6.slice
      have hcap6 := ho6.cap
      obtain ⟨g6, rfl⟩ := ho6.some_ (by rw [hn6]; simp)
      rw [← HBE.out] at ho6
      have HO6 := Lib.hid ho6
      have HB6 := Lib.hid hb6
      have HR6 := Lib.hid (HR.out.keep (fun _ h => h) (fun q hq => hb6.cell (hS _ hq)))
      clear ho6 hg6 hb6 hn6 HO5 HB5 HC5
      simp only [Act.put, List.getElem_toArray, List.getElem_cons_zero, List.getElem_cons_succ, List.setIfInBounds_toArray, List.set_cons_zero, List.set_cons_succ]
      cases A' with
      | none =>
        have hn0 : n' = 0 := by
          rcases Nat.eq_zero_or_pos n' with h | h
          · exact h
          · obtain ⟨_, _, e, _⟩ := HR.out.2.2.2 h
            cases e
        have hp : p = [] := List.eq_nil_of_length_eq_zero (HN.out.trans hn0)
        subst hn0 hp
        refine seqL_do rfl fun K hK => ?_
        go_simp
        refine hK _ _ ((HB6.out.cell (p := ⟨b, o + k, none⟩) hbl).trans E0.out) ?_
        clear hK K
        refine seqL_last rfl fun K hK => ?_
        go_simp
        refine hK _ _ ?_
        clear hK K
        go_wp2_with fail
        go_roundw
        case rel =>
          refine ⟨k + 1, by omega, by go_num, ?_, HB6.out⟩
          rw [HJ.out, ← List.append_assoc, List.append_nil]
          exact HO6.out
        case measure => simp [intOf]; omega
      | some ad =>
        have HC := Lib.hid HR6.out.bytesAt
        refine seqL_do rfl fun K hK => ?_
        refine step_append_Own (α := UInt8) rfl _ _ 45 rfl 1 Tryd.bytesTy rfl HO6.out ad n' c' _ p rfl HN.out.symm (Flat.bytes p) HC.out (by simp [Value.oneCell']) (by have := HN.out; simp [be_length]; omega) HB6.out.size ?_
        intro v7 w7 ho7 hg7 _
        have hb7 := HB6.out.grown hg7 HB6.out.size (fun j hj => (HO6.out.lt j hj).1)
        refine hK _ _ ((hb7.cell (p := ⟨b, o + k, none⟩) hbl).trans E0.out) ?_
        clear hK K
        have HO7 := Lib.hid ho7
        have HB7 := Lib.hid hb7
        clear ho7 hg7 hb7
        simp only [Act.put, List.getElem_toArray, List.getElem_cons_zero, List.getElem_cons_succ, List.setIfInBounds_toArray, List.set_cons_zero, List.set_cons_succ]
        refine seqL_last rfl fun K hK => ?_
        go_simp
        refine hK _ _ ?_
        clear hK K
        go_wp2_with fail
        go_roundw
        case rel =>
          refine ⟨k + 1, by omega, by go_num, ?_, HB7.out⟩
          rw [HJ.out, ← List.append_assoc]
          exact HO7.out
        case measure => simp [intOf]; omega
    · have hkn : k = n := by omega
      have HK := Lib.hid hkn
      clear hkn
      go_wp2_with fail
      go_ret
      refine ⟨_, rfl, ?_, HB.out⟩
      have := HO.out
      rw [List.take_of_length_le (by rw [HL.out, HK.out]; exact Nat.le_refl _)] at this
      exact this
set_option maxRecDepth 100000 in
set_option maxHeartbeats 1000000 in
theorem rof_ok {S : Nat → Prop} {A : Option Addr} {n c : Nat} {ps : List (List UInt8)} {w : World} (h : RS w S A n c ps) (hS : ∀ b, S b → b < w.heap.size) (hl : (joinF ps).length ≤ 1073741824) (hT : Tab w 0) :
    Calls Tryd.prog 23 #[.slice A n c] w (RetV w (.agg (cells8 (sha (joinF ps))))) := by
  have H := Lib.hid h
  have HT := Lib.hid hT
  clear h hT
  go_enter Tryd.func23, Tryd.ntmps23
  go_upto_region 1 with (fail)
  refine name_world fun W hW => ?_
  have hB : Below w.heap.size w W := by rw [hW]; exact (Below.refl _ _).alloc (Nat.le_refl _) _
  have k0 : Blk W w.heap.size 48 (cells8 (List.replicate 32 0)) := by rw [hW]; exact Blk.new' rfl _ _
  have HB := Lib.hid hB
  have K0 := Lib.hid k0
  clear hB k0 hW
  go_wp2_with fail
  refine (rjoin_ok (H.out.below HB.out hS) (fun b hb => by have := hS b hb; have := K0.out.lt; omega) hl).mono ?_
  rintro e w1 ⟨v1, rfl, ho1, hb1⟩
  obtain ⟨A1, n1, c1, rfl, hn1⟩ := ho1.slice
  have HP := Lib.hid (ho1.rs (S' := fun b => b < w1.heap.size) (fun _ h => h.elim) (fun g _ h2 => h2))
  have HB1 := Lib.hid (below_more HB.out (hb1.mono (Nat.le_refl _)))
  have K1 := Lib.hid (K0.out.keep hb1)
  have hn1b : n1 ≤ 1073741824 := by omega
  clear ho1 hb1 hn1
  go_wp2_with fail
  refine (rsum_ok HP.out (fun b hb => hb) hn1b (HT.out.below HB1.out HT.out.1)).mono ?_
  rintro e w2 ⟨rfl, hb2⟩
  rename_i K hK
  refine hK _ _ ?_
  clear hK K
  refine wpList_store_row rfl _ _ _ rfl w.heap.size (cells8 (sha (joinF ps))) rfl rfl _ (cells8 (List.replicate 32 0)) (K1.out.keep hb2) (by rw [cells8_size, sha_length]; kernel_rfl) (by rw [cells8_size, cells8_size, sha_length, List.length_replicate]) (cells8_one _) ?_
  refine wpList_nil ?_
  have hb9 : Below w.heap.size w (w2.setRow w.heap.size (cells8 (sha (joinF ps)))) := below_setRow (below_more HB1.out (hb2.mono (Nat.le_refl _))) (Nat.le_refl _) _
  have k9 : Blk (w2.setRow w.heap.size (cells8 (sha (joinF ps)))) w.heap.size 48 (cells8 (sha (joinF ps))) := setRow_heap _ _ _ _ _ _ (K1.out.keep hb2)
  obtain ⟨w9, hw9⟩ : ∃ w9, w2.setRow w.heap.size (cells8 (sha (joinF ps))) = w9 := ⟨_, rfl⟩
  rw [hw9] at hb9 k9 ⊢
  clear hw9
  have HB9 := Lib.hid hb9
  have K9 := Lib.hid k9
  clear hb9 k9
  simp only [Act.put]
  go_wp2_with fail
  refine bodyPost_ret (results_cell_row rfl _ _ w.heap.size _ _ _ _ rfl K9.out Tryd.underlying48 rfl (by rw [cells8_size, sha_length]; kernel_rfl)) rfl ?_
  exact ⟨rfl, HB9.out⟩
end Go.Proofs.YtofdjlngohhlmaaDoor
