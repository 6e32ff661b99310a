/- SHA-256: the digest of a text, in the reference. -/
import Derived.Test.YtofdjlngohhlmaaDoorSha8
import Derived.Test.YtofdjlngohhlmaaDoorSha11
import Derived.Deep.DeepCutAuto
namespace Go.Proofs.YtofdjlngohhlmaaDoor
open Go.RowKit

theorem getD_take {l : List UInt8} {k m : Nat} (h : k < m) : (l.take m).getD k 0 = l.getD k 0 := by
  simp only [List.getD_eq_getElem?_getD]
  rw [List.getElem?_take_of_lt h]
theorem wd_take (l : List UInt8) : ∀ t, wd (l.take 64) t = wd l t := by
  intro t
  induction t using Nat.strongRecOn with
  | ind t ih =>
    conv => lhs; rw [wd]
    conv => rhs; rw [wd]
    split
    · simp only [byt]
      rw [getD_take (by omega), getD_take (by omega), getD_take (by omega), getD_take (by omega)]
    · rw [ih _ (by omega), ih _ (by omega), ih _ (by omega), ih _ (by omega)]
theorem mixF_take (st : Nat → BitVec 32) (l : List UInt8) : mixF st (l.take 64) = mixF st l := by
  have : ∀ t, rnds (l.take 64) st t = rnds l st t := by
    intro t
    induction t with
    | zero => rfl
    | succ t ih =>
      rw [rnds, rnds, ih]
      funext j
      have h1 : one (l.take 64) (rnds l st t) t = one l (rnds l st t) t := by rw [one, one, wd_take]
      unfold stp
      rw [h1]
  funext j
  rw [mixF, mixF, this]
theorem exec_load_row {P : Program} {o : Oper} {a : Act} {w : World} (ty : TypeId) (x : Operand) (ho : o.op = .load ty x) (g : Nat) (hx : a.eval x = .pointer (some ⟨g, 0, none⟩)) (t : TypeId) (cs : Array Value) (d : TypeDesc) (hg : Blk w g t cs)
    (hu : P.underlying ty = some d) (hd : (match d with | .struct _ | .array _ _ => true | _ => false) = true) (hi : (P.info? ty).map (·.size) = some cs.size) : (execOp a.eval o).run P w = .ok (.value (.agg cs)) w := by
  unfold execOp
  simp only [ho, hx, Instr.loadAt, Instr.sureAddr, Sem.run_bind, Sem.run_pure, Result.andThen_ok, run_loadVar_row w g t ty cs (0, 0) d hg hu hd hi]

theorem flat_get (f : Nat → List UInt8) (hf : ∀ j, (f j).length = 4) : ∀ m i, i < 4 * m → ((List.range m).flatMap f)[i]? = (f (i / 4))[i % 4]? := by
  intro m
  have hlen : ∀ m, ((List.range m).flatMap f).length = 4 * m := by
    intro m
    induction m with
    | zero => rfl
    | succ m ih => rw [List.range_succ, List.flatMap_append, List.length_append, ih]; simp [hf]; omega
  induction m with
  | zero => intro i hi; omega
  | succ m ih =>
    intro i hi
    rw [List.range_succ, List.flatMap_append]
    by_cases h : i < 4 * m
    · rw [List.getElem?_append_left (by rw [hlen]; exact h)]
      exact ih i h
    · rw [List.getElem?_append_right (by rw [hlen]; omega), hlen]
      have : i / 4 = m := by omega
      rw [this]
      have : i - 4 * m = i % 4 := by omega
      rw [this]
      simp
theorem sha_get (bs : List UInt8) (st : Nat → BitVec 32) (hst : runB (pad bs) ((pad bs).length / 64) = st) (i : Nat) (hi : i < 32) : (sha bs)[i]? = some (UInt8.ofNat ((st (i / 4)).toNat / 2 ^ (24 - 8 * (i % 4)))) := by
  rw [sha, hst, flat_get (fun j => be (st j).toNat 4) (fun j => be_length _ _) 8 i (by omega)]
  have : i % 4 = 0 ∨ i % 4 = 1 ∨ i % 4 = 2 ∨ i % 4 = 3 := by omega
  rcases this with h | h | h | h <;> rw [h] <;> rfl
theorem RS.drop_at {α : Type} [Rep α] {w : World} {S : Nat → Prop} {b o n c : Nat} {xs : List α} (h : RS w S (some ⟨b, o, none⟩) n c xs) {k : Nat} (hk : k ≤ n) :
    RS w S (if c = k then some ⟨b, o, none⟩ else some ⟨b, o + k * Rep.sz α, none⟩) (n - k) (c - k) (xs.drop k) := by
  have h2 := h.drop hk
  have e : (⟨b, o, none⟩ : Addr).add (k * Rep.sz α) = ⟨b, o + k * Rep.sz α, none⟩ := by
    unfold Addr.add
    split
    · rename_i h; rw [h]; rfl
    · rfl
  rw [Option.map_some, e] at h2
  exact h2
theorem RS.drop_byte {w : World} {S : Nat → Prop} {b o n c : Nat} {xs : List UInt8} (h : RS w S (some ⟨b, o, none⟩) n c xs) {k : Nat} (hk : k ≤ n) :
    RS w S (if c = k then some ⟨b, o, none⟩ else some ⟨b, o + k, none⟩) (n - k) (c - k) (xs.drop k) := by
  have := h.drop_at hk
  have e : k * Rep.sz UInt8 = k := Nat.mul_one k
  rw [e] at this
  exact this
theorem cells8_set {xs : List UInt8} {k : Nat} {v : UInt8} : (cells8 xs).setIfInBounds k (.int .u8 (v.toNat : Int)) = cells8 (xs.set k v) := by
  simp [cells8, List.map_set]

theorem seqL_last_plain {P : Program} {ops : Array Oper} {Q : Exit → Act → World → Prop} {n : Nat} {S : World → Prop} {x : Oper} {a : Act} {w : World} (hx : ops[n]? = some x) (hg : x.guard = none)
    (h : ∀ K : Act → World → Prop, (∀ a w, Q .normal a w → K a w) → Oper.wp P x a w K Q) : seqL P ops Q S n [] a w := by
  refine seqL_last hx fun K hK => ?_
  have hw : Region.wanted x (yielded ops a.tmps) = true := by simp [Region.wanted, hg]
  rw [if_pos hw]
  exact h K hK
theorem fill_next {α : Type} {l : List α} {k m : Nat} {y z : α} (h : l[k]? = some y) (hm : k < m) : (l.take k ++ List.replicate (m - k) z).set k y = l.take (k + 1) ++ List.replicate (m - (k + 1)) z := by
  have hk := lt_of_get h
  rw [take_snoc h, List.set_append_right _ _ (by simp; omega)]
  have : m - k = (m - (k + 1)) + 1 := by omega
  rw [this, List.replicate_succ]
  simp [Nat.min_eq_left (Nat.le_of_lt hk)]

set_option maxRecDepth 100000 in
set_option maxHeartbeats 2000000 in
theorem rsum_ok {S : Nat → Prop} {A : Option Addr} {n c : Nat} {bs : List UInt8} {w : World} (h : RS w S A n c bs) (hS : ∀ b, S b → b < w.heap.size) (hl : n ≤ 1073741824) (hT : Tab w 0) :
    Calls Tryd.prog 26 #[.slice A n c] w (RetV w (.agg (cells8 (sha bs)))) := by
  have H := Lib.hid h; clear h
  have HL := Lib.hid H.out.len
  have HT := Lib.hid hT; clear hT
  go_enter Tryd.func26, Tryd.ntmps26
  go_upto_region 1 with (fail)
  refine name_world fun W hW => ?_
  have hB : Below w.heap.size w W := by rw [hW]; exact (Below.refl _ _).alloc (Nat.le_refl _) _
  have k0 : Blk W w.heap.size 48 (cells8 (List.replicate 32 0)) := by rw [hW]; exact Blk.new' rfl _ _
  have hzW : W.heap.size = w.heap.size + 1 := by rw [hW]; simp
  have HB := Lib.hid hB
  have K0 := Lib.hid k0
  have HZ := Lib.hid hzW
  have HW := Lib.hid (H.out.below HB.out hS)
  clear hB k0 hW hzW
  go_cut [3] (fun v wx => Own wx NoBlk W.heap.size 5 v (bs ++ [128]) ∧ Below W.heap.size W wx)
  case first =>
    cases A with
    | none =>
      have hn0 : n = 0 := by
        rcases Nat.eq_zero_or_pos n with h | h
        · exact h
        · obtain ⟨_, _, e, _⟩ := H.out.2.2.2 h
          cases e
      have hb0 : bs = [] := List.eq_nil_of_length_eq_zero (HL.out.trans hn0)
      have HB0 := Lib.hid hb0
      clear hb0
      subst hn0
      go_wp2_with (at_builtin
                   refine wpList_append_gen (α := UInt8) (w0 := W) (B := W.heap.size) (base := W.heap.size) rfl _ _ 45 rfl 1 Tryd.bytesTy rfl (Own.nil' W NoBlk (fun _ h => h.elim) W.heap.size 5) (Below.refl _ _) (Nat.le_refl _) (Nat.le_refl _) [.int .u8 128] 128 1 rfl rfl 5 (by simp [Value.oneCell']) (by simp) ?_
                   intro v2 w2 hown2 hb2 _ _
                   have HO2 := Lib.hid hown2
                   have HB2 := Lib.hid hb2
                   clear hown2 hb2)
      go_meet
      rw [HB0.out]
      exact ⟨HO2.out, HB2.out⟩
    | some ad =>
      have HC := Lib.hid HW.out.bytesAt
      go_wp2_with (at_builtin
                   first
                   | (refine wpList_append_gen (α := UInt8) (w0 := W) (B := W.heap.size) (base := W.heap.size) rfl _ _ 45 rfl 1 Tryd.bytesTy rfl HO1.out HB1.out (Nat.le_refl _) HB1.out.size [.int .u8 128] 128 1 rfl rfl 5 (by simp [Value.oneCell']) (by have := HL.out; simp; omega) ?_
                      intro v2 w2 hown2 hb2 _ _
                      have HO2 := Lib.hid hown2
                      have HB2 := Lib.hid hb2
                      clear hown2 hb2)
                   | (refine wpList_append_Own (α := UInt8) rfl _ _ 45 rfl 1 Tryd.bytesTy rfl (Own.nil' W NoBlk (fun _ h => h.elim) W.heap.size 5) ad n c _ bs rfl HL.out.symm (Flat.bytes bs) HC.out (by simp [Value.oneCell']) (by have := HL.out; simp; omega) (Nat.le_refl _) ?_
                      intro v1 w1 hown1 hg1 _
                      have HO1 := Lib.hid hown1
                      have HB1 := Lib.hid ((Below.refl W.heap.size W).grown hg1 (Nat.le_refl _) (fun k hk => by cases hk))
                      clear hown1 hg1))
      go_meet
      exact ⟨HO2.out, HB2.out⟩
  case rest =>
    obtain ⟨ho, hb⟩ := hcut
    have HO2 := Lib.hid ho
    have HB2 := Lib.hid hb
    clear ho hb
    go_wp2_with fail
    go_loopw [3] (fun v wr => ∃ k : Nat, k ≤ zs n ∧ Own wr NoBlk W.heap.size 5 v (bs ++ [128] ++ List.replicate k 0) ∧ Below W.heap.size W wr)
      (fun v _ => zs n + n + 1 - slen v)
    case atStart => exact ⟨0, Nat.zero_le _, by simpa using HO2.out, HB2.out⟩
    case round =>
      clear HO2 HB2
      obtain ⟨k, hk, ho, hb⟩ := hrel
      obtain ⟨A3, n3, c3, rfl, hn3⟩ := ho.slice
      have hn3' : n3 = n + 1 + k := by rw [hn3]; simp [HL.out]; omega
      have HO3 := Lib.hid ho
      have HB3 := Lib.hid hb
      clear ho hb hn3
      by_cases hlt : k < zs n
      · as_aux_lemma =>
        have hr := zs_go n k hlt
        obtain ⟨r, hr'⟩ : ∃ r, n3 % 64 = r := ⟨_, rfl⟩
        have hm : (n3 : Int).tmod 64 = (r : Int) := by rw [← hr']; rfl
        have hne : ((r : Int) != 56) = true := by simp; omega
        clear hr
        have hlen : Hid ((bs ++ [128] ++ List.replicate k 0).length ≤ 1073742000) := by
          have := zs_lt n
          have := HL.out
          show (bs ++ [128] ++ List.replicate k 0).length ≤ 1073742000
          simp; omega
        have HR := Lib.hid hr'
        have HN3 := Lib.hid hn3'
        clear hr' hn3'
        go_wp2_with (at_builtin
                     refine wpList_append_gen (α := UInt8) (w0 := W) (B := W.heap.size) (base := W.heap.size) rfl _ _ 45 rfl 1 Tryd.bytesTy rfl HO3.out HB3.out (Nat.le_refl _) HB3.out.size [.int .u8 0] 0 1 rfl rfl 5 (by simp [Value.oneCell']) (by have := hlen.out; omega) ?_
                     intro v4 w4 hown4 hb4 _ _
                     have HO4 := Lib.hid hown4
                     have HB4 := Lib.hid hb4
                     obtain ⟨A4, n4, c4, rfl, hn4⟩ := hown4.slice
                     have HN4 := Lib.hid hn4
                     clear hown4 hb4 hn4)
        go_roundw
        case rel =>
          refine ⟨k + 1, by omega, ?_, HB4.out⟩
          have := HO4.out
          rw [List.append_assoc, ← List.replicate_succ'] at this
          exact this
        case measure =>
          have h4 := HN4.out
          have hL := HL.out
          have h3 := HN3.out
          simp at h4
          simp [slen]
          omega
      · have hkz : k = zs n := by omega
        have hr := zs_stop n
        have hm : (n3 : Int).tmod 64 = (56 : Int) := by
          have : n3 % 64 = 56 := by rw [hn3', hkz]; exact hr
          show ((n3 % 64 : Nat) : Int) = 56
          rw [this]
          rfl
        have HK := Lib.hid hkz
        have HN3 := Lib.hid hn3'
        clear hr hkz hn3'
        go_wp2_with fail
        have hcast : (n : Int) * 8 = ((8 * n : Nat) : Int) := by omega
        rw [hcast]
        obtain ⟨n8, hn8⟩ : ∃ n8, 8 * n = n8 := ⟨_, rfl⟩
        have hn8b : n8 ≤ 8589934592 := by omega
        rw [hn8]
        have HN8 := Lib.hid hn8
        clear hn8 hcast hm hlt
        have hpad : Hid (bs ++ [128] ++ List.replicate k 0 ++ be n8 8 = pad bs) := Lib.hid (by rw [pad, HL.out, HK.out, HN8.out])
        obtain ⟨xs, hxs⟩ : ∃ xs, bs ++ [128] ++ List.replicate k 0 = xs := ⟨_, rfl⟩
        have hxl : xs.length ≤ 1073742000 := by
          rw [← hxs]
          have := zs_lt n
          have := HL.out
          simp; omega
        rw [hxs] at HO3 hpad
        clear hxs hk
        obtain ⟨wd0, rfl⟩ : ∃ w9 : World, w9 = wr := ⟨_, rfl⟩
        go_loopw [3, 5] (fun v' i wr => ∃ (k : Nat) (z : Int) (ys : List UInt8), k ≤ 8 ∧ i = .int .i64 z ∧ z + 1 = k ∧ Own wr NoBlk W.heap.size 5 v' ys ∧ ys ++ be n8 k = xs ++ be n8 8 ∧ Below W.heap.size W wr)
          (fun _ i _ => (intOf i + 1).toNat)
        case atStart => exact ⟨8, 7, xs, Nat.le_refl _, rfl, by omega, HO3.out, rfl, HB3.out⟩
        case round =>
          obtain ⟨k, z, ys, hk, rfl, hz, how, hys, hb⟩ := hrel
          have HO1 := Lib.hid how
          have HY := Lib.hid hys
          have HB1 := Lib.hid hb
          clear how hys hb
          rcases k with _ | k
          · obtain rfl : z = -1 := by omega
            clear hz
            go_upto_region 9 with (fail)
            have hyp : ys = pad bs := by
              have := HY.out
              rw [be, List.append_nil] at this
              rw [this, hpad.out]
            rw [hyp] at HO1
            clear hyp HY hpad
            obtain ⟨A1, n1, c1, rfl, hn1⟩ := HO1.out.slice
            have hp1 : RS wr (Fresh W wr) A1 n1 c1 (pad bs) := HO1.out.rs (fun _ h => h.elim) (fun g h1 h2 => ⟨h1, h2⟩)
            have hlt1 := hp1.max
            have hcap1 := hp1.cap
            have HP1 := Lib.hid hp1
            have HN1 := Lib.hid hn1
            have KR := Lib.hid (K0.out.keep HB1.out)
            have HBW := Lib.hid (below_more HB.out HB1.out)
            clear hp1 hn1 HO1 HO3 HB3 HW
            obtain ⟨g6, hg6⟩ : ∃ g6, wr.heap.size = g6 := ⟨_, rfl⟩
            have hl6 : w.heap.size < g6 := by have := KR.out.lt; omega
            refine wp_region_list ?_
            refine wpList_reads (v := .agg (cells32 8 (runB (pad bs) 0))) rfl ?_ ?_
            · go_simp
              rfl
            refine wpList_runs (w' := wr.alloc (.cells (cells32 8 fun _ => 0) 57)) rfl (.pointer (some ⟨g6, 0, none⟩)) ?_ ?_
            · rw [← hg6]
              go_simp
              rfl
            refine wpList_store_row rfl _ _ _ rfl g6 (cells32 8 (runB (pad bs) 0)) rfl rfl _ (cells32 8 fun _ => 0) (Blk.new' hg6 _ _) (by rw [cells32_size]; kernel_rfl) (by rw [cells32_size, cells32_size]) (cells32_one _ _) ?_
            refine wpList_nil ?_
            rw [← hg6, World.setRow_alloc_new]
            obtain ⟨W3, hW3⟩ : ∃ W3, wr.alloc (.cells (cells32 8 (runB (pad bs) 0)) 57) = W3 := ⟨_, rfl⟩
            have HB3 : Hid (Below w.heap.size w W3) := Lib.hid (by rw [← hW3]; exact HBW.out.alloc (by omega) _)
            have K03 : Hid (Blk W3 w.heap.size 48 (cells8 (List.replicate 32 0))) := Lib.hid (by rw [← hW3]; exact KR.out.alloc _)
            have K13 : Hid (Blk W3 g6 57 (cells32 8 (runB (pad bs) 0))) := Lib.hid (by rw [← hW3]; exact Blk.new' hg6 _ _)
            have HP3 : Hid (RS W3 (Fresh W wr) A1 n1 c1 (pad bs)) := Lib.hid (by rw [← hW3]; exact HP1.out.below ((Below.refl wr.heap.size wr).alloc (Nat.le_refl _) _) (fun b hb => hb.2))
            have HZ3 : Hid (wr.heap.size ≤ W3.heap.size) := Lib.hid (by rw [← hW3]; simp)
            rw [hW3, hg6]
            have HG6 := Lib.hid hg6
            clear hW3 KR HBW HP1 HB1 hg6
            simp only [Act.put, List.setIfInBounds_toArray, List.set_cons_zero, List.set_cons_succ]
            go_wp2_with fail
            obtain ⟨wq, rfl⟩ : ∃ w9 : World, w9 = wr := ⟨_, rfl⟩
            go_loopw [7] (fun v wr => ∃ k : Nat, 64 * k ≤ n1 ∧ v = .int .i64 ((64 * k : Nat) : Int) ∧ RS wr (Fresh W wq) A1 n1 c1 (pad bs) ∧ Below w.heap.size w wr ∧ wq.heap.size ≤ wr.heap.size ∧ Blk wr w.heap.size 48 (cells8 (List.replicate 32 0)) ∧ Blk wr g6 57 (cells32 8 (runB (pad bs) k)))
              (fun v _ => n1 - (intOf v).toNat)
            case atStart => exact ⟨0, by omega, rfl, HP3.out, HB3.out, HZ3.out, K03.out, K13.out⟩
            case round =>
              clear HB3 K03 K13 HP3 HZ3
              obtain ⟨k, hk, rfl, hp, hB, hsz, k0, k1⟩ := hrel
              have HB3 := Lib.hid hB
              have K03 := Lib.hid k0
              have K13 := Lib.hid k1
              have HP3 := Lib.hid hp
              have HZ3 := Lib.hid hsz
              clear hB k0 k1 hp hsz
              obtain ⟨i, hi⟩ : ∃ i, 64 * k = i := ⟨_, rfl⟩
              rw [hi] at hk
              rw [hi]
              have HI := Lib.hid hi
              clear hi
              by_cases hlt : i < n1
              · as_aux_lemma =>
                have h64 : i + 64 ≤ n1 := by have := pad_whole bs; have := HN1.out; have := HI.out; omega
                obtain ⟨b1, o1, rfl, hb1, _⟩ := HP3.out.2.2.2 (by omega)
                have h64c : i + 64 ≤ c1 := by omega
                have hs64 : IntKind.i64.wrap ((i : Int) + 64) = ((i + 64 : Nat) : Int) := by rw [IntKind.wrap_i64]; omega
                obtain ⟨i2, hi2⟩ : ∃ i2, i + 64 = i2 := ⟨_, rfl⟩
                rw [hi2] at h64c hs64
                have hle : i ≤ i2 := by omega
                have hsub : i2 - i = 64 := by omega
                have HRS := Lib.hid ((HP3.out.drop_byte (k := i) (by omega)).take (k := 64) (by omega))
                go_upto_region 13 with (fail)
                refine wp_region_seq (fun w' => Blk w' g6 57 (cells32 8 (runB (pad bs) k))) 7
                  [(0, true), (1, true), (2, true), (3, true), (4, true), (5, true), (6, false)]
                  (by kernel_rfl) rfl (by kernel_rfl) (by kernel_rfl) (by kernel_rfl) (fun _ _ d _ _ h => by cases d <;> exact h) K13.out ?_
                refine seqL_read (v := .agg (cells32 8 (runB (pad bs) k))) rfl rfl (fun w9 hS9 => exec_load_row _ _ rfl g6 rfl _ _ _ hS9 Tryd.underlying57 rfl (by rw [cells32_size]; kernel_rfl)) ?_
                simp only [Act.put, List.getElem_toArray, List.getElem_cons_zero, List.setIfInBounds_toArray, List.set_cons_zero, List.set_cons_succ]
                iterate 5
                  refine seqL_read (v := ?_) rfl rfl ?_ ?_
                  rotate_left 1
                  · intro w hS
                    go_simp
                    with_reducible rfl
                  simp only [Act.put, List.getElem_toArray, List.getElem_cons_zero, List.getElem_cons_succ, List.setIfInBounds_toArray, List.set_cons_zero, List.set_cons_succ]
                refine seqL_do rfl fun K hK => ?_
                go_simp
                refine (block_ok _ HRS.out.drew (fun b hb => Nat.lt_of_lt_of_le hb.2 HZ3.out) (Nat.le_refl _) (HT.out.below HB3.out.drew HT.out.1)).mono ?_
                rintro e w2 ⟨rfl, hb2⟩
                refine hK _ _ (K13.out.drew.keep hb2) ?_
                clear hK K
                refine seqL_last_plain rfl rfl fun K hK => ?_
                have hrun : mixF (runB (pad bs) k) ((pad bs).drop i) = runB (pad bs) (k + 1) := by rw [← HI.out]; rfl
                rw [mixF_take, hrun]
                clear hrun
                as_aux_lemma =>
                refine wp_store_row _ _ _ rfl g6 (cells32 8 (runB (pad bs) (k + 1))) rfl rfl _ (cells32 8 (runB (pad bs) k)) (K13.out.drew.keep hb2) (by rw [cells32_size]; kernel_rfl) (by rw [cells32_size, cells32_size]) (cells32_one _ _) (hK _ _ ?_)
                clear hK K
                obtain ⟨w4, hw4⟩ : ∃ w4, w2.setRow g6 (cells32 8 (runB (pad bs) (k + 1))) = w4 := ⟨_, rfl⟩
                have hz4 : w4.heap.size = w2.heap.size := by rw [← hw4]; simp
                have HB4 : Hid (Below w.heap.size w w4) := Lib.hid (by rw [← hw4]; exact below_setRow (below_more_drew HB3.out hb2) (by omega) _)
                have K04 : Hid (Blk w4 w.heap.size 48 (cells8 (List.replicate 32 0))) := Lib.hid (by rw [← hw4]; exact (setRow_other _ _ _ _ (by omega)).trans (K03.out.drew.keep hb2))
                have K14 : Hid (Blk w4 g6 57 (cells32 8 (runB (pad bs) (k + 1)))) := Lib.hid (by rw [← hw4]; exact setRow_heap _ _ _ _ _ _ (K13.out.drew.keep hb2))
                have HZ4 : Hid (wq.heap.size ≤ w4.heap.size) := Lib.hid (by rw [hz4]; exact Nat.le_trans HZ3.out hb2.size)
                have HP4 : Hid (RS w4 (Fresh W wq) (some ⟨b1, o1, none⟩) n1 c1 (pad bs)) := Lib.hid (by
                  rw [← hw4]
                  refine (HP3.out.drew.below hb2 (fun b hb => Nat.lt_of_lt_of_le hb.2 HZ3.out)).keep (fun _ h => h) (fun p hp => cell_setRow_other _ _ _ _ ?_)
                  have := hp.2; have := HG6.out; omega)
                rw [hw4]
                clear hw4 hz4 hb2 HB3 K03 K13 HZ3 HP3 HRS hs64
                have hmax : i + 64 ≤ 9223372036854775807 := by omega
                go_wp2_with fail
                go_roundw
                case rel =>
                  refine ⟨k + 1, ?_, ?_, HP4.out, HB4.out, HZ4.out, K04.out, K14.out⟩
                  · have := HI.out; omega
                  · have e := HI.out
                    show Value.int .i64 _ = _
                    congr 1
                    omega
                case measure =>
                  simp [intOf]
                  omega
              · have hin : i = n1 := by omega
                have hkk : k = (pad bs).length / 64 := by have := HN1.out; have := HI.out; omega
                obtain ⟨st, hst⟩ : ∃ st, runB (pad bs) k = st := ⟨_, rfl⟩
                have hsg := sha_get bs st (by rw [← hkk]; exact hst)
                rw [hst] at K13
                have HSG := Lib.hid hsg
                clear hst hsg hkk HI HN1
                have hilt : ((i : Int) < (n1 : Int)) = False := by simp; omega
                clear hin
                go_upto_region 15 with (fail)
                refine name_world fun W4 hW4 => ?_
                obtain ⟨g8, hg8⟩ : ∃ g8, wr.heap.size = g8 := ⟨_, rfl⟩
                have hl8 : g6 < g8 := by have := K13.out.lt; omega
                have HB4 : Hid (Below w.heap.size w W4) := Lib.hid (by rw [hW4]; exact HB3.out.alloc (by omega) _)
                have K04 : Hid (Blk W4 w.heap.size 48 (cells8 (List.replicate 32 0))) := Lib.hid (by rw [hW4]; exact K03.out.alloc _)
                have K14 : Hid (Blk W4 g6 57 (cells32 8 st)) := Lib.hid (by rw [hW4]; exact K13.out.alloc _)
                have K84 : Hid (Blk W4 g8 48 (cells8 (List.replicate 32 0))) := Lib.hid (by rw [hW4]; exact Blk.new' hg8 _ _)
                rw [hg8]
                clear hW4 hg8 HB3 K03 K13 HP3 HZ3
                go_wp2_with fail
                go_loopw [9] (fun v wr => ∃ k : Nat, k ≤ 32 ∧ v = .int .i64 k ∧ Below w.heap.size w wr ∧ Blk wr w.heap.size 48 (cells8 (List.replicate 32 0)) ∧ Blk wr g6 57 (cells32 8 st) ∧ Blk wr g8 48 (cells8 ((sha bs).take k ++ List.replicate (32 - k) 0)))
                  (fun v _ => 32 - (intOf v).toNat)
                case atStart => exact ⟨0, by omega, rfl, HB4.out, K04.out, K14.out, K84.out⟩
                case round =>
                  clear HB4 K04 K14 K84
                  obtain ⟨k, hk, rfl, hB, k0, k1, k8⟩ := hrel
                  have HB4 := Lib.hid hB
                  have K04 := Lib.hid k0
                  have K14 := Lib.hid k1
                  have K84 := Lib.hid k8
                  clear hB k0 k1 k8
                  by_cases hlt : k < 32
                  · as_aux_lemma =>
                    obtain ⟨q, hq⟩ : ∃ q, k / 4 = q := ⟨_, rfl⟩
                    obtain ⟨r, hr⟩ : ∃ r, k % 4 = r := ⟨_, rfl⟩
                    obtain ⟨p, hp⟩ : ∃ p, 24 - 8 * r = p := ⟨_, rfl⟩
                    have hq8 : q < 8 := by omega
                    have lq8 : (q : Int) < 8 := by omega
                    have lk : (k : Int) < 32 := by omega
                    have hqd : (k : Int).tdiv 4 = (q : Int) := by rw [← hq]; rfl
                    have hrd : (k : Int).tmod 4 = (r : Int) := by rw [← hr]; rfl
                    have hp0 : IntKind.i64.wrap (8 * (r : Int)) = 8 * (r : Int) := by rw [IntKind.wrap_i64]; omega
                    have hp1 : IntKind.i64.wrap (24 - 8 * (r : Int)) = (p : Int) := by rw [IntKind.wrap_i64]; omega
                    have hp2 : p ≤ 24 := by omega
                    have hqw : IntKind.i64.wrap (q : Int) = (q : Int) := by rw [IntKind.wrap_i64]; omega
                    have hrw' : IntKind.i64.wrap (r : Int) = (r : Int) := by rw [IntKind.wrap_i64]; omega
                    have eq1 : wr.cell? ⟨g6, q, none⟩ = some (.int .u32 ((st q).toNat : Int)) := (K14.out.cell q).trans (cells32_get _ hq8)
                    have hsk : (sha bs)[k]? = some (UInt8.ofNat ((st q).toNat / 2 ^ p)) := by rw [HSG.out k hlt, hq, hr, hp]
                    obtain ⟨y, hy⟩ : ∃ y, UInt8.ofNat ((st q).toNat / 2 ^ p) = y := ⟨_, rfl⟩
                    have hv : IntKind.u8.wrap (((st q).toNat : Int) / 2 ^ p) = (y.toNat : Int) := by rw [← hy, ← u8_of, Int.natCast_ediv, Int.natCast_pow]; rfl
                    rw [hy] at hsk
                    have HSK := Lib.hid hsk
                    obtain ⟨x8, hx8⟩ : ∃ x8, wr.cell? ⟨g8, k, none⟩ = some x8 := ⟨_, (K84.out.cell k).trans (Array.getElem?_eq_getElem (by rw [cells8_size]; simp [sha_length]; omega))⟩
                    have f8 : wr.frozen? ⟨g8, k, none⟩ = false := K84.out.frozen k
                    clear hq hr hp hy hsk
                    go_wp2_with fail
                    go_roundw
                    case rel =>
                      refine ⟨k + 1, by omega, by go_num, HB4.out.setCell (by simp; omega) _, K04.out.far (show w.heap.size ≠ g8 by omega) _, K14.out.far (show g6 ≠ g8 by omega) _, ?_⟩
                      rw [← fill_next HSK.out (by omega), ← cells8_set]
                      exact K84.out.set_ k _
                    case measure => simp [intOf]; omega
                  · as_aux_lemma =>
                    have hk32 : k = 32 := by omega
                    have hfin : cells8 ((sha bs).take k ++ List.replicate (32 - k) 0) = cells8 (sha bs) := by
                      rw [hk32, List.take_of_length_le (by rw [sha_length]; exact Nat.le_refl _)]; simp
                    rw [hfin] at K84
                    clear hk32 hfin
                    go_upto_region 19 with (fail)
                    refine wp_region_list ?_
                    refine wpList_load_row rfl _ _ rfl g8 rfl _ (cells8 (sha bs)) (0, 0) _ K84.out Tryd.underlying48 rfl (by rw [cells8_size, sha_length]; kernel_rfl) ?_
                    refine wpList_store_row rfl _ _ _ rfl w.heap.size (cells8 (sha bs)) rfl rfl _ (cells8 (List.replicate 32 0)) K04.out (by rw [cells8_size, sha_length]; kernel_rfl) (by rw [cells8_size, cells8_size, sha_length]; rfl) (cells8_one _) ?_
                    refine wpList_nil ?_
                    have hb9 : Below w.heap.size w (wr.setRow w.heap.size (cells8 (sha bs))) := below_setRow HB4.out (Nat.le_refl _) _
                    have k9 : Blk (wr.setRow w.heap.size (cells8 (sha bs))) w.heap.size 48 (cells8 (sha bs)) := setRow_heap _ _ _ _ _ _ K04.out
                    obtain ⟨w9, hw9⟩ : ∃ w9, wr.setRow w.heap.size (cells8 (sha bs)) = w9 := ⟨_, rfl⟩
                    rw [hw9] at hb9 k9 ⊢
                    clear hw9
                    have HB9 := Lib.hid hb9
                    have K9 := Lib.hid k9
                    clear hb9 k9
                    simp only [Act.put]
                    go_wp2_with fail
                    refine bodyPost_ret (results_cell_row rfl _ _ w.heap.size _ _ _ _ rfl K9.out Tryd.underlying48 rfl (by rw [cells8_size, sha_length]; kernel_rfl)) rfl ?_
                    exact ⟨rfl, HB9.out⟩
          · as_aux_lemma =>
            obtain rfl : z = k := by omega
            clear hz
            obtain ⟨p, hp⟩ : ∃ p, 8 * k = p := ⟨_, rfl⟩
            have hp1 : IntKind.i64.wrap (8 * (k : Int)) = (p : Int) := by rw [IntKind.wrap_i64]; omega
            have hp2 : p ≤ 64 := by omega
            obtain ⟨y, hy⟩ : ∃ y, UInt8.ofNat (n8 / 2 ^ p) = y := ⟨_, rfl⟩
            have hv : IntKind.u8.wrap ((n8 : Int) / 2 ^ p) = (y.toNat : Int) := by rw [← hy, ← u8_of, Int.natCast_ediv, Int.natCast_pow]; rfl
            have HP := Lib.hid hp
            have HYY := Lib.hid hy
            clear hp hy
            have hl1 : Hid (ys.length ≤ 1099511627784) := by
              have := congrArg List.length HY.out
              rw [List.length_append, List.length_append, be_length, be_length] at this
              show ys.length ≤ 1099511627784
              omega
            go_wp2_with (at_builtin
                         refine wpList_append_gen (α := UInt8) (w0 := W) (B := W.heap.size) (base := W.heap.size) rfl _ _ 45 rfl 1 Tryd.bytesTy rfl HO1.out HB1.out (Nat.le_refl _) HB1.out.size [.int .u8 (y.toNat : Int)] y 1 rfl rfl 5 (by simp [Value.oneCell']) (by have := hl1.out; omega) ?_
                         intro v2 w2 hown2 hb2 _ _
                         have HO2 := Lib.hid hown2
                         have HB2 := Lib.hid hb2
                         clear hown2 hb2)
            go_roundw
            case rel =>
              refine ⟨k, (k : Int) - 1, ys ++ [y], by omega, by go_num, by omega, HO2.out, ?_, HB2.out⟩
              rw [← HY.out, be, ← HYY.out, HP.out, List.append_assoc]
              rfl
            case measure => simp [intOf]
end Go.Proofs.YtofdjlngohhlmaaDoor
