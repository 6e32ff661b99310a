/- SHA-256: texts one behind the other, each with its length. -/
import Derived.Test.YtofdjlngohhlmaaDoorSha8
namespace Go.Proofs.YtofdjlngohhlmaaDoor
open Go.RowKit

/-- the parts, each preceded by its length -/
def joinF (ps : List (List UInt8)) : List UInt8 := ps.flatMap fun p => be p.length 4 ++ p
theorem Tryd.partsTy : SliceTy Tryd.prog 50 45 1 24 := SliceTy.mk' (z := .slice none 0 0) Tryd.underlying50 (by kernel_rfl) rfl (by omega)
theorem Own.cap {α : Type} [Rep α] {w : World} {S : Nat → Prop} {base : Nat} {e : TypeId} {A : Option Addr} {n c : Nat} {xs : List α} (h : Own w S base e (.slice A n c) xs) : n ≤ c := by
  obtain ⟨cs, ⟨_, h1⟩, _⟩ := h
  rcases h1 with ⟨h1, _⟩ | ⟨g, cap, cur, h1, _, _, h2, _⟩
  · injection h1 with _ h1 h2; omega
  · injection h1 with _ h1 h3; omega

theorem Own.some_ {α : Type} [Rep α] {w : World} {S : Nat → Prop} {base : Nat} {e : TypeId} {A : Option Addr} {n c : Nat} {xs : List α} (h : Own w S base e (.slice A n c) xs) (hn : 0 < n) : ∃ g, A = some ⟨g, 0, none⟩ := by
  obtain ⟨cs, ⟨_, h1⟩, _⟩ := h
  rcases h1 with ⟨h1, _⟩ | ⟨g, cap, cur, h1, _⟩
  · injection h1 with _ h1; omega
  · injection h1 with h1; exact ⟨g, h1⟩

set_option maxHeartbeats 1000000 in
theorem join_ok {S : Nat → Prop} {A : Option Addr} {n c : Nat} {ps : List (List UInt8)} {w : World} (h : RS w S A n c ps) (hS : ∀ b, S b → b < w.heap.size) (hl : (joinF ps).length ≤ 1073741824) :
    Calls Tryd.prog 29 #[.slice A n c] w (RetN w 5 (joinF ps)) := by
  have H := Lib.hid h
  have hmax := h.max
  have HL := Lib.hid h.len
  clear h
  go_enter Tryd.func29, Tryd.ntmps29
  go_wp2_with fail
  go_loopw [3, 8] (fun v i wr => ∃ k : Nat, k ≤ n ∧ i = .int .i64 k ∧ Own wr NoBlk w.heap.size 5 v (joinF (ps.take k)) ∧ Below w.heap.size w wr)
    (fun _ i _ => n - (intOf i).toNat)
  case atStart => exact ⟨0, by omega, rfl, Own.nil _ _ _, Below.refl _ _⟩
  case round =>
    obtain ⟨k, hk, rfl, ho, hb⟩ := hrel
    have HO := Lib.hid ho
    have HB := Lib.hid hb
    clear ho hb
    by_cases hlt : k < n
    · obtain ⟨b, o, p, A', n', c', rfl, hSb, hp0, e0, hrow⟩ := H.out.row_at hlt
      have e1 := (HB.out.cell (p := ⟨b, o + k, none⟩) (hS b hSb)).trans e0
      have HP := Lib.hid hp0
      have HR := Lib.hid (hrow.below HB.out hS)
      have hn' : p.length = n' := hrow.len
      have HN := Lib.hid hn'
      have hjoin : joinF (ps.take (k + 1)) = joinF (ps.take k) ++ (be n' 4 ++ p) := by
        rw [take_snoc hp0, joinF, joinF, List.flatMap_append]
        simp [hn']
      have hlen : (joinF (ps.take (k + 1))).length ≤ (joinF ps).length := by
        have : joinF ps = joinF (ps.take (k + 1)) ++ joinF (ps.drop (k + 1)) := by
          rw [joinF, joinF, joinF, ← List.flatMap_append, List.take_append_drop]
        rw [this, List.length_append]; omega
      rw [hjoin, List.length_append, List.length_append, be_length] at hlen
      have HJ := Lib.hid hjoin
      have hpn : n' ≤ 1073741824 := by omega
      have hl1 : (joinF (ps.take k)).length ≤ 1073741824 := by omega
      clear hn' hjoin hp0 e0 hrow
      go_wp2_with fail
      refine (number_ok (n := n') (m := 4) HO.out HB.out.size (by omega) (by omega) (by omega)).mono ?_
      rintro e w5 ⟨v5, rfl, ho5, hg5, _⟩
      have HO5 := Lib.hid ho5
      have hb5 := HB.out.grown hg5 HB.out.size (fun j hj => (HO.out.lt j hj).1)
      have HB5 := Lib.hid hb5
      have HR5 := Lib.hid (HR.out.keep (fun _ h => h) (fun q hq => (hb5.cell (hS _ hq)).trans (HB.out.cell (hS _ hq)).symm))
      obtain ⟨A5, n5, c5, rfl, hn5⟩ := ho5.slice
      have hcap5 := ho5.cap
      obtain ⟨g5, rfl⟩ := ho5.some_ (by rw [hn5]; simp [be_length])
      clear ho5 hg5 hb5 hn5
      cases A' with
      | none =>
        have hn0 : n' = 0 := by
          rcases Nat.eq_zero_or_pos n' with h | h
          · exact h
          · obtain ⟨_, _, e, _⟩ := HR5.out.2.2.2 h
            cases e
        have hp : p = [] := List.eq_nil_of_length_eq_zero (HN.out.trans hn0)
        subst hn0 hp
        go_wp2_with fail
        go_roundw
        case rel =>
          refine ⟨k + 1, by omega, by go_num, ?_, HB5.out⟩
          rw [HJ.out, ← List.append_assoc, List.append_nil]
          exact HO5.out
        case measure => simp [intOf]; omega
      | some ad =>
        have HC := Lib.hid HR5.out.bytesAt
        go_wp2_with (at_builtin
                     refine wpList_append_Own (α := UInt8) rfl _ _ 45 rfl 1 Tryd.bytesTy rfl HO5.out ad n' c' _ p rfl HN.out.symm (Flat.bytes p) HC.out (by simp [Value.oneCell']) (by have := HN.out; simp [be_length]; omega) HB5.out.size ?_
                     intro v6 w6 hown6 hg6 _
                     have HO6 := Lib.hid hown6
                     have HB6 := Lib.hid (HB5.out.grown hg6 HB5.out.size (fun j hj => (HO5.out.lt j hj).1))
                     clear hown6 hg6)
        go_roundw
        case rel =>
          refine ⟨k + 1, by omega, by go_num, ?_, HB6.out⟩
          rw [HJ.out, ← List.append_assoc]
          exact HO6.out
        case measure => simp [intOf]; omega
    · have hkn : k = n := by omega
      have HK := Lib.hid hkn
      clear hkn
      go_wp2_with fail
      go_ret
      refine ⟨_, rfl, ?_, HB.out⟩
      have := HO.out
      rw [List.take_of_length_le (by rw [HL.out, HK.out]; exact Nat.le_refl _)] at this
      exact this
end Go.Proofs.YtofdjlngohhlmaaDoor
