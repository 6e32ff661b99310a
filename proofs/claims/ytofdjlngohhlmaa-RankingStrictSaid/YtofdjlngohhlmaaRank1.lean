/- Contracts of the small functions on lists of ints: electionref05.Eq, slices.Index, slices.Contains, marks of both packages. -/
import Derived.Test.YtofdjlngohhlmaaChecked
import Derived.Test.YtofdjlngohhlmaaLib
namespace Go.Proofs.Ytofdjlngohhlmaa
open Go.RowKit

theorem Try.ints : SliceTy Try.prog 32 3 1 8 := SliceTy.mk' (z := .int .i64 0) Try.underlying32 (by kernel_rfl) rfl (by omega)

set_option maxHeartbeats 400000 in
theorem eq_any {S S2 : Nat → Prop} (A A2 : Option Addr) (n n2 c c2 : Nat) (xs ys : List Int) (w : World) (h1 : RS w S A n c xs) (h2 : RS w S2 A2 n2 c2 ys) :
    Calls Try.prog 10 #[.slice A n c, .slice A2 n2 c2] w (RetQ w (.bool (decide (xs = ys)))) := by
  have hb := h1.max
  have hl1 := Lib.hid h1.len
  have hl2 := Lib.hid h2.len
  have H1 := Lib.hid h1
  have H2 := Lib.hid h2
  clear h1 h2
  by_cases hne : n = n2
  · subst hne
    go_enter Try.func10, Try.ntmps10
    go_wp2
    go_loopw [5] (fun i wr => ∃ k m : Nat, k ≤ n ∧ i = .int .i64 k ∧ xs.take k = ys.take k ∧ wr = w.drewN m)
      (fun i _ => n - (intOf i).toNat)
    case atStart => exact ⟨0, 0, Nat.zero_le _, rfl, rfl, rfl⟩
    case round =>
      obtain ⟨k, m, hk, rfl, htk, rfl⟩ := hrel
      have HT := Lib.hid htk; clear htk
      by_cases hlt : k < n
      · obtain ⟨b, o, x, rfl, _, hx0, e1⟩ := H1.out.int_at hlt
        obtain ⟨b2, o2, y, rfl, _, hy0, e2⟩ := H2.out.int_at hlt
        have hx := Lib.hid hx0; clear hx0
        have hy := Lib.hid hy0; clear hy0
        go_wp2_with fail
        go_quiet (fail)
        go_wp2
        · have he : (x != y) = true := by assumption
          go_ret
          exact ⟨ret_of (by simpa using ne_of_get hx.out hy.out he), _, World.drewN_drewN _ _ _⟩
        · have he : (x != y) = false := by assumption
          go_roundw
          case rel => exact ⟨k + 1, _, by omega, by go_num, take_eq_snoc HT.out hx.out hy.out he, rfl⟩
          case measure => simp [intOf]; omega
      · have hkn : k = n := by omega
        have hkn' := Lib.hid hkn; clear hkn
        go_wp2
        go_ret
        refine ⟨ret_of ?_, _, rfl⟩
        have e := HT.out
        rw [List.take_of_length_le (by rw [hl1.out, hkn'.out]; exact Nat.le_refl _), List.take_of_length_le (by rw [hl2.out, hkn'.out]; exact Nat.le_refl _)] at e
        simp [e]
  · have hne' : ((n : Int) != (n2 : Int)) = true := by simp; omega
    have hxy : xs ≠ ys := by rintro rfl; exact hne (hl1.out.symm.trans hl2.out)
    have hd := Lib.hid hxy; clear hxy hne
    go_enter Try.func10, Try.ntmps10
    go_wp2
    go_ret
    exact ⟨ret_of (by simpa using hd.out), 0, rfl⟩

/-- the place of the first x, or -1 -/
def idxOf (xs : List Int) (x : Int) : Int := match xs.findIdx? (fun y => x == y) with | some i => (i : Int) | none => -1
theorem idxOf_some {xs : List Int} {x : Int} {k : Nat} (h : x ∉ xs.take k) (hx : xs[k]? = some x) : idxOf xs x = k := by
  have : xs.findIdx? (fun y => x == y) = some k := by
    rw [List.findIdx?_eq_some_iff_getElem]
    obtain ⟨hk, e⟩ := List.getElem?_eq_some_iff.1 hx
    refine ⟨hk, by simp [e], fun j hj => ?_⟩
    have hjl : j < xs.length := by omega
    intro hc
    apply h
    have : x = xs[j] := by simpa using hc
    rw [this]
    exact List.mem_take_iff_getElem.2 ⟨j, by omega, rfl⟩
  simp [idxOf, this]
theorem idxOf_none {xs : List Int} {x : Int} (h : x ∉ xs) : idxOf xs x = -1 := by
  have : xs.findIdx? (fun y => x == y) = none := by
    rw [List.findIdx?_eq_none_iff]
    intro y hy
    simp
    rintro rfl
    exact h hy
  simp [idxOf, this]
theorem idxOf_ge {xs : List Int} {x : Int} (h : x ∈ xs) : 0 ≤ idxOf xs x := by
  unfold idxOf
  split
  · omega
  · rename_i hn
    rw [List.findIdx?_eq_none_iff] at hn
    simpa using hn x h
theorem not_mem_take_succ {xs : List Int} {x y : Int} {k : Nat} (h : x ∉ xs.take k) (hy : xs[k]? = some y) (hne : (x == y) = false) : x ∉ xs.take (k + 1) := by
  rw [take_snoc hy]
  simp at hne
  simp [h, hne]

set_option maxHeartbeats 400000 in
theorem index_any {S : Nat → Prop} (A : Option Addr) (n c : Nat) (xs : List Int) (v : Int) (w : World) (h1 : RS w S A n c xs) :
    Calls Try.prog 16 #[.slice A n c, .int .i64 v] w (RetW w (.int .i64 (idxOf xs v))) := by
  have hb := h1.max
  have hl1 := Lib.hid h1.len
  have H1 := Lib.hid h1
  clear h1
  go_enter Try.func16, Try.ntmps16
  go_wp2
  go_loop [8] (fun i => ∃ k : Nat, k ≤ n ∧ i = .int .i64 k ∧ v ∉ xs.take k) (fun i => n - (intOf i).toNat)
  case atStart => exact ⟨0, Nat.zero_le _, rfl, by simp⟩
  case round =>
    obtain ⟨k, hk, rfl, htk⟩ := hrel
    have HT := Lib.hid htk; clear htk
    by_cases hlt : k < n
    · obtain ⟨b, o, x, rfl, _, hx0, e1⟩ := H1.out.int_at hlt
      have hx := Lib.hid hx0; clear hx0
      go_wp2
      · have he : (v == x) = true := by assumption
        go_ret
        refine ⟨ret_of ?_, rfl⟩
        have : v = x := by simpa using he
        subst this
        rw [idxOf_some HT.out hx.out]; rfl
      · have he : (v == x) = false := by assumption
        go_round
        case rel => exact ⟨k + 1, by omega, by go_num, not_mem_take_succ HT.out hx.out he⟩
        case measure => simp [intOf]; omega
    · have hkn : k = n := by omega
      have hkn' := Lib.hid hkn; clear hkn
      go_wp2
      go_ret
      refine ⟨ret_of ?_, rfl⟩
      have e := HT.out
      rw [List.take_of_length_le (by rw [hl1.out, hkn'.out]; exact Nat.le_refl _)] at e
      rw [idxOf_none e]; rfl

set_option maxHeartbeats 400000 in
theorem contains_yes {S : Nat → Prop} (A : Option Addr) (n c : Nat) (xs : List Int) (v : Int) (w : World) (h1 : RS w S A n c xs) (hv : v ∈ xs) :
    Calls Try.prog 14 #[.slice A n c, .int .i64 v] w (RetW w (.bool true)) := by
  have hge := idxOf_ge hv
  have H1 := Lib.hid h1; clear h1
  have HV := Lib.hid hv; clear hv
  go_enter Try.func14, Try.ntmps14
  go_wp2_with (go_at_call 16; refine (index_any _ _ _ _ _ _ H1.out).mono ?_; rintro e w' ⟨rfl, rfl⟩)
  go_ret
  exact ⟨rfl, rfl⟩

set_option maxHeartbeats 400000 in
theorem contains_no {S : Nat → Prop} (A : Option Addr) (n c : Nat) (xs : List Int) (v : Int) (w : World) (h1 : RS w S A n c xs) (hv : v ∉ xs) :
    Calls Try.prog 14 #[.slice A n c, .int .i64 v] w (RetW w (.bool false)) := by
  have hge := Lib.hid (idxOf_none hv)
  have H1 := Lib.hid h1; clear h1
  have HV := Lib.hid hv; clear hv
  go_enter Try.func14, Try.ntmps14
  go_wp2_with (go_at_call 16; refine (index_any _ _ _ _ _ _ H1.out).mono ?_; rw [hge.out]; rintro e w' ⟨rfl, rfl⟩)
  go_ret
  exact ⟨rfl, rfl⟩

/-- what 'marks' has gathered -/
def addMark (m : Int) (out : List Int) (x : Int) : List Int := if 0 ≤ x ∧ x < m ∧ x ∉ out then out ++ [x] else out
def marksF (l : List Int) (m : Int) : List Int := l.foldl (addMark m) []
theorem marksF_snoc {l : List Int} {m : Int} {k : Nat} {x : Int} (h : l[k]? = some x) : marksF (l.take (k + 1)) m = addMark m (marksF (l.take k) m) x := by
  rw [take_snoc h, marksF, List.foldl_append]; rfl
theorem addMark_len (m : Int) (out : List Int) (x : Int) : (addMark m out x).length ≤ out.length + 1 := by unfold addMark; split <;> simp
theorem marksF_len (l : List Int) (m : Int) : (marksF l m).length ≤ l.length := by
  have : ∀ (k : List Int) out, (k.foldl (addMark m) out).length ≤ out.length + k.length := by
    intro k
    induction k with
    | nil => intro out; simp
    | cons x k ih =>
      intro out
      have := ih (addMark m out x)
      have := addMark_len m out x
      simp
      omega
  have h := this l []
  simp at h
  exact h

/-- no block at all -/
abbrev NoB : Nat → Prop := fun _ => False

set_option maxHeartbeats 1000000 in
theorem marks_any {S : Nat → Prop} (A : Option Addr) (n c : Nat) (xs : List Int) (m : Int) (w : World) (h1 : RS w S A n c xs) (hS : ∀ b, S b → b < w.heap.size) (hn : n ≤ 1073741824) :
    Calls Try.prog 13 #[.slice A n c, .int .i64 m] w (RetS w (marksF xs m)) := by
  have hl1 := Lib.hid h1.len
  have H1 := Lib.hid h1
  clear h1
  go_enter Try.func13, Try.ntmps13
  go_wp2
  go_loopw [5, 10] (fun v i wr => ∃ k : Nat, k ≤ n ∧ i = .int .i64 k ∧ Own wr NoB w.heap.size 3 v (marksF (xs.take k) m) ∧ Below w.heap.size w wr)
    (fun _ i _ => n - (intOf i).toNat)
  case atStart => exact ⟨0, Nat.zero_le _, rfl, Own.nil _ _ _, Below.refl _ _⟩
  case round =>
    obtain ⟨k, hk, rfl, hown, hbel⟩ := hrel
    have HB := Lib.hid hbel
    obtain ⟨A', n', c', rfl, hn'⟩ := hown.slice
    have HO := Lib.hid hown; clear hown
    have HN := Lib.hid hn'; clear hn'
    by_cases hlt : k < n
    · obtain ⟨b, o, x, rfl, hSb, hx0, e0⟩ := H1.out.int_at hlt
      have hx := Lib.hid hx0; clear hx0
      have e1 : wr.cell? ⟨b, o + k, none⟩ = some (.int .i64 x) := (hbel.cell (p := ⟨b, o + k, none⟩) (hS b hSb)).trans e0
      clear e0 hbel
      have hlen := marksF_len (xs.take k) m
      have hlt2 : (xs.take k).length ≤ k := List.length_take_le _ _
      have hrs := Lib.hid (HO.out.rs (S' := fun _ => True) (fun _ h => h.elim) (fun _ _ _ => trivial))
      have hls : (marksF (xs.take k) m).length ≤ n := by omega
      clear hlen hlt2
      have hls' := Lib.hid hls; clear hls
      by_cases h0 : 0 ≤ x
      · by_cases h2 : x < m
        · by_cases h3 : x ∈ marksF (xs.take k) m
          · have e := Lib.hid ((marksF_snoc (m := m) hx.out).trans (if_neg (by simp [h3])))
            have h3' := Lib.hid h3; clear h3
            go_wp2_with (go_at_call 14; refine (contains_yes _ _ _ _ _ _ hrs.out h3'.out).mono ?_; rintro e w' ⟨rfl, rfl⟩)
            go_roundw
            case rel => exact ⟨k + 1, by omega, by go_num, by rw [e.out]; exact HO.out, HB.out⟩
            case measure => simp [intOf]; omega
          · have e := Lib.hid ((marksF_snoc (m := m) hx.out).trans (if_pos ⟨h0, h2, h3⟩))
            have h3' := Lib.hid h3; clear h3
            go_wp2_with (first
              | (go_at_call 14; refine (contains_no _ _ _ _ _ _ hrs.out h3'.out).mono ?_; rintro e w' ⟨rfl, rfl⟩)
              | (at_builtin
                 refine wpList_append_new (α := Int) (w0 := w) rfl _ _ 32 rfl 8 Try.ints rfl HO.out HB.out [.int .i64 x] x 1 rfl rfl 3 (by simp [Value.oneCell']) (by have := hls'.out; omega) ?_
                 intro v' w' hown' hbel' _ _
                 have HO' := Lib.hid hown'; clear hown'
                 have HB' := Lib.hid hbel'; clear hbel'))
            go_roundw
            case rel => exact ⟨k + 1, by omega, by go_num, by rw [e.out]; exact HO'.out, HB'.out⟩
            case measure => simp [intOf]; omega
        · have e := Lib.hid ((marksF_snoc (m := m) hx.out).trans (if_neg (by simp [h2])))
          go_wp2
          go_roundw
          case rel => exact ⟨k + 1, by omega, by go_num, by rw [e.out]; exact HO.out, HB.out⟩
          case measure => simp [intOf]; omega
      · have e := Lib.hid ((marksF_snoc (m := m) hx.out).trans (if_neg (by simp [h0])))
        go_wp2
        go_roundw
        case rel => exact ⟨k + 1, by omega, by go_num, by rw [e.out]; exact HO.out, HB.out⟩
        case measure => simp [intOf]; omega
    · have hkn : k = n := by omega
      have hkn' := Lib.hid hkn; clear hkn
      go_wp2
      go_ret
      have e : xs.take k = xs := List.take_of_length_le (by rw [hl1.out, hkn'.out]; exact Nat.le_refl _)
      have h := HO.out
      rw [e] at h
      exact ⟨_, _, _, rfl, h.rs (fun _ h => h.elim) (fun g h1 h2 => ⟨h1, h2⟩), HB.out⟩

/-- the different candidates of a list that exist, in ascending order -/
def refMarks (l : List Int) : Nat → List Int
  | 0 => []
  | n + 1 => if (n : Int) ∈ l then refMarks l n ++ [(n : Int)] else refMarks l n
theorem refMarks_len (l : List Int) (n : Nat) : (refMarks l n).length ≤ n := by
  induction n with
  | zero => simp [refMarks]
  | succ n ih => unfold refMarks; split <;> (try simp) <;> omega

theorem mts1 {l : List Int} {j : Nat} {x k : Int} (h : l[j]? = some x) (hi : false = true ↔ k ∈ l.take j) : (x == k) = true ↔ k ∈ l.take (j + 1) := by
  rw [take_snoc h, List.mem_append, ← hi]
  simp
  exact eq_comm
theorem mts2 {l : List Int} {j : Nat} {x k : Int} (h : l[j]? = some x) (hi : true = true ↔ k ∈ l.take j) : true = true ↔ k ∈ l.take (j + 1) := by
  rw [take_snoc h, List.mem_append]
  exact ⟨fun _ => .inl (hi.1 rfl), fun _ => rfl⟩

set_option maxHeartbeats 1000000 in
theorem refMarks_any {S : Nat → Prop} (A : Option Addr) (n c : Nat) (xs : List Int) (m : Nat) (w : World) (h1 : RS w S A n c xs) (hS : ∀ b, S b → b < w.heap.size) (hm : m ≤ 1073741824) :
    Calls Try.prog 15 #[.slice A n c, .int .i64 m] w (RetS w (refMarks xs m)) := by
  have hb := h1.max
  have hl1 := Lib.hid h1.len
  have H1 := Lib.hid h1
  clear h1
  go_enter Try.func15, Try.ntmps15
  go_wp2
  go_loopw [5, 6] (fun v i wr => ∃ k : Nat, k ≤ m ∧ i = .int .i64 k ∧ Own wr NoB w.heap.size 3 v (refMarks xs k) ∧ Below w.heap.size w wr)
    (fun _ i _ => m - (intOf i).toNat)
  case atStart => exact ⟨0, Nat.zero_le _, rfl, Own.nil _ _ _, Below.refl _ _⟩
  case round =>
    obtain ⟨k, hk, rfl, hown, hbel⟩ := hrel
    have HB := Lib.hid hbel; clear hbel
    obtain ⟨A', n', c', rfl, hn'⟩ := hown.slice
    have HO := Lib.hid hown; clear hown
    have HN := Lib.hid hn'; clear hn'
    by_cases hlt : k < m
    · go_wp2
      go_loop [7, 8] (fun t i => ∃ (hb : Bool) (j : Nat), t = .bool hb ∧ j ≤ n ∧ i = .int .i64 j ∧ (hb = true ↔ (k : Int) ∈ xs.take j)) (fun _ i => n - (intOf i).toNat)
      case atStart => exact ⟨false, 0, rfl, Nat.zero_le _, rfl, by simp⟩
      case round =>
        obtain ⟨hb, j, rfl, hj, rfl, hiff⟩ := hrel
        have HI := Lib.hid hiff; clear hiff
        by_cases hjn : j < n
        · obtain ⟨b, o, x, rfl, hSb, hx0, e0⟩ := H1.out.int_at hjn
          have hx := Lib.hid hx0; clear hx0
          have e1 : wr.cell? ⟨b, o + j, none⟩ = some (.int .i64 x) := (HB.out.cell (p := ⟨b, o + j, none⟩) (hS b hSb)).trans e0
          clear e0
          cases hb
          · go_wp2
            go_round
            case rel => exact ⟨(x == (k : Int)), j + 1, rfl, by omega, by go_num, mts1 hx.out HI.out⟩
            case measure => simp [intOf]; omega
          · go_wp2
            go_round
            case rel => exact ⟨true, j + 1, rfl, by omega, by go_num, mts2 hx.out HI.out⟩
            case measure => simp [intOf]; omega
        · have hjn' : j = n := by omega
          have hj2 := Lib.hid hjn'; clear hjn'
          have e : xs.take j = xs := List.take_of_length_le (by rw [hl1.out, hj2.out]; exact Nat.le_refl _)
          have hi := HI.out
          rw [e] at hi
          clear e
          have hlen := refMarks_len xs k
          cases hb
          · have e := Lib.hid (show refMarks xs (k + 1) = refMarks xs k from if_neg (by simpa using hi))
            clear hi
            go_wp2
            go_roundw
            case rel => exact ⟨k + 1, by omega, by go_num, by rw [e.out]; exact HO.out, HB.out⟩
            case measure => simp [intOf]; omega
          · have e := Lib.hid (show refMarks xs (k + 1) = refMarks xs k ++ [(k : Int)] from if_pos (hi.1 rfl))
            clear hi
            go_wp2_with (at_builtin
                         refine wpList_append_new (α := Int) (w0 := w) rfl _ _ 32 rfl 8 Try.ints rfl HO.out HB.out [.int .i64 k] (k : Int) 1 rfl rfl 3 (by simp [Value.oneCell']) (by omega) ?_
                         intro v' w' hown' hbel' _ _
                         have HO' := Lib.hid hown'; clear hown'
                         have HB' := Lib.hid hbel'; clear hbel')
            go_roundw
            case rel => exact ⟨k + 1, by omega, by go_num, by rw [e.out]; exact HO'.out, HB'.out⟩
            case measure => simp [intOf]; omega
    · have hkn : k = m := by omega
      have hkn' := Lib.hid hkn; clear hkn
      go_wp2
      go_ret
      have h := HO.out
      rw [hkn'.out] at h
      exact ⟨_, _, _, rfl, h.rs (fun _ h => h.elim) (fun g h1 h2 => ⟨h1, h2⟩), HB.out⟩
end Go.Proofs.Ytofdjlngohhlmaa
