/- Sch1 Sch2 Sch3 -/
import Derived.Test.YtjlhbfbdcfajfaaGreatDoorG10
import Derived.Test.YtjlhbfbdcfajfaaGreatDoorG07
/- schema: the tables that are switches over a string: keys, kinds, named, capacity, length, bounds, choices. (Printed by wip/gen/sch1.py.) -/
namespace Go.Proofs.YtjlhbfbdcfajfaaGreatDoor
open Go.RowKit

def capacityP (k : ByteArray) : Int :=
  if k = (⟨#[99, 111, 110, 116, 101, 115, 116]⟩ : ByteArray) then 4 else
  6
set_option maxRecDepth 20000 in
set_option maxHeartbeats 1000000 in
theorem capacityP_ok (k : ByteArray) (w : World) : Calls Tryz.prog 122 #[.string k] w (RetW w (.int .i64 (capacityP k))) := by
  by_cases h1 : k = (⟨#[99, 111, 110, 116, 101, 115, 116]⟩ : ByteArray)
  · subst h1
    have hv : capacityP (⟨#[99, 111, 110, 116, 101, 115, 116]⟩ : ByteArray) = 4 := rfl
    rw [hv]
    go_enter Tryz.func122, Tryz.ntmps122
    go_wp2_with fail
    go_ret
    exact ⟨rfl, rfl⟩
  · have hv : capacityP k = 6 := by unfold capacityP; simp [h1]
    rw [hv]
    have eh1 : (k.toList == [99, 111, 110, 116, 101, 115, 116]) = false := str_ne (l := [99, 111, 110, 116, 101, 115, 116]) h1
    clear hv h1
    go_enter Tryz.func122, Tryz.ntmps122
    go_wp2_with fail
    go_ret
    exact ⟨rfl, rfl⟩

def lengthP (k : ByteArray) : Int :=
  if k = (⟨#[110, 97, 109, 101, 115]⟩ : ByteArray) ∨ k = (⟨#[112, 114, 101, 99, 105, 110, 99, 116, 115]⟩ : ByteArray) then 12 else
  if k = (⟨#[99, 111, 110, 116, 101, 115, 116, 115]⟩ : ByteArray) then 4 else
  if k = (⟨#[99, 97, 110, 100, 105, 100, 97, 116, 101, 115]⟩ : ByteArray) then 7 else
  0
set_option maxRecDepth 20000 in
set_option maxHeartbeats 1000000 in
theorem lengthP_ok (k : ByteArray) (w : World) : Calls Tryz.prog 123 #[.string k] w (RetW w (.int .i64 (lengthP k))) := by
  by_cases h1 : k = (⟨#[110, 97, 109, 101, 115]⟩ : ByteArray)
  · subst h1
    have hv : lengthP (⟨#[110, 97, 109, 101, 115]⟩ : ByteArray) = 12 := rfl
    rw [hv]
    go_enter Tryz.func123, Tryz.ntmps123
    go_wp2_with fail
    go_ret
    exact ⟨rfl, rfl⟩
  ·
    by_cases h2 : k = (⟨#[112, 114, 101, 99, 105, 110, 99, 116, 115]⟩ : ByteArray)
    · subst h2
      have hv : lengthP (⟨#[112, 114, 101, 99, 105, 110, 99, 116, 115]⟩ : ByteArray) = 12 := rfl
      rw [hv]
      go_enter Tryz.func123, Tryz.ntmps123
      go_wp2_with fail
      go_ret
      exact ⟨rfl, rfl⟩
    ·
      by_cases h3 : k = (⟨#[99, 111, 110, 116, 101, 115, 116, 115]⟩ : ByteArray)
      · subst h3
        have hv : lengthP (⟨#[99, 111, 110, 116, 101, 115, 116, 115]⟩ : ByteArray) = 4 := rfl
        rw [hv]
        go_enter Tryz.func123, Tryz.ntmps123
        go_wp2_with fail
        go_ret
        exact ⟨rfl, rfl⟩
      ·
        by_cases h4 : k = (⟨#[99, 97, 110, 100, 105, 100, 97, 116, 101, 115]⟩ : ByteArray)
        · subst h4
          have hv : lengthP (⟨#[99, 97, 110, 100, 105, 100, 97, 116, 101, 115]⟩ : ByteArray) = 7 := rfl
          rw [hv]
          go_enter Tryz.func123, Tryz.ntmps123
          go_wp2_with fail
          go_ret
          exact ⟨rfl, rfl⟩
        · have hv : lengthP k = 0 := by unfold lengthP; simp [h1, h2, h3, h4]
          rw [hv]
          have eh1 : (k.toList == [110, 97, 109, 101, 115]) = false := str_ne (l := [110, 97, 109, 101, 115]) h1
          have eh2 : (k.toList == [112, 114, 101, 99, 105, 110, 99, 116, 115]) = false := str_ne (l := [112, 114, 101, 99, 105, 110, 99, 116, 115]) h2
          have eh3 : (k.toList == [99, 111, 110, 116, 101, 115, 116, 115]) = false := str_ne (l := [99, 111, 110, 116, 101, 115, 116, 115]) h3
          have eh4 : (k.toList == [99, 97, 110, 100, 105, 100, 97, 116, 101, 115]) = false := str_ne (l := [99, 97, 110, 100, 105, 100, 97, 116, 101, 115]) h4
          clear hv h1 h2 h3 h4
          go_enter Tryz.func123, Tryz.ntmps123
          go_wp2_with fail
          go_ret
          exact ⟨rfl, rfl⟩

def namedP (k : ByteArray) : Bool :=
  if k = (⟨#[99, 111, 110, 116, 101, 115, 116]⟩ : ByteArray) then true else
  if k = (⟨#[115, 116, 121, 108, 101]⟩ : ByteArray) then true else
  false
set_option maxRecDepth 20000 in
set_option maxHeartbeats 1000000 in
theorem namedP_ok (k : ByteArray) (w : World) : Calls Tryz.prog 119 #[.string k] w (RetW w (.bool (namedP k))) := by
  by_cases h1 : k = (⟨#[99, 111, 110, 116, 101, 115, 116]⟩ : ByteArray)
  · subst h1
    have hv : namedP (⟨#[99, 111, 110, 116, 101, 115, 116]⟩ : ByteArray) = true := rfl
    rw [hv]
    go_enter Tryz.func119, Tryz.ntmps119
    go_wp2_with fail
    go_ret
    exact ⟨rfl, rfl⟩
  ·
    by_cases h2 : k = (⟨#[115, 116, 121, 108, 101]⟩ : ByteArray)
    · subst h2
      have hv : namedP (⟨#[115, 116, 121, 108, 101]⟩ : ByteArray) = true := rfl
      rw [hv]
      go_enter Tryz.func119, Tryz.ntmps119
      go_wp2_with fail
      go_ret
      exact ⟨rfl, rfl⟩
    · have hv : namedP k = false := by unfold namedP; simp [h1, h2]
      rw [hv]
      have eh1 : (k.toList == [99, 111, 110, 116, 101, 115, 116]) = false := str_ne (l := [99, 111, 110, 116, 101, 115, 116]) h1
      have eh2 : (k.toList == [115, 116, 121, 108, 101]) = false := str_ne (l := [115, 116, 121, 108, 101]) h2
      clear hv h1 h2
      go_enter Tryz.func119, Tryz.ntmps119
      go_wp2_with fail
      go_ret
      exact ⟨rfl, rfl⟩

def boundsP (k : ByteArray) : Int × Int :=
  if k = (⟨#[100, 111, 116, 115]⟩ : ByteArray) then (2, 7) else
  if k = (⟨#[98, 108, 97, 110, 107]⟩ : ByteArray) ∨ k = (⟨#[109, 97, 114, 107, 101, 100]⟩ : ByteArray) then (1, 100) else
  if k = (⟨#[99, 111, 117, 110, 116]⟩ : ByteArray) then (1, 6) else
  if k = (⟨#[98, 97, 116, 99, 104]⟩ : ByteArray) then (1, 16) else
  if k = (⟨#[115, 101, 97, 116, 115]⟩ : ByteArray) then (1, 5) else
  if k = (⟨#[114, 97, 110, 107, 115]⟩ : ByteArray) then (1, 7) else
  if k = (⟨#[100, 105, 103, 105, 116, 115]⟩ : ByteArray) then (1, 6) else
  if k = (⟨#[99, 101, 108, 108]⟩ : ByteArray) then (1, 400) else
  (0, 0)
set_option maxRecDepth 20000 in
set_option maxHeartbeats 1000000 in
theorem boundsP_ok (k : ByteArray) (w : World) : Calls Tryz.prog 151 #[.string k] w (RetW w (.tuple #[.int .i64 (boundsP k).1, .int .i64 (boundsP k).2])) := by
  by_cases h1 : k = (⟨#[100, 111, 116, 115]⟩ : ByteArray)
  · subst h1
    have hv : boundsP (⟨#[100, 111, 116, 115]⟩ : ByteArray) = (2, 7) := rfl
    rw [hv]
    go_enter Tryz.func151, Tryz.ntmps151
    go_wp2_with fail
    go_ret2
    exact ⟨rfl, rfl⟩
  ·
    by_cases h2 : k = (⟨#[98, 108, 97, 110, 107]⟩ : ByteArray)
    · subst h2
      have hv : boundsP (⟨#[98, 108, 97, 110, 107]⟩ : ByteArray) = (1, 100) := rfl
      rw [hv]
      go_enter Tryz.func151, Tryz.ntmps151
      go_wp2_with fail
      go_ret2
      exact ⟨rfl, rfl⟩
    ·
      by_cases h3 : k = (⟨#[109, 97, 114, 107, 101, 100]⟩ : ByteArray)
      · subst h3
        have hv : boundsP (⟨#[109, 97, 114, 107, 101, 100]⟩ : ByteArray) = (1, 100) := rfl
        rw [hv]
        go_enter Tryz.func151, Tryz.ntmps151
        go_wp2_with fail
        go_ret2
        exact ⟨rfl, rfl⟩
      ·
        by_cases h4 : k = (⟨#[99, 111, 117, 110, 116]⟩ : ByteArray)
        · subst h4
          have hv : boundsP (⟨#[99, 111, 117, 110, 116]⟩ : ByteArray) = (1, 6) := rfl
          rw [hv]
          go_enter Tryz.func151, Tryz.ntmps151
          go_wp2_with fail
          go_ret2
          exact ⟨rfl, rfl⟩
        ·
          by_cases h5 : k = (⟨#[98, 97, 116, 99, 104]⟩ : ByteArray)
          · subst h5
            have hv : boundsP (⟨#[98, 97, 116, 99, 104]⟩ : ByteArray) = (1, 16) := rfl
            rw [hv]
            go_enter Tryz.func151, Tryz.ntmps151
            go_wp2_with fail
            go_ret2
            exact ⟨rfl, rfl⟩
          ·
            by_cases h6 : k = (⟨#[115, 101, 97, 116, 115]⟩ : ByteArray)
            · subst h6
              have hv : boundsP (⟨#[115, 101, 97, 116, 115]⟩ : ByteArray) = (1, 5) := rfl
              rw [hv]
              go_enter Tryz.func151, Tryz.ntmps151
              go_wp2_with fail
              go_ret2
              exact ⟨rfl, rfl⟩
            ·
              by_cases h7 : k = (⟨#[114, 97, 110, 107, 115]⟩ : ByteArray)
              · subst h7
                have hv : boundsP (⟨#[114, 97, 110, 107, 115]⟩ : ByteArray) = (1, 7) := rfl
                rw [hv]
                go_enter Tryz.func151, Tryz.ntmps151
                go_wp2_with fail
                go_ret2
                exact ⟨rfl, rfl⟩
              ·
                by_cases h8 : k = (⟨#[100, 105, 103, 105, 116, 115]⟩ : ByteArray)
                · subst h8
                  have hv : boundsP (⟨#[100, 105, 103, 105, 116, 115]⟩ : ByteArray) = (1, 6) := rfl
                  rw [hv]
                  go_enter Tryz.func151, Tryz.ntmps151
                  go_wp2_with fail
                  go_ret2
                  exact ⟨rfl, rfl⟩
                ·
                  by_cases h9 : k = (⟨#[99, 101, 108, 108]⟩ : ByteArray)
                  · subst h9
                    have hv : boundsP (⟨#[99, 101, 108, 108]⟩ : ByteArray) = (1, 400) := rfl
                    rw [hv]
                    go_enter Tryz.func151, Tryz.ntmps151
                    go_wp2_with fail
                    go_ret2
                    exact ⟨rfl, rfl⟩
                  · have hv : boundsP k = (0, 0) := by unfold boundsP; simp [h1, h2, h3, h4, h5, h6, h7, h8, h9]
                    rw [hv]
                    have eh1 : (k.toList == [100, 111, 116, 115]) = false := str_ne (l := [100, 111, 116, 115]) h1
                    have eh2 : (k.toList == [98, 108, 97, 110, 107]) = false := str_ne (l := [98, 108, 97, 110, 107]) h2
                    have eh3 : (k.toList == [109, 97, 114, 107, 101, 100]) = false := str_ne (l := [109, 97, 114, 107, 101, 100]) h3
                    have eh4 : (k.toList == [99, 111, 117, 110, 116]) = false := str_ne (l := [99, 111, 117, 110, 116]) h4
                    have eh5 : (k.toList == [98, 97, 116, 99, 104]) = false := str_ne (l := [98, 97, 116, 99, 104]) h5
                    have eh6 : (k.toList == [115, 101, 97, 116, 115]) = false := str_ne (l := [115, 101, 97, 116, 115]) h6
                    have eh7 : (k.toList == [114, 97, 110, 107, 115]) = false := str_ne (l := [114, 97, 110, 107, 115]) h7
                    have eh8 : (k.toList == [100, 105, 103, 105, 116, 115]) = false := str_ne (l := [100, 105, 103, 105, 116, 115]) h8
                    have eh9 : (k.toList == [99, 101, 108, 108]) = false := str_ne (l := [99, 101, 108, 108]) h9
                    clear hv h1 h2 h3 h4 h5 h6 h7 h8 h9
                    go_enter Tryz.func151, Tryz.ntmps151
                    go_wp2_with fail
                    go_ret2
                    exact ⟨rfl, rfl⟩

/-- a list of strings in a new row, nil if it is empty -/
def RetTab (w : World) (xs : List ByteArray) (e : Ending) (w' : World) : Prop := ∃ A n c, e = .returned (.slice A n c) ∧ RS w' (Fresh w w') A n c xs ∧ (A = none ↔ xs = []) ∧ Below w.heap.size w w'
theorem retTab_lit (w : World) (x : ByteArray) (xs : List ByteArray) (hx : (x :: xs).length ≤ maxLen) : RetTab w (x :: xs) (.returned (.slice (some ⟨w.heap.size, 0, none⟩) (x :: xs).length (x :: xs).length)) (w.alloc (.cells ((x :: xs).map Value.string).toArray 9)) := by
  have ho := Own.lit w 9 ((x :: xs).map Value.string) (x :: xs) (by simp) rfl hx (Flat.strs _)
  exact ⟨_, _, _, rfl, ho.fresh (Nat.le_refl _), ⟨fun h => by simp at h, fun h => by simp at h⟩, (Below.refl _ _).alloc (Nat.le_refl _) _⟩
def keysP (k : ByteArray) : List ByteArray :=
  if k = (⟨#[115, 99, 97, 110]⟩ : ByteArray) then [(⟨#[100, 111, 116, 115]⟩ : ByteArray), (⟨#[98, 108, 97, 110, 107]⟩ : ByteArray), (⟨#[109, 97, 114, 107, 101, 100]⟩ : ByteArray)] else
  if k = (⟨#[115, 99, 97, 110, 110, 101, 114, 115]⟩ : ByteArray) then [(⟨#[99, 111, 117, 110, 116]⟩ : ByteArray), (⟨#[98, 97, 116, 99, 104]⟩ : ByteArray)] else
  if k = (⟨#[112, 114, 101, 99, 105, 110, 99, 116, 115]⟩ : ByteArray) then [(⟨#[110, 97, 109, 101, 115]⟩ : ByteArray)] else
  if k = (⟨#[99, 111, 110, 116, 101, 115, 116]⟩ : ByteArray) then [(⟨#[109, 101, 116, 104, 111, 100]⟩ : ByteArray), (⟨#[115, 101, 97, 116, 115]⟩ : ByteArray), (⟨#[114, 97, 110, 107, 115]⟩ : ByteArray), (⟨#[100, 105, 103, 105, 116, 115]⟩ : ByteArray), (⟨#[116, 105, 101, 115]⟩ : ByteArray), (⟨#[111, 118, 101, 114, 118, 111, 116, 101]⟩ : ByteArray), (⟨#[115, 107, 105, 112]⟩ : ByteArray), (⟨#[99, 97, 110, 100, 105, 100, 97, 116, 101, 115]⟩ : ByteArray)] else
  if k = (⟨#[115, 116, 121, 108, 101]⟩ : ByteArray) then [(⟨#[112, 114, 101, 99, 105, 110, 99, 116, 115]⟩ : ByteArray), (⟨#[99, 111, 110, 116, 101, 115, 116, 115]⟩ : ByteArray)] else
  if k = (⟨#[97, 117, 100, 105, 116]⟩ : ByteArray) then [(⟨#[114, 105, 115, 107]⟩ : ByteArray), (⟨#[115, 101, 101, 100]⟩ : ByteArray)] else
  if k = (⟨#[112, 114, 105, 118, 97, 99, 121]⟩ : ByteArray) then [(⟨#[99, 101, 108, 108]⟩ : ByteArray)] else
  []
set_option maxRecDepth 20000 in
set_option maxHeartbeats 1000000 in
theorem keysP_ok (k : ByteArray) (w : World) : Calls Tryz.prog 118 #[.string k] w (RetTab w (keysP k)) := by
  by_cases h1 : k = (⟨#[115, 99, 97, 110]⟩ : ByteArray)
  · subst h1
    have hv : keysP (⟨#[115, 99, 97, 110]⟩ : ByteArray) = [(⟨#[100, 111, 116, 115]⟩ : ByteArray), (⟨#[98, 108, 97, 110, 107]⟩ : ByteArray), (⟨#[109, 97, 114, 107, 101, 100]⟩ : ByteArray)] := rfl
    rw [hv]
    go_enter Tryz.func118, Tryz.ntmps118
    go_wp2_with fail
    go_ret
    exact retTab_lit w _ _ (by decide)
  ·
    by_cases h2 : k = (⟨#[115, 99, 97, 110, 110, 101, 114, 115]⟩ : ByteArray)
    · subst h2
      have hv : keysP (⟨#[115, 99, 97, 110, 110, 101, 114, 115]⟩ : ByteArray) = [(⟨#[99, 111, 117, 110, 116]⟩ : ByteArray), (⟨#[98, 97, 116, 99, 104]⟩ : ByteArray)] := rfl
      rw [hv]
      go_enter Tryz.func118, Tryz.ntmps118
      go_wp2_with fail
      go_ret
      exact retTab_lit w _ _ (by decide)
    ·
      by_cases h3 : k = (⟨#[112, 114, 101, 99, 105, 110, 99, 116, 115]⟩ : ByteArray)
      · subst h3
        have hv : keysP (⟨#[112, 114, 101, 99, 105, 110, 99, 116, 115]⟩ : ByteArray) = [(⟨#[110, 97, 109, 101, 115]⟩ : ByteArray)] := rfl
        rw [hv]
        go_enter Tryz.func118, Tryz.ntmps118
        go_wp2_with fail
        go_ret
        exact retTab_lit w _ _ (by decide)
      ·
        by_cases h4 : k = (⟨#[99, 111, 110, 116, 101, 115, 116]⟩ : ByteArray)
        · subst h4
          have hv : keysP (⟨#[99, 111, 110, 116, 101, 115, 116]⟩ : ByteArray) = [(⟨#[109, 101, 116, 104, 111, 100]⟩ : ByteArray), (⟨#[115, 101, 97, 116, 115]⟩ : ByteArray), (⟨#[114, 97, 110, 107, 115]⟩ : ByteArray), (⟨#[100, 105, 103, 105, 116, 115]⟩ : ByteArray), (⟨#[116, 105, 101, 115]⟩ : ByteArray), (⟨#[111, 118, 101, 114, 118, 111, 116, 101]⟩ : ByteArray), (⟨#[115, 107, 105, 112]⟩ : ByteArray), (⟨#[99, 97, 110, 100, 105, 100, 97, 116, 101, 115]⟩ : ByteArray)] := rfl
          rw [hv]
          go_enter Tryz.func118, Tryz.ntmps118
          go_wp2_with fail
          go_ret
          exact retTab_lit w _ _ (by decide)
        ·
          by_cases h5 : k = (⟨#[115, 116, 121, 108, 101]⟩ : ByteArray)
          · subst h5
            have hv : keysP (⟨#[115, 116, 121, 108, 101]⟩ : ByteArray) = [(⟨#[112, 114, 101, 99, 105, 110, 99, 116, 115]⟩ : ByteArray), (⟨#[99, 111, 110, 116, 101, 115, 116, 115]⟩ : ByteArray)] := rfl
            rw [hv]
            go_enter Tryz.func118, Tryz.ntmps118
            go_wp2_with fail
            go_ret
            exact retTab_lit w _ _ (by decide)
          ·
            by_cases h6 : k = (⟨#[97, 117, 100, 105, 116]⟩ : ByteArray)
            · subst h6
              have hv : keysP (⟨#[97, 117, 100, 105, 116]⟩ : ByteArray) = [(⟨#[114, 105, 115, 107]⟩ : ByteArray), (⟨#[115, 101, 101, 100]⟩ : ByteArray)] := rfl
              rw [hv]
              go_enter Tryz.func118, Tryz.ntmps118
              go_wp2_with fail
              go_ret
              exact retTab_lit w _ _ (by decide)
            ·
              by_cases h7 : k = (⟨#[112, 114, 105, 118, 97, 99, 121]⟩ : ByteArray)
              · subst h7
                have hv : keysP (⟨#[112, 114, 105, 118, 97, 99, 121]⟩ : ByteArray) = [(⟨#[99, 101, 108, 108]⟩ : ByteArray)] := rfl
                rw [hv]
                go_enter Tryz.func118, Tryz.ntmps118
                go_wp2_with fail
                go_ret
                exact retTab_lit w _ _ (by decide)
              · have hv : keysP k = [] := by unfold keysP; simp [h1, h2, h3, h4, h5, h6, h7]
                rw [hv]
                have eh1 : (k.toList == [115, 99, 97, 110]) = false := str_ne (l := [115, 99, 97, 110]) h1
                have eh2 : (k.toList == [115, 99, 97, 110, 110, 101, 114, 115]) = false := str_ne (l := [115, 99, 97, 110, 110, 101, 114, 115]) h2
                have eh3 : (k.toList == [112, 114, 101, 99, 105, 110, 99, 116, 115]) = false := str_ne (l := [112, 114, 101, 99, 105, 110, 99, 116, 115]) h3
                have eh4 : (k.toList == [99, 111, 110, 116, 101, 115, 116]) = false := str_ne (l := [99, 111, 110, 116, 101, 115, 116]) h4
                have eh5 : (k.toList == [115, 116, 121, 108, 101]) = false := str_ne (l := [115, 116, 121, 108, 101]) h5
                have eh6 : (k.toList == [97, 117, 100, 105, 116]) = false := str_ne (l := [97, 117, 100, 105, 116]) h6
                have eh7 : (k.toList == [112, 114, 105, 118, 97, 99, 121]) = false := str_ne (l := [112, 114, 105, 118, 97, 99, 121]) h7
                clear hv h1 h2 h3 h4 h5 h6 h7
                go_enter Tryz.func118, Tryz.ntmps118
                go_wp2_with fail
                go_ret
                exact ⟨none, 0, 0, rfl, RS.nil _ _, ⟨fun _ => rfl, fun _ => rfl⟩, Below.refl _ _⟩

def choicesP (k : ByteArray) : List ByteArray :=
  if k = (⟨#[109, 101, 116, 104, 111, 100]⟩ : ByteArray) then [(⟨#[105, 114, 118]⟩ : ByteArray), (⟨#[109, 101, 101, 107]⟩ : ByteArray), (⟨#[103, 114, 101, 103, 111, 114, 121]⟩ : ByteArray)] else
  if k = (⟨#[116, 105, 101, 115]⟩ : ByteArray) then [(⟨#[98, 97, 99, 107, 119, 97, 114, 100, 115]⟩ : ByteArray), (⟨#[102, 111, 114, 119, 97, 114, 100, 115]⟩ : ByteArray), (⟨#[108, 111, 116]⟩ : ByteArray)] else
  if k = (⟨#[111, 118, 101, 114, 118, 111, 116, 101]⟩ : ByteArray) then [(⟨#[115, 116, 111, 112]⟩ : ByteArray), (⟨#[115, 107, 105, 112]⟩ : ByteArray)] else
  if k = (⟨#[115, 107, 105, 112]⟩ : ByteArray) then [(⟨#[99, 108, 111, 115, 101]⟩ : ByteArray), (⟨#[115, 116, 111, 112]⟩ : ByteArray), (⟨#[116, 119, 111]⟩ : ByteArray)] else
  []
set_option maxRecDepth 20000 in
set_option maxHeartbeats 1000000 in
theorem choicesP_ok (k : ByteArray) (w : World) : Calls Tryz.prog 128 #[.string k] w (RetTab w (choicesP k)) := by
  by_cases h1 : k = (⟨#[109, 101, 116, 104, 111, 100]⟩ : ByteArray)
  · subst h1
    have hv : choicesP (⟨#[109, 101, 116, 104, 111, 100]⟩ : ByteArray) = [(⟨#[105, 114, 118]⟩ : ByteArray), (⟨#[109, 101, 101, 107]⟩ : ByteArray), (⟨#[103, 114, 101, 103, 111, 114, 121]⟩ : ByteArray)] := rfl
    rw [hv]
    go_enter Tryz.func128, Tryz.ntmps128
    go_wp2_with fail
    go_ret
    exact retTab_lit w _ _ (by decide)
  ·
    by_cases h2 : k = (⟨#[116, 105, 101, 115]⟩ : ByteArray)
    · subst h2
      have hv : choicesP (⟨#[116, 105, 101, 115]⟩ : ByteArray) = [(⟨#[98, 97, 99, 107, 119, 97, 114, 100, 115]⟩ : ByteArray), (⟨#[102, 111, 114, 119, 97, 114, 100, 115]⟩ : ByteArray), (⟨#[108, 111, 116]⟩ : ByteArray)] := rfl
      rw [hv]
      go_enter Tryz.func128, Tryz.ntmps128
      go_wp2_with fail
      go_ret
      exact retTab_lit w _ _ (by decide)
    ·
      by_cases h3 : k = (⟨#[111, 118, 101, 114, 118, 111, 116, 101]⟩ : ByteArray)
      · subst h3
        have hv : choicesP (⟨#[111, 118, 101, 114, 118, 111, 116, 101]⟩ : ByteArray) = [(⟨#[115, 116, 111, 112]⟩ : ByteArray), (⟨#[115, 107, 105, 112]⟩ : ByteArray)] := rfl
        rw [hv]
        go_enter Tryz.func128, Tryz.ntmps128
        go_wp2_with fail
        go_ret
        exact retTab_lit w _ _ (by decide)
      ·
        by_cases h4 : k = (⟨#[115, 107, 105, 112]⟩ : ByteArray)
        · subst h4
          have hv : choicesP (⟨#[115, 107, 105, 112]⟩ : ByteArray) = [(⟨#[99, 108, 111, 115, 101]⟩ : ByteArray), (⟨#[115, 116, 111, 112]⟩ : ByteArray), (⟨#[116, 119, 111]⟩ : ByteArray)] := rfl
          rw [hv]
          go_enter Tryz.func128, Tryz.ntmps128
          go_wp2_with fail
          go_ret
          exact retTab_lit w _ _ (by decide)
        · have hv : choicesP k = [] := by unfold choicesP; simp [h1, h2, h3, h4]
          rw [hv]
          have eh1 : (k.toList == [109, 101, 116, 104, 111, 100]) = false := str_ne (l := [109, 101, 116, 104, 111, 100]) h1
          have eh2 : (k.toList == [116, 105, 101, 115]) = false := str_ne (l := [116, 105, 101, 115]) h2
          have eh3 : (k.toList == [111, 118, 101, 114, 118, 111, 116, 101]) = false := str_ne (l := [111, 118, 101, 114, 118, 111, 116, 101]) h3
          have eh4 : (k.toList == [115, 107, 105, 112]) = false := str_ne (l := [115, 107, 105, 112]) h4
          clear hv h1 h2 h3 h4
          go_enter Tryz.func128, Tryz.ntmps128
          go_wp2_with fail
          go_ret
          exact ⟨none, 0, 0, rfl, RS.nil _ _, ⟨fun _ => rfl, fun _ => rfl⟩, Below.refl _ _⟩

def kindsP : List ByteArray := [(⟨#[115, 99, 97, 110]⟩ : ByteArray), (⟨#[115, 99, 97, 110, 110, 101, 114, 115]⟩ : ByteArray), (⟨#[112, 114, 101, 99, 105, 110, 99, 116, 115]⟩ : ByteArray), (⟨#[99, 111, 110, 116, 101, 115, 116]⟩ : ByteArray), (⟨#[115, 116, 121, 108, 101]⟩ : ByteArray), (⟨#[97, 117, 100, 105, 116]⟩ : ByteArray), (⟨#[112, 114, 105, 118, 97, 99, 121]⟩ : ByteArray)]
theorem kinds_ok (w : World) : Calls Tryz.prog 66 #[] w (RetTab w kindsP) := by
  go_enter Tryz.func66, Tryz.ntmps66
  go_wp2_with fail
  go_ret
  exact retTab_lit w _ _ (by decide)
end Go.Proofs.YtjlhbfbdcfajfaaGreatDoor
/- schema: printable, number. -/
namespace Go.Proofs.YtjlhbfbdcfajfaaGreatDoor
open Go.RowKit

/-- from lo to hi printable bytes -/
def printP (s : ByteArray) (lo hi : Int) : Bool := plainL s.data.toList && (decide (lo ≤ (s.size : Int)) && decide ((s.size : Int) ≤ hi))

theorem print_ok (s : ByteArray) (lo hi : Int) (w : World) (hs : s.size ≤ 17592186044416) : Calls Tryz.prog 64 #[.string s, .int .i64 lo, .int .i64 hi] w (RetV w (.bool (printP s lo hi))) := by
  have hq := quote_ok s w hs
  obtain ⟨b, hb⟩ : ∃ b, plainL s.data.toList = b := ⟨_, rfl⟩
  rw [hb] at hq
  obtain ⟨t, ht⟩ : ∃ t : ByteArray, (if b then ⟨(quoteL s.data.toList).toArray⟩ else ⟨#[]⟩) = t := ⟨_, rfl⟩
  rw [ht] at hq
  have HQ := Lib.hid hq
  obtain ⟨z, hz⟩ : ∃ z, printP s lo hi = z := ⟨_, rfl⟩
  have hzz : (b && (decide (lo ≤ (s.size : Int)) && decide ((s.size : Int) ≤ hi))) = z := by rw [← hb]; exact hz
  rw [hz]
  have HZ := Lib.hid hzz
  clear hq hb ht hz hzz
  go_enter Tryz.func64, Tryz.ntmps64
  go_wp2_with fail
  refine HQ.out.mono ?_
  rintro e w2 ⟨rfl, hb⟩
  have HB := Lib.hid hb
  clear hb
  cases b with
  | false =>
    have hzf : z = false := by rw [← HZ.out]; rfl
    have HZF := Lib.hid hzf
    clear hzf
    go_wp2_with fail
    go_ret
    exact ⟨by rw [HZF.out]; rfl, HB.out⟩
  | true =>
    by_cases h1 : lo ≤ (s.size : Int)
    · have d1 : (lo ≤ (s.size : Int)) = True := eq_true h1
      by_cases h2 : (s.size : Int) ≤ hi
      · have hzf : z = true := by rw [← HZ.out, decide_eq_true h1, decide_eq_true h2]; rfl
        have HZF := Lib.hid hzf
        have d2 : ((s.size : Int) ≤ hi) = True := eq_true h2
        clear hzf h1 h2
        go_wp2_with fail
        go_ret
        exact ⟨by rw [HZF.out]; rfl, HB.out⟩
      · have hzf : z = false := by rw [← HZ.out, decide_eq_true h1, decide_eq_false h2]; rfl
        have HZF := Lib.hid hzf
        have d2 : ((s.size : Int) ≤ hi) = False := eq_false h2
        clear hzf h1 h2
        go_wp2_with fail
        go_ret
        exact ⟨by rw [HZF.out]; rfl, HB.out⟩
    · have hzf : z = false := by rw [← HZ.out, decide_eq_false h1]; simp
      have HZF := Lib.hid hzf
      have d1 : (lo ≤ (s.size : Int)) = False := eq_false h1
      clear hzf h1
      go_wp2_with fail
      go_ret
      exact ⟨by rw [HZF.out]; rfl, HB.out⟩

/-- is the text a number of at most six digits? -/
def isNum (l : List UInt8) : Bool := decide (l ≠ []) && decide (numLen l = l.length)
def numP (l : List UInt8) : Int × Bool := if isNum l then (((Lib.decNat l).getD 0 : Nat), true) else (0, false)

theorem takeWhile_all_of {p : UInt8 → Bool} : ∀ {l : List UInt8}, (l.takeWhile p).length = l.length → ∀ x ∈ l, p x = true
  | [], _ => by simp
  | y :: l, h => by
    rw [List.takeWhile_cons] at h
    split at h
    · rename_i hy
      simp only [List.length_cons] at h
      intro x hx
      rcases List.mem_cons.1 hx with rfl | hx
      · exact hy
      · exact takeWhile_all_of (by omega) x hx
    · simp at h
theorem isNum_spec {l : List UInt8} (h : isNum l = true) : l ≠ [] ∧ l.length ≤ 6 ∧ ∀ x ∈ l, digitB x = true := by
  unfold isNum at h
  rw [Bool.and_eq_true, decide_eq_true_iff, decide_eq_true_iff] at h
  obtain ⟨h0, h1⟩ := h
  have hp : 0 < l.length := List.length_pos_iff.2 h0
  unfold numLen at h1
  split at h1
  · omega
  · rename_i hn
    refine ⟨h0, by omega, takeWhile_all_of h1⟩
theorem digitVal_of {x : UInt8} (h : digitB x = true) : ∃ d, Lib.digitVal x = some d := by
  unfold digitB at h
  rw [Bool.and_eq_true, decide_eq_true_iff, decide_eq_true_iff] at h
  unfold Lib.digitVal
  exact ⟨_, if_pos ⟨h.1, h.2⟩⟩
theorem decFrom_all : ∀ (l : List UInt8) (acc : Nat), (∀ x ∈ l, digitB x = true) → ∃ n, Lib.decFrom acc l = some n
  | [], acc, _ => ⟨acc, rfl⟩
  | x :: l, acc, h => by
    obtain ⟨d, hd⟩ := digitVal_of (h x (by simp))
    obtain ⟨n, hn⟩ := decFrom_all l (acc * 10 + d) (fun y hy => h y (by simp [hy]))
    exact ⟨n, by simp [Lib.decFrom, hd, hn]⟩
theorem atoi_num {l : List UInt8} (h : isNum l = true) : Lib.atoi l = some (((Lib.decNat l).getD 0 : Nat) : Int) := by
  obtain ⟨h0, _, h2⟩ := isNum_spec h
  cases l with
  | nil => exact absurd rfl h0
  | cons x l =>
    obtain ⟨n, hn⟩ := decFrom_all (x :: l) 0 h2
    have hx := h2 x (by simp)
    unfold digitB at hx
    rw [Bool.and_eq_true, decide_eq_true_iff, decide_eq_true_iff] at hx
    have e1 : (x == 45) = false := by rw [beq_eq_false_iff_ne]; rintro rfl; simp at hx
    have e2 : (x == 43) = false := by rw [beq_eq_false_iff_ne]; rintro rfl; simp at hx
    have e3 : Lib.decNat (x :: l) = some n := by simpa [Lib.decNat] using hn
    unfold Lib.atoi
    simp [e1, e2, e3]

theorem slash_iff (l : List UInt8) : decide (0 ≤ Lib.indexByte l 47) = cutF l := by
  rcases indexByte_cases l with h | ⟨k, hk, h1, h2, _⟩
  · rw [h, (cut_none h).2.2]; rfl
  · rw [hk, (cut_some h1 h2).2.2]; simp
theorem word_head {x : UInt8} {l : List UInt8} (h : wordLen (x :: l) = (x :: l).length) : 57 < x.toNat := by
  unfold wordLen at h
  simp only at h
  split at h
  · rename_i hl
    unfold letterB at hl
    rw [Bool.and_eq_true, decide_eq_true_iff, decide_eq_true_iff] at hl
    omega
  · simp at h
theorem isNum_iff {x : UInt8} {l : List UInt8} : isNum (x :: l) = (bareL (x :: l) && (decide (x.toNat ≤ 57) && !cutF (x :: l))) := by
  rw [Bool.eq_iff_iff]
  constructor
  · intro h
    obtain ⟨_, _, h2⟩ := isNum_spec h
    have hn : numLen (x :: l) = (x :: l).length := by
      unfold isNum at h
      rw [Bool.and_eq_true, decide_eq_true_iff, decide_eq_true_iff] at h
      exact h.2
    have hb : bareL (x :: l) = true := by unfold bareL; rw [if_neg (by simp), if_pos (.inr hn)]
    have hx := h2 x (by simp)
    unfold digitB at hx
    rw [Bool.and_eq_true, decide_eq_true_iff, decide_eq_true_iff] at hx
    have hc : cutF (x :: l) = false := by
      unfold cutF
      rw [Bool.eq_false_iff]
      intro hc
      have := h2 _ (List.contains_iff_mem.1 hc)
      simp [digitB] at this
    rw [hb, hc, decide_eq_true hx.2]; rfl
  · intro h
    simp only [Bool.and_eq_true, decide_eq_true_iff, Bool.not_eq_true'] at h
    obtain ⟨h1, h2, h3⟩ := h
    unfold bareL at h1
    rw [if_neg (by simp)] at h1
    split at h1
    · rename_i hw
      rcases hw with hw | hw
      · have := word_head hw; omega
      · unfold isNum; rw [decide_eq_true hw]; simp
    · rw [h3] at h1; simp at h1

/-- a number's text and what it denotes -/
theorem num_ok (s : ByteArray) (w : World) (hs : s.size ≤ 9223372036854775807) : Calls Tryz.prog 150 #[.string s] w (RetV w (.tuple #[.int .i64 (numP s.data.toList).1, .bool (numP s.data.toList).2])) := by
  have hb := bare_ok s w hs
  by_cases h0 : s = ⟨#[]⟩
  · subst h0
    have hbf : bareL (⟨#[]⟩ : ByteArray).data.toList = false := rfl
    rw [hbf] at hb
    have HB := Lib.hid hb
    clear hb hbf
    go_enter Tryz.func150, Tryz.ntmps150
    go_wp2_with fail
    refine HB.out.mono ?_
    rintro e w2 ⟨rfl, hb⟩
    have HB2 := Lib.hid hb
    clear hb
    go_wp2_with fail
    go_ret2
    exact ⟨rfl, HB2.out⟩
  · have hpos : 0 < s.size := by
      rcases Nat.eq_zero_or_pos s.size with h | h
      · exact absurd (ByteArray.ext (Array.eq_empty_of_size_eq_zero h)) h0
      · exact h
    have hx := str_at hpos
    obtain ⟨x, hxx⟩ : ∃ x, s[0] = x := ⟨_, rfl⟩
    rw [hxx] at hx
    obtain ⟨l, hl⟩ : ∃ l, s.data.toList = x :: l := by
      cases hd : s.data.toList with
      | nil => rw [hd] at hx; cases hx
      | cons y l => rw [hd] at hx; simp at hx; subst hx; exact ⟨l, rfl⟩
    have hni := @isNum_iff x l
    rw [← hl] at hni
    obtain ⟨b, hbb⟩ : ∃ b, bareL s.data.toList = b := ⟨_, rfl⟩
    obtain ⟨r, hr⟩ : ∃ r, numP s.data.toList = r := ⟨_, rfl⟩
    have hnp : r = if isNum s.data.toList then ((((Lib.decNat s.data.toList).getD 0 : Nat) : Int), true) else (0, false) := by rw [← hr]; rfl
    rw [hbb] at hb hni
    rw [hr]
    have hc : ∀ w, Calls Tryz.prog 179 #[.string s, .string ⟨#[47]⟩] w (RetW w (.bool (cutF s.data.toList))) := fun w =>
      (Tryz.strings_Contains_one s 47 w).mono fun e w' h => ⟨by rw [h.1, slash_iff], h.2.symm⟩
    obtain ⟨n, hn⟩ : ∃ n, x.toNat = n := ⟨_, rfl⟩
    have hn2 : n < 256 := by rw [← hn]; exact x.toNat_lt
    rw [hn] at hni
    obtain ⟨c, hcc⟩ : ∃ c, cutF s.data.toList = c := ⟨_, rfl⟩
    rw [hcc] at hc hni
    have hat : isNum s.data.toList = true → ∀ w, Calls Tryz.prog 180 #[.string s] w (RetV w (.tuple #[.int .i64 (((Lib.decNat s.data.toList).getD 0 : Nat) : Int), .nilIface])) := fun h w => by
      refine (Tryz.strconv_Atoi s _ (by have := (isNum_spec h).2.1; rw [str_len] at this; omega) (atoi_num h) w).mono ?_
      rintro e w' ⟨h1, t, rfl⟩
      exact ⟨h1, ⟨rfl, rfl, rfl, by rw [Lib.bytesWorld_size]; exact Nat.le_succ _, fun k hk => Lib.bytesWorld_at_old w _ t k hk⟩⟩
    have HB := Lib.hid hb
    have HNI := Lib.hid hni
    have HNP := Lib.hid hnp
    have HC := Lib.hid hc
    have HAT := Lib.hid hat
    clear hb hni hnp hc hat hbb hr hcc hx hl h0
    go_enter Tryz.func150, Tryz.ntmps150
    go_wp2_with fail
    refine HB.out.mono ?_
    rintro e w2 ⟨rfl, hb2⟩
    have HB2 := Lib.hid hb2
    clear hb2
    cases b with
    | false =>
      have hrf : r = (0, false) := by rw [HNP.out, if_neg (by rw [HNI.out]; simp)]
      have HRF := Lib.hid hrf
      clear hrf
      go_wp2_with fail
      go_ret2
      exact ⟨by rw [HRF.out]; rfl, HB2.out⟩
    | true =>
      by_cases h57 : n ≤ 57
      · have d57 : (57 < (n : Int)) = False := eq_false (by omega)
        cases c with
        | true =>
          have hrf : r = (0, false) := by rw [HNP.out, if_neg (by rw [HNI.out]; simp)]
          have HRF := Lib.hid hrf
          clear hrf h57
          go_wp2_with fail
          refine (HC.out _).mono ?_
          rintro e w' ⟨rfl, rfl⟩
          go_wp2_with fail
          go_ret2
          exact ⟨by rw [HRF.out]; rfl, HB2.out⟩
        | false =>
          have hin : isNum s.data.toList = true := by rw [HNI.out, decide_eq_true h57]; rfl
          have hrf : r = ((((Lib.decNat s.data.toList).getD 0 : Nat) : Int), true) := by rw [HNP.out, if_pos hin]
          have hat := HAT.out hin
          obtain ⟨m, hm⟩ : ∃ m, (Lib.decNat s.data.toList).getD 0 = m := ⟨_, rfl⟩
          rw [hm] at hrf hat
          have HRF := Lib.hid hrf
          have HA := Lib.hid hat
          clear hrf h57 hin hat hm
          go_wp2_with fail
          refine (HC.out _).mono ?_
          rintro e w' ⟨rfl, rfl⟩
          go_wp2_with fail
          refine (HA.out _).mono ?_
          rintro e w3 ⟨rfl, hb3⟩
          have HB3 := Lib.hid (below_more HB2.out hb3)
          clear hb3
          go_wp2_with fail
          go_quiet (fail)
          go_wp2_with fail
          go_ret2
          exact ⟨by rw [HRF.out]; rfl, below_drewN HB3.out _⟩
      · have hrf : r = (0, false) := by rw [HNP.out, if_neg (by rw [HNI.out, decide_eq_false h57]; simp)]
        have d57 : (57 < (n : Int)) = True := eq_true (by omega)
        have HRF := Lib.hid hrf
        clear hrf h57
        go_wp2_with fail
        go_ret2
        exact ⟨by rw [HRF.out]; rfl, HB2.out⟩
end Go.Proofs.YtjlhbfbdcfajfaaGreatDoor
/- schema: list. -/
namespace Go.Proofs.YtjlhbfbdcfajfaaGreatDoor
open Go.RowKit

/-- the error of a list of names, behind those in pre -/
def listGo (most : Int) : List ByteArray → List ByteArray → Int
  | _, [] => 0
  | pre, s :: r => if (pre.length : Int) = most then 7 else if printP s 1 24 = false then 8 else if Lib.containsS pre s then 3 else listGo most (pre ++ [s]) r
def listP (l : List ByteArray) (most : Int) : Int := if l = [] then 7 else listGo most [] l
/-- no string is longer than a machine can hold -/
def Sane (s : ByteArray) : Prop := s.size ≤ 17592186044416

set_option maxRecDepth 20000 in
set_option maxHeartbeats 1000000 in
theorem list_ok {S : Nat → Prop} {A : Option Addr} {n c : Nat} {xs : List ByteArray} {w : World} (most : Int) (h : RS w S A n c xs) (hS : ∀ b, S b → b < w.heap.size) (hs : ∀ s ∈ xs, Sane s) :
    Calls Tryz.prog 124 #[.slice A n c, .int .i64 most] w (RetV w (.int .i64 (listP xs most))) := by
  have hm := h.max
  have H := Lib.hid h
  have HL := Lib.hid h.len
  have HSA := Lib.hid hs
  obtain ⟨z, hz⟩ : ∃ z, listP xs most = z := ⟨_, rfl⟩
  have hzz : z = if xs = [] then 7 else listGo most [] xs := hz.symm
  rw [hz]
  have HZ := Lib.hid hzz
  clear h hs hz hzz
  go_enter Tryz.func124, Tryz.ntmps124
  rcases Nat.eq_zero_or_pos n with h0 | h0
  · subst h0
    have hzf : z = 7 := by rw [HZ.out, if_pos (List.length_eq_zero_iff.1 HL.out)]
    have HZF := Lib.hid hzf
    clear hzf
    go_wp2_with fail
    go_ret
    exact ⟨by rw [HZF.out]; rfl, Below.refl _ _⟩
  · have hb0 : ((n : Int) == 0) = false := by rw [beq_eq_false_iff_ne]; omega
    have hz1 : z = listGo most [] xs := by
      rw [HZ.out, if_neg]
      intro e
      have := HL.out
      rw [e] at this
      simp at this
      omega
    have HZ1 := Lib.hid hz1
    clear hz1
    go_wp2_with fail
    go_loopw [12] (fun iv wr => ∃ k : Nat, iv = .int .i64 k ∧ k ≤ n ∧ z = listGo most (xs.take k) (xs.drop k) ∧ Below w.heap.size w wr) (fun iv _ => n - (intOf iv).toNat)
    case atStart => exact ⟨0, rfl, Nat.zero_le _, by simpa using HZ1.out, Below.refl _ _⟩
    case round =>
      clear HZ1 HZ
      obtain ⟨k, rfl, hk, hzk, hb⟩ := hrel
      have HZK := Lib.hid hzk
      have HB := Lib.hid hb
      have HR := Lib.hid (H.out.below hb hS)
      clear hzk hb
      by_cases hlt : k < n
      · have hlt2 : (k : Int) < (n : Int) := by omega
        have hkc : (k : Int) ≤ (c : Int) := by have := H.out.cap; omega
        have hkc2 : k ≤ c := by omega
        obtain ⟨b, o, x, rfl, _, hx, e1⟩ := HR.out.str_at hlt
        have hxm : x ∈ xs := List.mem_of_getElem? hx
        have hp := print_ok x 1 24 wr (HSA.out x hxm)
        have hdrop := drop_cons hx
        have htl : (xs.take k).length = k := by rw [List.length_take, HL.out]; omega
        have hzk : z = if (k : Int) = most then 7 else if printP x 1 24 = false then 8 else if Lib.containsS (xs.take k) x then 3 else listGo most (xs.take (k + 1)) (xs.drop (k + 1)) := by
          rw [HZK.out, hdrop, listGo, htl, take_snoc hx]
        obtain ⟨pb, hpb⟩ : ∃ pb, printP x 1 24 = pb := ⟨_, rfl⟩
        obtain ⟨cb, hcb⟩ : ∃ cb, Lib.containsS (xs.take k) x = cb := ⟨_, rfl⟩
        rw [hpb] at hp
        rw [hpb, hcb] at hzk
        have HP := Lib.hid hp
        have HK2 := Lib.hid hzk
        have HCB := Lib.hid hcb
        clear hp hzk hx hdrop htl hpb hcb hxm
        by_cases h1 : (k : Int) = most
        · have hq : ((k : Int) == most) = true := by rw [beq_iff_eq]; exact h1
          have hzf : z = 7 := by rw [HK2.out, if_pos h1]
          have HZF := Lib.hid hzf
          clear hzf h1
          go_wp2_with fail
          go_ret
          exact ⟨by rw [HZF.out]; rfl, HB.out⟩
        · have hq : ((k : Int) == most) = false := by rw [beq_eq_false_iff_ne]; exact h1
          have hz2 := HK2.out
          rw [if_neg h1] at hz2
          have HK3 := Lib.hid hz2
          clear hz2 h1
          go_wp2_with fail
          refine HP.out.mono ?_
          rintro e w2 ⟨rfl, hb2⟩
          have HB2 := Lib.hid (below_more HB.out hb2)
          clear hb2
          cases pb with
          | false =>
            have hzf : z = 8 := by rw [HK3.out, if_pos rfl]
            have HZF := Lib.hid hzf
            clear hzf
            go_wp2_with fail
            go_ret
            exact ⟨by rw [HZF.out]; rfl, HB2.out⟩
          | true =>
            have hc := containsS_ok ((H.out.below HB2.out hS).take (k := k) hk) x
            rw [HCB.out] at hc
            have HC := Lib.hid hc
            clear hc
            go_wp2_with fail
            refine HC.out.mono ?_
            rintro e w' ⟨rfl, rfl⟩
            cases cb with
            | true =>
              have hzf : z = 3 := by rw [HK3.out, if_neg (by simp), if_pos rfl]
              have HZF := Lib.hid hzf
              clear hzf
              go_wp2_with fail
              go_ret
              exact ⟨by rw [HZF.out]; rfl, HB2.out⟩
            | false =>
              go_wp2_with fail
              go_roundw
              case rel => exact ⟨k + 1, by go_num, by omega, by rw [HK3.out, if_neg (by simp), if_neg (by simp)], HB2.out⟩
              case measure => simp [intOf]; omega
      · have hkn : k = n := by omega
        have hzf : z = 0 := by
          rw [HZK.out, List.drop_eq_nil_of_le (by rw [HL.out]; omega)]
          rfl
        have HZF := Lib.hid hzf
        clear hzf hkn
        go_wp2_with fail
        go_ret
        exact ⟨by rw [HZF.out]; rfl, HB.out⟩
end Go.Proofs.YtjlhbfbdcfajfaaGreatDoor
