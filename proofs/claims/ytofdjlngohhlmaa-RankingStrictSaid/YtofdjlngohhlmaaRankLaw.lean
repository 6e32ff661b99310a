/- Plain laws on rankings: both Prefs agree; a ranking holds each candidate at most once, and only marked ones; a prefix law for shorter votes and for stricter rules; a plain vote. -/
import Derived.Test.YtofdjlngohhlmaaRank3
namespace Go.Proofs.Ytofdjlngohhlmaa

theorem prefsGo_nil_tail (ov sk : Int) (m : Nat) : ∀ (out : List Int) (bl : Bool), prefsGo ov sk (List.replicate m []) out bl = out := by
  induction m with
  | zero => intro out bl; rfl
  | succ m ih =>
    intro out bl
    rw [List.replicate_succ, prefsGo]
    simp only [List.length_nil]
    rw [if_neg (by omega), if_neg (by omega)]
    split
    · rfl
    · exact ih _ _
theorem prefsGo_append_nil (ov sk : Int) (m : Nat) (ls : List (List Int)) : ∀ (out : List Int) (bl : Bool), prefsGo ov sk (ls ++ List.replicate m []) out bl = prefsGo ov sk ls out bl := by
  induction ls with
  | nil => intro out bl; exact prefsGo_nil_tail ov sk m out bl
  | cons l ls ih =>
    intro out bl
    rw [List.cons_append, prefsGo, prefsGo]
    split
    · rfl
    · split
      · exact ih _ _
      · split
        · rfl
        · exact ih _ _

/-- two lists of marks that count alike -/
def SameRow (M M' : List Int) : Prop := M.length = M'.length ∧ (M.length = 1 → M[0]?.getD 0 = M'[0]?.getD 0)
theorem prefsGo_congr (ov sk : Int) {α : Type} (f g : α → List Int) (h : ∀ a, SameRow (f a) (g a)) (ls : List α) : ∀ (out : List Int) (bl : Bool), prefsGo ov sk (ls.map f) out bl = prefsGo ov sk (ls.map g) out bl := by
  induction ls with
  | nil => intro out bl; rfl
  | cons l ls ih =>
    intro out bl
    obtain ⟨h1, h2⟩ := h l
    rw [List.map_cons, List.map_cons, prefsGo, prefsGo, ← h1]
    split
    · rfl
    · split
      · rename_i h3
        rw [h2 h3]
        exact ih _ _
      · split
        · rfl
        · exact ih _ _

theorem mem_addMark {m : Int} {out : List Int} {x y : Int} : y ∈ addMark m out x ↔ y ∈ out ∨ (y = x ∧ 0 ≤ x ∧ x < m) := by
  unfold addMark
  split
  · rename_i h
    simp only [List.mem_append, List.mem_singleton]
    constructor
    · rintro (h1 | h1)
      · exact .inl h1
      · exact .inr ⟨h1, h.1, h.2.1⟩
    · rintro (h1 | h1)
      · exact .inl h1
      · exact .inr h1.1
  · rename_i h
    constructor
    · exact .inl
    · rintro (h1 | ⟨rfl, h1, h2⟩)
      · exact h1
      · apply Classical.byContradiction
        intro hc
        exact h ⟨h1, h2, hc⟩
theorem nodup_addMark {m : Int} {out : List Int} {x : Int} (h : out.Nodup) : (addMark m out x).Nodup := by
  unfold addMark
  split
  · rename_i h1
    rw [List.nodup_append]
    refine ⟨h, by simp, fun a ha b hb => ?_⟩
    simp at hb
    subst hb
    intro e
    subst e
    exact h1.2.2 ha
  · exact h
theorem marksF_spec (m : Int) (l : List Int) : ∀ out : List Int, out.Nodup → (l.foldl (addMark m) out).Nodup ∧ ∀ y, y ∈ l.foldl (addMark m) out ↔ y ∈ out ∨ (y ∈ l ∧ 0 ≤ y ∧ y < m) := by
  induction l with
  | nil => intro out h; exact ⟨h, fun y => by simp⟩
  | cons x l ih =>
    intro out h
    obtain ⟨h1, h2⟩ := ih (addMark m out x) (nodup_addMark h)
    refine ⟨h1, fun y => ?_⟩
    rw [List.foldl_cons, h2, mem_addMark, List.mem_cons]
    constructor
    · rintro ((h3 | ⟨rfl, h3, h4⟩) | ⟨h3, h4⟩)
      · exact .inl h3
      · exact .inr ⟨.inl rfl, h3, h4⟩
      · exact .inr ⟨.inr h3, h4⟩
    · rintro (h3 | ⟨rfl | h3, h4⟩)
      · exact .inl (.inl h3)
      · exact .inl (.inr ⟨rfl, h4⟩)
      · exact .inr ⟨h3, h4⟩
theorem marksF_nodup (l : List Int) (m : Int) : (marksF l m).Nodup := (marksF_spec m l [] List.nodup_nil).1
theorem mem_marksF {l : List Int} {m y : Int} : y ∈ marksF l m ↔ y ∈ l ∧ 0 ≤ y ∧ y < m := by
  have := (marksF_spec m l [] List.nodup_nil).2 y
  simpa [marksF] using this
theorem refMarks_spec (l : List Int) (n : Nat) : (refMarks l n).Nodup ∧ ∀ y, y ∈ refMarks l n ↔ y ∈ l ∧ 0 ≤ y ∧ y < (n : Int) := by
  induction n with
  | zero => exact ⟨by simp [refMarks], fun y => by simp [refMarks]⟩
  | succ n ih =>
    obtain ⟨h1, h2⟩ := ih
    unfold refMarks
    split
    · rename_i hn
      refine ⟨?_, fun y => ?_⟩
      · rw [List.nodup_append]
        refine ⟨h1, by simp, fun a ha b hb => ?_⟩
        simp at hb
        have := ((h2 a).1 ha).2.2
        omega
      · rw [List.mem_append, h2, List.mem_singleton]
        constructor
        · rintro (h3 | rfl)
          · exact ⟨h3.1, h3.2.1, by omega⟩
          · exact ⟨hn, by omega, by omega⟩
        · rintro ⟨h3, h4, h5⟩
          rcases (show y < n ∨ y = n by omega) with h6 | h6
          · exact .inl ⟨h3, h4, h6⟩
          · exact .inr h6
    · rename_i hn
      refine ⟨h1, fun y => ?_⟩
      rw [h2]
      constructor
      · rintro ⟨h3, h4, h5⟩; exact ⟨h3, h4, by omega⟩
      · rintro ⟨h3, h4, h5⟩
        refine ⟨h3, h4, ?_⟩
        rcases (show y < n ∨ y = n by omega) with h6 | h6
        · exact h6
        · subst h6; exact absurd h3 hn
theorem perm_of_mem {l l' : List Int} (h : l.Nodup) (h' : l'.Nodup) (hm : ∀ y, y ∈ l ↔ y ∈ l') : l.Perm l' := (List.perm_ext_iff_of_nodup h h').2 hm
theorem sameRow (l : List Int) (n : Nat) : SameRow (marksF l n) (refMarks l n) := by
  have hp : (marksF l n).Perm (refMarks l n) := perm_of_mem (marksF_nodup l n) (refMarks_spec l n).1 (fun y => by rw [mem_marksF, (refMarks_spec l n).2])
  refine ⟨hp.length_eq, fun h1 => ?_⟩
  have h2 := hp.length_eq
  match hA : marksF l n, hB : refMarks l n with
  | [a], [b] =>
    rw [hA, hB] at hp
    have : a ∈ [b] := hp.mem_iff.1 (by simp)
    simp at this
    simp [this]
  | [], _ => rw [hA] at h1; simp at h1
  | _ :: _ :: _, _ => rw [hA] at h1; simp at h1
  | [a], [] => rw [hA, hB] at h2; simp at h2
  | [a], _ :: _ :: _ => rw [hA, hB] at h2; simp at h2

theorem refRows (n r : Nat) (xss : List (List Int)) : (List.range r).map (refRow n xss) = ((xss.take r).map (refMarks · n)) ++ List.replicate (r - xss.length) [] := by
  apply List.ext_getElem?
  intro i
  rw [List.getElem?_map, List.getElem?_append, List.length_map, List.length_take, List.getElem?_map, List.getElem?_take]
  by_cases hi : i < r
  · rw [List.getElem?_range hi]
    simp only [Option.map_some]
    by_cases hx : i < xss.length
    · rw [if_pos (by omega), if_pos hi, List.getElem?_eq_getElem hx]
      simp [refRow, List.getElem?_eq_getElem hx]
    · rw [if_neg (by omega), List.getElem?_replicate, if_pos (by omega)]
      simp [refRow, List.getElem?_eq_none (show xss.length ≤ i by omega)]
  · rw [List.getElem?_eq_none (by simpa using hi)]
    rw [if_neg (by omega), List.getElem?_replicate, if_neg (by omega)]
    rfl

/-- both Prefs agree -/
theorem prefs_agree (ov sk ra : Int) (n : Nat) (xss : List (List Int)) : prefsF ov sk ra n xss = refPrefsF ov sk ra n xss := by
  unfold prefsF refPrefsF
  rw [refRows, prefsGo_append_nil]
  exact prefsGo_congr ov sk _ _ (fun l => sameRow l n) _ _ _

/- what a ranking holds -/
theorem prefsGo_inv (ov sk : Int) (P : Int → Prop) (ls : List (List Int)) (hP : ∀ l ∈ ls, ∀ x ∈ l, P x) : ∀ (out : List Int) (bl : Bool), out.Nodup → (∀ x ∈ out, P x) →
    (prefsGo ov sk ls out bl).Nodup ∧ ∀ x ∈ prefsGo ov sk ls out bl, P x := by
  induction ls with
  | nil => intro out bl h1 h2; exact ⟨h1, h2⟩
  | cons l ls ih =>
    intro out bl h1 h2
    have ih' := ih (fun l' hl' => hP l' (List.mem_cons_of_mem _ hl'))
    rw [prefsGo]
    split
    · exact ⟨h1, h2⟩
    · split
      · rename_i hl
        match l, hl with
        | [x], _ =>
          have hx := hP [x] (by simp) x (by simp)
          simp only [List.getElem?_cons_zero, Option.getD_some]
          split
          · exact ih' _ _ h1 h2
          · rename_i hn
            refine ih' _ _ ?_ ?_
            · rw [List.nodup_append]
              refine ⟨h1, by simp, fun a ha b hb => ?_⟩
              simp at hb
              subst hb
              rintro rfl
              exact hn ha
            · intro y hy
              rw [List.mem_append, List.mem_singleton] at hy
              rcases hy with hy | rfl
              · exact h2 y hy
              · exact hx
      · split
        · exact ⟨h1, h2⟩
        · exact ih' _ _ h1 h2
theorem prefsF_inv (ov sk ra n : Int) (xss : List (List Int)) : (prefsF ov sk ra n xss).Nodup ∧ ∀ x ∈ prefsF ov sk ra n xss, (0 ≤ x ∧ x < n) ∧ ∃ l ∈ xss, x ∈ l := by
  refine prefsGo_inv ov sk (fun x => (0 ≤ x ∧ x < n) ∧ ∃ l ∈ xss, x ∈ l) _ ?_ [] false List.nodup_nil (by simp)
  intro l hl x hx
  obtain ⟨l', hl', rfl⟩ := List.mem_map.1 hl
  obtain ⟨h1, h2⟩ := mem_marksF.1 hx
  exact ⟨h2, l', List.mem_of_mem_take hl', h1⟩

/- what is there stays: the ranking begins with what has been gathered -/
theorem prefsGo_prefix (ov sk : Int) (ls : List (List Int)) : ∀ (out : List Int) (bl : Bool), out <+: prefsGo ov sk ls out bl := by
  induction ls with
  | nil => intro out bl; exact List.prefix_refl _
  | cons l ls ih =>
    intro out bl
    rw [prefsGo]
    split
    · exact List.prefix_refl _
    · split
      · split
        · exact ih _ _
        · exact List.IsPrefix.trans (List.prefix_append _ _) (ih _ _)
      · split
        · exact List.prefix_refl _
        · exact ih _ _
/-- a shorter vote -/
theorem prefsGo_take (ov sk : Int) (k : Nat) (ls : List (List Int)) : ∀ (out : List Int) (bl : Bool), k ≤ ls.length → prefsGo ov sk (ls.take k) out bl <+: prefsGo ov sk ls out bl := by
  induction ls generalizing k with
  | nil => intro out bl _; simp
  | cons l ls ih =>
    intro out bl hk
    match k with
    | 0 => exact prefsGo_prefix ov sk (l :: ls) out bl
    | k + 1 =>
      rw [List.take_succ_cons, prefsGo, prefsGo]
      split
      · exact List.prefix_refl _
      · split
        · exact ih k _ _ (by simpa using hk)
        · split
          · exact List.prefix_refl _
          · exact ih k _ _ (by simpa using hk)
/-- a stricter rule: sk' stops wherever sk stops -/
theorem prefsGo_strict (ov sk sk' : Int) (h : ∀ bl : Bool, (sk' ≠ 1 ∧ (sk' ≠ 3 ∨ bl = true)) → (sk ≠ 1 ∧ (sk ≠ 3 ∨ bl = true))) (ls : List (List Int)) :
    ∀ (out : List Int) (bl : Bool), prefsGo ov sk ls out bl <+: prefsGo ov sk' ls out bl := by
  induction ls with
  | nil => intro out bl; exact List.prefix_refl _
  | cons l ls ih =>
    intro out bl
    rw [prefsGo, prefsGo]
    split
    · exact List.prefix_refl _
    · split
      · exact ih _ _
      · by_cases h1 : sk' ≠ 1 ∧ (sk' ≠ 3 ∨ bl = true)
        · rw [if_pos h1, if_pos (h bl h1)]
          exact List.prefix_refl _
        · rw [if_neg h1]
          split
          · exact prefsGo_prefix _ _ _ _ _
          · exact ih _ _
/-- a plain vote -/
theorem prefsGo_plain (ov sk : Int) (l : List Int) : ∀ (out : List Int) (bl : Bool), (out ++ l).Nodup → prefsGo ov sk (l.map fun x => [x]) out bl = out ++ l := by
  induction l with
  | nil => intro out bl _; simp [prefsGo]
  | cons x l ih =>
    intro out bl h
    have hx : x ∉ out := by
      intro hx
      rw [List.nodup_append] at h
      exact h.2.2 x hx x (by simp) rfl
    rw [List.map_cons, prefsGo]
    simp only [List.length_singleton, List.getElem?_cons_zero, Option.getD_some]
    rw [if_neg (by omega), if_pos trivial, if_neg hx, ih _ _ (by simpa using h)]
    simp
end Go.Proofs.Ytofdjlngohhlmaa
