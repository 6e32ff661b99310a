/- account: the law AccountSum in plain Lean. -/
import Derived.Test.YtjlhbfbdcfajfaaGreatDoorG30
namespace Go.Proofs.YtjlhbfbdcfajfaaGreatDoor
open Go.RowKit

def recsOf (l : List GapD) : Int := (l.map (·.recs)).sum
def missOf (l : List GapD) : Int := (l.map (·.missing)).sum
/-- what the law asks of a gap -/
structure GoodG (g : GapD) : Prop where
  bal : g.recs + g.missing = g.papers + g.extra
  one : g.missing = 0 ∨ g.extra = 0
  m0 : 0 ≤ g.missing
  x0 : 0 ≤ g.extra
  r0 : 0 ≤ g.recs
  p0 : 0 ≤ g.papers
  p4 : g.papers ≤ 400
theorem sum_set : ∀ {cs : List Int} {i : Nat}, i < cs.length → (cs.set i (cs.getD i 0 + 1)).sum = cs.sum + 1
  | [], _, h => by simp at h
  | x :: cs, 0, _ => by simp; omega
  | x :: cs, i + 1, h => by
    have := sum_set (cs := cs) (i := i) (by simpa using h)
    simp only [List.set_cons_succ, List.sum_cons, List.getD_cons_succ]
    omega
theorem cnt_facts : ∀ {rs : List RecD} {cs qs : List Int}, cntP rs cs = some qs → (∀ c ∈ cs, 0 ≤ c) → qs.length = cs.length ∧ qs.sum = cs.sum + (rs.length : Int) ∧ ∀ q ∈ qs, 0 ≤ q
  | [], cs, qs, h, hc => by
    simp only [cntP, Option.some.injEq] at h
    subst h
    exact ⟨rfl, by simp, hc⟩
  | r :: l, cs, qs, h, hc => by
    unfold cntP at h
    split at h
    · cases h
    · rename_i hn
      have hi : r.prec.toNat < cs.length := by omega
      obtain ⟨h1, h2, h3⟩ := cnt_facts h (fun c hcm => by
        rcases List.mem_or_eq_of_mem_set hcm with h | h
        · exact hc c h
        · subst h
          rw [List.getD_eq_getElem?_getD, List.getElem?_eq_getElem hi]
          have := hc _ (List.getElem_mem hi)
          simp only [Option.getD_some]
          omega)
      refine ⟨by rw [h1, List.length_set], ?_, h3⟩
      rw [h2, sum_set hi, List.length_cons]
      omega
theorem gaps_recs : ∀ {i : Nat} {l : List AccountD} {m : List Int}, l.length = m.length → recsOf (gapsGo i l m) = m.sum
  | _, [], [], _ => rfl
  | i, a :: l, q :: m, h => by
    have := gaps_recs (i := i + 1) (l := l) (m := m) (by simpa using h)
    unfold recsOf at *
    simp only [gapsGo, List.map_cons, List.sum_cons, this]
    rfl
theorem gap_good {k : Nat} {x : AccountD} {q : Int} (hq : 0 ≤ q) (hc : 0 ≤ x.cast ∧ x.cast ≤ 400) : GoodG (gapOf k x q) := by
  constructor <;> simp only [gapOf] <;> omega
theorem gaps_good : ∀ {i : Nat} {l : List AccountD} {m : List Int}, (∀ a ∈ l, 0 ≤ a.cast ∧ a.cast ≤ 400) → (∀ q ∈ m, 0 ≤ q) → ∀ g ∈ gapsGo i l m, GoodG g
  | _, [], _, _, _ => fun g h => by simp [gapsGo] at h
  | _, _ :: _, [], _, _ => fun g h => by simp [gapsGo] at h
  | i, a :: l, q :: m, hl, hm => fun g h => by
    simp only [gapsGo, List.mem_cons] at h
    rcases h with rfl | h
    · exact gap_good (hm q (List.mem_cons_self ..)) (hl a (List.mem_cons_self ..))
    · exact gaps_good (fun a h => hl a (List.mem_cons_of_mem _ h)) (fun q h => hm q (List.mem_cons_of_mem _ h)) g h
theorem gaps_miss : ∀ {i : Nat} {l : List AccountD} {m : List Int}, (∀ a ∈ l, 0 ≤ a.cast ∧ a.cast ≤ 400) → (∀ q ∈ m, 0 ≤ q) → missOf (gapsGo i l m) ≤ castSum l
  | _, [], _, _, _ => by simp [gapsGo, missOf, castSum]
  | i, a :: l, [], hl, _ => by
    have h0 := gaps_miss (i := i) (l := l) (m := []) (fun a h => hl a (List.mem_cons_of_mem _ h)) (fun q h => by cases h)
    have h1 := hl a (List.mem_cons_self ..)
    have e : ∀ l, missOf (gapsGo i l []) = 0 := fun l => by cases l <;> rfl
    rw [e] at h0 ⊢
    unfold castSum at *
    simp only [List.map_cons, List.sum_cons]
    omega
  | i, a :: l, q :: m, hl, hm => by
    have h0 := gaps_miss (i := i + 1) (l := l) (m := m) (fun a h => hl a (List.mem_cons_of_mem _ h)) (fun q h => hm q (List.mem_cons_of_mem _ h))
    have h1 := hl a (List.mem_cons_self ..)
    have h2 := hm q (List.mem_cons_self ..)
    unfold missOf castSum at *
    simp only [gapsGo, List.map_cons, List.sum_cons, gapOf]
    omega
theorem phant_sum : ∀ (l : List GapD) (n : Int), (∀ g ∈ l, GoodG g) → 0 ≤ n → n + missOf l ≤ 400 → l.foldl phStep n = n + missOf l
  | [], n, _, _, _ => by simp [missOf]
  | g :: l, n, hg, hn, h => by
    have g0 := (hg g (List.mem_cons_self ..)).m0
    have hl : 0 ≤ missOf l := by
      have : ∀ l : List GapD, (∀ g ∈ l, GoodG g) → 0 ≤ missOf l := by
        intro l
        induction l with
        | nil => intro _; exact Int.le_refl _
        | cons a l ih =>
          intro h
          have h1 := ih fun g hg => h g (List.mem_cons_of_mem _ hg)
          have h2 := (h a (List.mem_cons_self ..)).m0
          unfold missOf at *
          simp only [List.map_cons, List.sum_cons]
          omega
      exact this l fun g h => hg g (List.mem_cons_of_mem _ h)
    have e : missOf (g :: l) = g.missing + missOf l := by unfold missOf; simp
    rw [e] at h ⊢
    have hs : phStep n g = n + g.missing := by unfold phStep; omega
    rw [List.foldl_cons, hs, phant_sum l _ (fun g h => hg g (List.mem_cons_of_mem _ h)) (by omega) (by omega)]
    omega
/-- what Reconcile's answer fulfils -/
theorem recon_law {e : ElectionD} {acs : List AccountD} {rs : List RecD} {gs : List GapD} {f : Int} (h : reconP e acs rs = (gs, f)) :
    (f ≠ 0 → gs = []) ∧ (f = 0 → (∀ g ∈ gs, GoodG g) ∧ recsOf gs = (rs.length : Int) ∧ missOf gs ≤ 400 ∧ phantP gs = missOf gs) := by
  unfold reconP at h
  split at h
  · injection h with h1 h2
    subst h1 h2
    exact ⟨fun _ => rfl, fun h => by cases h⟩
  · rename_i hv
    split at h
    · injection h with h1 h2
      subst h1 h2
      exact ⟨fun _ => rfl, fun h => by cases h⟩
    · rename_i cs hcs
      injection h with h1 h2
      subst h1 h2
      refine ⟨fun h => absurd rfl h, fun _ => ?_⟩
      have hv2 : validA e acs = true := by cases hh : validA e acs <;> simp_all
      unfold validA at hv2
      simp only [Bool.and_eq_true, decide_eq_true_eq, possP_iff] at hv2
      have hall := accOk_all hv2.2.2.1
      have hl : ∀ a ∈ acs, 0 ≤ a.cast ∧ a.cast ≤ 400 := fun a ha => (hall a ha).2.2
      obtain ⟨q1, q2, q3⟩ := cnt_facts hcs (fun c hc => by rw [List.eq_of_mem_replicate hc]; exact Int.le_refl _)
      have hlen : acs.length = cs.length := by rw [q1, List.length_replicate]
      have hz : (List.replicate acs.length (0 : Int)).sum = 0 := by
        induction acs.length with
        | zero => rfl
        | succ n ih => rw [List.replicate_succ, List.sum_cons, ih]; rfl
      have hg := gaps_good (i := 0) hl q3
      have hm := gaps_miss (i := 0) hl q3
      refine ⟨hg, by rw [gaps_recs hlen, q2, hz]; omega, by omega, ?_⟩
      have := phant_sum _ 0 hg (Int.le_refl _) (by omega)
      unfold phantP
      rw [this]
      omega
end Go.Proofs.YtjlhbfbdcfajfaaGreatDoor
