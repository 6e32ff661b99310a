/- draw.Prefix. -/
import Derived.Test.YtofdjlngohhlmaaDoorSeq1
import Derived.Test.YtofdjlngohhlmaaDoorLib3
import Derived.RegionTactic
import Derived.BigRegion
import Derived.ChangeAlike
namespace Go.Proofs.YtofdjlngohhlmaaDoor
open Go.RowKit

theorem Tryd.intsTy : SliceTy Tryd.prog 23 3 1 8 := SliceTy.mk' (z := .int .i64 0) Tryd.underlying23 (by kernel_rfl) rfl (by omega)
/-- the cells of a slice of ints -/
theorem RS.intsAt {w : World} {S : Nat → Prop} {ad : Addr} {n c : Nat} {bs : List Int} (h : RS w S (some ad) n c bs) : CellsAt w ad (bs.map (Value.int .i64)) := by
  obtain ⟨h1, h2, _, h3⟩ := h
  intro j u hj
  rw [List.getElem?_map, Option.map_eq_some_iff] at hj
  obtain ⟨x, hx, rfl⟩ := hj
  obtain ⟨b, o, e, _, he⟩ := h3 (by have := lt_of_get hx; omega)
  injection e with e
  subst e
  obtain ⟨cs, hr, hc⟩ := he j x hx
  have hr' : cs = [.int .i64 x] := hr
  subst hr'
  have := hc 0 _ rfl
  rw [add_of_add] at this
  simpa [Rep.sz] using this

theorem cloneI_ok {S : Nat → Prop} {A : Option Addr} {n c : Nat} {bs : List Int} {w : World} (h : RS w S A n c bs) (_hS : ∀ b, S b → b < w.heap.size) (hl : n ≤ 1099511627776) :
    Calls Tryd.prog 18 #[.slice A n c] w (RetN w 3 bs) := by
  have H := Lib.hid h; clear h
  have hq := Lib.run_eql_slice_nil w 23 3 A n c 0 0 Tryd.underlying23
  go_enter Tryd.func18, Tryd.ntmps18
  cases A with
  | none =>
    go_wp2_with fail
    go_ret
    have hn : n = 0 := by
      rcases Nat.eq_zero_or_pos n with h | h
      · exact h
      · obtain ⟨_, _, e, _⟩ := H.out.2.2.2 h
        cases e
    have hb : bs = [] := List.eq_nil_of_length_eq_zero (H.out.len.trans hn)
    subst hb
    exact ⟨_, rfl, Own.nil _ _ _, Below.refl _ _⟩
  | some ad =>
    have hca : CellsAt (w.alloc (.cells #[] 3)) ad (bs.map (Value.int .i64)) := by
      intro j u hj
      have h0 := H.out.intsAt j u hj
      exact (World.cell?_alloc_lt w _ _ (World.block_lt_of_cell? w _ h0)).trans h0
    have HC := Lib.hid hca
    have HL := Lib.hid H.out.len
    clear hca
    go_wp2_with (at_builtin
                 refine wpList_append_Own (α := Int) rfl _ _ 23 rfl 8 Tryd.intsTy rfl (Own.empty w 3) ad n c _ bs rfl HL.out.symm (Flat.ints bs) HC.out (by simp [Value.oneCell']) (by have := HL.out; simp; omega) (by simp) ?_
                 intro v2 w2 hown2 hg2 hat2
                 have HO2 := Lib.hid hown2
                 have HB2 := Lib.hid (((Below.refl w.heap.size w).alloc (Nat.le_refl _) (.cells #[] 3)).grown hg2 (by simp) (fun k hk => by injection hk with hk; exact Nat.le_of_eq hk))
                 clear hown2 hg2 hat2)
    go_ret
    exact ⟨_, rfl, HO2.out, HB2.out⟩

theorem new_ok (seed : ByteArray) (w : World) : Calls Tryd.prog 16 #[.string seed] w fun e w' => e = .returned (.pointer (some ⟨w.heap.size, 0, none⟩)) ∧ w' = w.alloc (.cells #[.string seed, .int .u64 0] 43) := by
  go_enter Tryd.func16, Tryd.ntmps16
  go_wp2_with fail
  go_ret
  exact ⟨rfl, rfl⟩
end Go.Proofs.YtofdjlngohhlmaaDoor
