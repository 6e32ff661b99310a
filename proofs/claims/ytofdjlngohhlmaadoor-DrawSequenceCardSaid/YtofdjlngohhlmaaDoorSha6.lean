/- SHA-256: a copy of bytes; the padding. -/
import Derived.Test.YtofdjlngohhlmaaDoorSha5
import Derived.Lib.SliceRun
namespace Go.Proofs.YtofdjlngohhlmaaDoor
open Go.RowKit

def NoBlk (_ : Nat) : Prop := False
/-- the call hands back a new row of its own -/
def RetN {α : Type} [Rep α] (w : World) (e : TypeId) (xs : List α) (en : Ending) (w' : World) : Prop :=
  ∃ v', en = .returned v' ∧ Own w' NoBlk w.heap.size e v' xs ∧ Below w.heap.size w w'

theorem Own.empty {α : Type} [Rep α] (w : World) (e : TypeId) : Own (w.alloc (.cells #[] e)) NoBlk w.heap.size e (.slice (some ⟨w.heap.size, 0, none⟩) 0 0) ([] : List α) :=
  ⟨[], ⟨by simp, .inr ⟨w.heap.size, 0, #[], rfl, Nat.le_refl _, heap_alloc_new _ _, Nat.le_refl _, Nat.zero_le _, by simp, by simp⟩⟩, .nil, fun _ h => h.elim⟩
/-- the cells of a slice of bytes -/
theorem RS.bytesAt {w : World} {S : Nat → Prop} {ad : Addr} {n c : Nat} {bs : List UInt8} (h : RS w S (some ad) n c bs) : CellsAt w ad (bs.map fun x => Value.int .u8 (x.toNat : Int)) := by
  obtain ⟨h1, h2, _, h3⟩ := h
  intro j u hj
  rw [List.getElem?_map, Option.map_eq_some_iff] at hj
  obtain ⟨x, hx, rfl⟩ := hj
  obtain ⟨b, o, e, _, he⟩ := h3 (by have := lt_of_get hx; omega)
  injection e with e
  subst e
  obtain ⟨cs, hr, hc⟩ := he j x hx
  have hr' : cs = [.int .u8 (x.toNat : Int)] := hr
  subst hr'
  have := hc 0 _ rfl
  rw [add_of_add] at this
  simpa [Rep.sz] using this

theorem clone_ok {S : Nat → Prop} {A : Option Addr} {n c : Nat} {bs : List UInt8} {w : World} (h : RS w S A n c bs) (hS : ∀ b, S b → b < w.heap.size) (hl : n ≤ 1099511627776) :
    Calls Tryd.prog 36 #[.slice A n c] w (RetN w 5 bs) := by
  have H := Lib.hid h; clear h
  have hq := Lib.run_eql_slice_nil w 45 5 A n c 0 0 Tryd.underlying45
  go_enter Tryd.func36, Tryd.ntmps36
  cases A with
  | none =>
    go_wp2_with fail
    go_ret
    have hn : n = 0 := by
      rcases Nat.eq_zero_or_pos n with h | h
      · exact h
      · obtain ⟨_, _, e, _⟩ := H.out.2.2.2 h
        cases e
    have hb : bs = [] := List.eq_nil_of_length_eq_zero (H.out.len.trans hn)
    subst hb
    exact ⟨_, rfl, Own.nil _ _ _, Below.refl _ _⟩
  | some ad =>
    have hlt : ∀ p : Addr, p.block = ad.block → 0 < n → p.block < w.heap.size := by
      intro p hp hn
      obtain ⟨b, o, e, hb, _⟩ := H.out.2.2.2 hn
      injection e with e
      rw [hp, e]
      exact hS b hb
    have hca : CellsAt (w.alloc (.cells #[] 5)) ad (bs.map fun x => Value.int .u8 (x.toNat : Int)) := by
      intro j u hj
      have h0 := H.out.bytesAt j u hj
      exact (World.cell?_alloc_lt w _ _ (World.block_lt_of_cell? w _ h0)).trans h0
    have HC := Lib.hid hca
    have HL := Lib.hid H.out.len
    clear hca hlt
    go_wp2_with (at_builtin
                 refine wpList_append_Own (α := UInt8) rfl _ _ 45 rfl 1 Tryd.bytesTy rfl (Own.empty w 5) ad n c _ bs rfl HL.out.symm (Flat.bytes bs) HC.out (by simp [Value.oneCell']) (by have := HL.out; simp; omega) (by simp) ?_
                 intro v2 w2 hown2 hg2 hat2
                 have HO2 := Lib.hid hown2
                 have HB2 := Lib.hid (((Below.refl w.heap.size w).alloc (Nat.le_refl _) (.cells #[] 5)).grown hg2 (by simp) (fun k hk => by injection hk with hk; exact Nat.le_of_eq hk))
                 clear hown2 hg2 hat2)
    go_ret
    exact ⟨_, rfl, HO2.out, HB2.out⟩
end Go.Proofs.YtofdjlngohhlmaaDoor
