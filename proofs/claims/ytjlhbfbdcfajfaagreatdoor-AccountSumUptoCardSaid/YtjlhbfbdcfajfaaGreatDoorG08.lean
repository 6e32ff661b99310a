/- Nat12 Str Rat1 Rat2 -/
import Derived.Test.YtjlhbfbdcfajfaaGreatDoorG07
import Derived.Laws.BytesArg
import Derived.Laws.IdiomStrings
import Derived.Test.YtjlhbfbdcfajfaaGreatDoorG02
import Derived.Laws.Rows
/- nat: Text. -/
namespace Go.Proofs.YtjlhbfbdcfajfaaGreatDoor
open Go.RowKit

theorem Tryz.bytesTy : SliceTy Tryz.prog 49 5 1 1 := SliceTy.mk' (z := .int .u8 0) Tryz.underlying49 (by kernel_rfl) rfl (by omega)
theorem u8_of (s : Nat) : IntKind.u8.wrap (s : Int) = ((UInt8.ofNat s).toNat : Int) := by
  rw [IntKind.wrap_u8, UInt8.toNat_ofNat']; omega

theorem RS.byteCells {S : Nat → Prop} {w : World} {n c : Nat} {xs : List UInt8} {b o : Nat} (h : RS w S (some ⟨b, o, none⟩) n c xs) : ∀ j (hj : j < xs.length), w.cell? ((⟨b, o, none⟩ : Addr).add j) = some (.int .u8 (xs[j].toNat : Int)) := by
  intro j hj
  obtain ⟨b', o', x, e, _, hx, hc⟩ := h.byte_at (k := j) (by rw [← h.len]; exact hj)
  injection e with e; injection e with e1 e2
  subst e1 e2
  have hp : (⟨b, o, none⟩ : Addr).add j = ⟨b, o + j, none⟩ := by unfold Addr.add; split <;> simp_all
  rw [hp, hc]
  rw [List.getElem?_eq_getElem hj] at hx
  injection hx with hx
  rw [hx]
/-- 'string(b)' -/
theorem strConv {S : Nat → Prop} {w : World} {A : Option Addr} {n c : Nat} {xs : List UInt8} (h : RS w S A n c xs) : (convert 49 9 (.slice A n c)).run Tryz.prog w = .ok (.string ⟨xs.toArray⟩) w := by
  cases A with
  | none =>
    have hn : n = 0 := by
      rcases Nat.eq_zero_or_pos n with h0 | h0
      · exact h0
      · obtain ⟨b, o, e⟩ := h.some_of h0; cases e
    subst hn
    rw [h.nil_of]
    exact run_convert_bytes_nil w 49 5 Tryz.underlying49 Tryz.underlying5 0 c _ Tryz.underlying9
  | some a =>
    rcases Nat.eq_zero_or_pos n with h0 | h0
    · subst h0
      have hx := h.nil_of
      subst hx
      have q := run_convert_bytes_back (P := Tryz.prog) w 49 9 5 a c [] Tryz.underlying49 Tryz.underlying5 Tryz.underlying9 (fun j hj => absurd hj (Nat.not_lt_zero _))
      rw [List.length_nil] at q
      exact q
    · obtain ⟨b, o, e⟩ := h.some_of h0
      cases e
      have := run_convert_bytes_back w 49 9 5 ⟨b, o, none⟩ c xs Tryz.underlying49 Tryz.underlying5 Tryz.underlying9 h.byteCells
      rw [h.len] at this
      exact this

set_option maxRecDepth 20000 in
set_option maxHeartbeats 2000000 in
theorem text_ok {S : Nat → Prop} {A : Option Addr} {n c : Nat} {xs : List (BitVec 32)} {w : World} (h : RS w S A n c xs) (hS : ∀ b, S b → b < w.heap.size) (hn : n ≤ 536870912) :
    Calls Tryz.prog 104 #[.slice A n c] w (RetV w (.string ⟨(decText (val xs)).toArray⟩)) := by
  have hl := lim_val xs
  have hlen := trimL_length xs
  have hxl := h.len
  have H := Lib.hid h
  obtain ⟨l, hl'⟩ : ∃ l, trimL xs = l := ⟨_, rfl⟩
  obtain ⟨X, hX⟩ : ∃ X, val xs = X := ⟨_, rfl⟩
  rw [hl'] at hl hlen
  rw [hX] at hl
  rw [hX]
  have hXb : X < 4294967296 ^ n := by
    rw [← hX, ← hxl]
    exact val_lt xs
  have HXB := Lib.hid hXb
  have HT := Lib.hid hl'
  have HL := Lib.hid hl
  clear h hl hl' hX hXb
  go_enter Tryz.func104, Tryz.ntmps104
  go_wp2_with fail
  refine (trim_ok H.out).mono ?_
  rintro e w' ⟨A3, n3, c3, rfl, hr, rfl⟩
  rw [HT.out] at hr
  have hl3 := hr.len
  have hb3 : n3 ≤ 536870912 := by omega
  have HR := Lib.hid hr
  have HL3 := Lib.hid hl3
  clear hr hl3 hlen hxl
  rcases Nat.eq_zero_or_pos n3 with h0 | h0
  · subst h0
    have hx0 : X = 0 := lim_eq_nil.1 (by rw [HL.out]; exact RS.nil_of' HR.out)
    subst hx0
    go_wp2_with fail
    go_ret
    exact ⟨by simp [decText], Below.refl _ _⟩
  · have hb0 : ((n3 : Int) == 0) = false := by rw [beq_eq_false_iff_ne]; omega
    have hx0 : X ≠ 0 := by
      intro e
      have := HL3.out
      rw [← HL.out, e, lim_zero] at this
      simp at this
      omega
    have HX0 := Lib.hid hx0
    clear hx0
    go_wp2_with fail
    go_loopg [0, 3] X (fun g va vo wr => ∃ (k : Nat) (A : Option Addr) (n c : Nat) (Sa : Nat → Prop), va = .slice A n c ∧ n ≤ 536870912 ∧ RS wr Sa A n c (lim g) ∧ (∀ b, Sa b → b < wr.heap.size ∧ some b ≠ vo.ownBlock) ∧ g = X / 10 ^ k ∧ k ≤ 6442450944 ∧
        Own wr NoBlk w.heap.size 5 vo (pad k X) ∧ Below w.heap.size w wr)
    case atStart => exact ⟨0, A3, n3, c3, S, rfl, hb3, by rw [HL.out]; exact HR.out, fun b hb => ⟨hS b hb, by simp [Value.ownBlock]⟩, by simp, by omega, Own.nil _ _ _, Below.refl _ _⟩
    case round =>
      clear HR HL3 hb0 h0
      obtain ⟨k, A4, n4, c4, Sa, rfl, hb4, hr4, hsa, hg, hk, ho, hb⟩ := hrel
      obtain ⟨Ao, no, co, rfl, hno⟩ := ho.slice
      rw [pad_length] at hno
      have hnob : no ≤ 6442450944 := by omega
      have HR4 := Lib.hid hr4
      have HSA := Lib.hid hsa
      have HG := Lib.hid hg
      have HO := Lib.hid ho
      have HB := Lib.hid hb
      have HL4 := Lib.hid hr4.len
      clear hr4 hsa hg ho hb hno
      rcases Nat.eq_zero_or_pos n4 with h0 | h0
      · subst h0
        have hg0 : gk = 0 := lim_eq_nil.1 (RS.nil_of' HR4.out)
        have hlt : X < 10 ^ k := by
          have h1 := HG.out
          rw [hg0] at h1
          exact (Nat.div_eq_zero_iff_lt (Nat.pow_pos (by omega))).1 h1.symm
        have hfin := text_trim hlt
        have hdt : decText X = (digs X).reverse := by unfold decText; rw [if_neg HX0.out]
        have HFIN := Lib.hid hfin
        have HDT := Lib.hid hdt
        clear hg0 hlt hfin hdt
        go_wp2_with fail
        refine (reverseB_ok HO.out HB.out (Nat.le_refl _) (by omega)).mono ?_
        rintro e w5 ⟨rfl, ho5, hb5⟩
        have hcv := strConv ho5.rs8
        have HB5 := Lib.hid hb5
        obtain ⟨st, hst⟩ : ∃ st : ByteArray, ⟨(pad k X).reverse.toArray⟩ = st := ⟨_, rfl⟩
        rw [hst] at hcv
        have hsl : st.data.toList = (pad k X).reverse := by rw [← hst]
        have HSL := Lib.hid hsl
        clear ho5 hb5 hst hsl
        go_wp2_with fail
        refine (Tryz.strings_TrimLeft_one st 48 (by decide) w5).mono ?_
        rintro e w6 ⟨rfl, rfl⟩
        rw [HSL.out, HFIN.out, ← HDT.out]
        go_wp2_with fail
        go_ret
        exact ⟨rfl, HB5.out⟩
      · have hgk : gk ≠ 0 := by
          intro e
          have := HL4.out
          rw [e, lim_zero] at this
          simp at this
          omega
        have hkb : 3 * k < 32 * n := by
          refine digits_bound (X := X) ?_ HXB.out
          have h1 := HG.out
          rcases Nat.lt_or_ge X (10 ^ k) with h | h
          · rw [Nat.div_eq_of_lt h] at h1; exact absurd h1 hgk
          · exact h
        have HGK := Lib.hid hgk
        clear hgk
        go_wp2_with fail
        refine (short_okN 1000000000 HR4.out (fun b hb => (HSA.out b hb).1) (by omega) (by omega) (by omega)).mono ?_
        rintro e w2 ⟨sq, qs, rfl, hoq, hqv, hql, hb2⟩
        rw [val_lim] at hqv
        rw [val_lim]
        obtain ⟨r, hr⟩ : ∃ r, gk % 1000000000 = r := ⟨_, rfl⟩
        rw [hr]
        have HRR := Lib.hid hr
        clear hr
        obtain ⟨Aq, nq, cq, rfl, hnq⟩ := hoq.slice
        rw [hql] at hnq
        subst hnq
        obtain ⟨lo, hlo⟩ : ∃ x, wr.heap.size = x := ⟨_, rfl⟩
        have HLO := Lib.hid hlo
        rw [hlo] at hoq
        have HRQ := Lib.hid (hoq.rs (S' := fun b => lo ≤ b ∧ b < w2.heap.size) (fun _ h => h.elim) (fun _ h1 h2 => ⟨h1, h2⟩))
        have HQV := Lib.hid hqv
        have HQL := Lib.hid hql
        have HO2 := Lib.hid (HO.out.below hb2)
        have HOL := Lib.hid (HO.out.lt)
        have HB2 := Lib.hid (below_more HB.out hb2)
        clear hoq hqv hql hb2 hlo
        go_wp2_with fail
        refine (trim_ok HRQ.out).mono ?_
        rintro e w' ⟨A5, n5, c5, rfl, hr5, rfl⟩
        rw [← lim_val, HQV.out] at hr5
        have hn5 : n5 ≤ 536870912 := by
          have h1 := trimL_length qs
          rw [← lim_val, HQV.out, hr5.len, HQL.out] at h1
          omega
        have HR5 := Lib.hid hr5
        clear hr5
        go_wp2_with fail
        go_loopw [3, 5, 21] (fun vo rv iv wx => ∃ (i rr : Nat), i ≤ 9 ∧ iv = .int .i64 i ∧ rv = .int .u64 rr ∧ rr = r / 10 ^ i ∧ rr < 1000000000 ∧ RS wx (fun b => lo ≤ b ∧ b < w2.heap.size) A5 n5 c5 (lim (gk / 1000000000)) ∧ (∀ g, vo.ownBlock = some g → ¬ (lo ≤ g ∧ g < w2.heap.size)) ∧
            w2.heap.size ≤ wx.heap.size ∧ Own wx NoBlk w.heap.size 5 vo (pad (k + i) X) ∧ Below w.heap.size w wx)
          (fun _ _ iv _ => 9 - (intOf iv).toNat)
        case atStart =>
          refine ⟨0, r, by omega, rfl, rfl, by simp, by rw [← HRR.out]; exact Nat.mod_lt _ (by omega), HR5.out, fun g hg => ?_, Nat.le_refl _, HO2.out, HB2.out⟩
          have := HOL.out g hg
          have := HLO.out
          omega
        case round =>
          clear HRQ HO2 HB2 HR5 HOL HO
          obtain ⟨i, rr, hi, rfl, rfl, hrr, hrl, hr5, hva, hsz, ho, hb⟩ := hrel
          obtain ⟨Ax, nx, cx, rfl, hnx⟩ := ho.slice
          rw [pad_length] at hnx
          have HR5 := Lib.hid hr5
          have HVA := Lib.hid hva
          have HO := Lib.hid ho
          have HB := Lib.hid hb
          have HRX := Lib.hid hrr
          have HNX := Lib.hid hnx
          clear hr5 hva ho hb hrr hnx
          by_cases hlt : i < 9
          · obtain ⟨d, hd⟩ : ∃ d, rr % 10 = d := ⟨_, rfl⟩
            obtain ⟨r2, hr2⟩ : ∃ d, rr / 10 = d := ⟨_, rfl⟩
            have hd1 : (rr : Int).tmod 10 = (d : Int) := by rw [← hd]; rfl
            have hd2 : (rr : Int) % 10 = (d : Int) := by rw [← hd]; rfl
            have hq1 : (rr : Int).tdiv 10 = (r2 : Int) := by rw [← hr2]; rfl
            have hq2 : (rr : Int) / 10 = (r2 : Int) := by rw [← hr2]; rfl
            have hdl : d < 10 := by omega
            have hr2l : r2 < 1000000000 := by omega
            obtain ⟨s, hs⟩ : ∃ s, 48 + d = s := ⟨_, rfl⟩
            have hs1 : 48 + (d : Int) = (s : Int) := by omega
            have hsb : s < 58 := by omega
            have hsw := u8_of s
            obtain ⟨y, hy⟩ : ∃ y, UInt8.ofNat s = y := ⟨_, rfl⟩
            rw [hy] at hsw
            have hyd : dig (X / 10 ^ (k + i)) = y := by
              rw [← chunk_digit X k i hlt, ← HG.out, HRR.out, ← HRX.out, ← hy, ← hs, ← hd]
              rfl
            have hr2e : r2 = r / 10 ^ (i + 1) := by rw [← hr2, HRX.out, Nat.div_div_eq_div_mul, Nat.pow_succ]
            have HYD := Lib.hid hyd
            have HR2 := Lib.hid hr2e
            clear hd hr2 hs hy hyd hr2e
            go_wp2_with (at_builtin
                         refine wpList_append_gen (α := UInt8) (w0 := w) (B := w.heap.size) (base := w.heap.size) rfl _ _ 49 rfl 1 Tryz.bytesTy rfl HO.out HB.out (Nat.le_refl _) HB.out.size [.int .u8 (y.toNat : Int)] y 1 rfl rfl 5 (by simp [Value.oneCell']) (by rw [pad_length]; omega) ?_
                         intro v4 w4 hown4 hb4 hg4 hl4
                         have HO4 := Lib.hid hown4
                         have HB4 := Lib.hid hb4
                         have HG4 := Lib.hid hg4
                         have HL4' : Hid (v4.ownBlock = (Value.slice Ax nx cx).ownBlock ∨ v4.ownBlock = some (wr.heap.size + 1)) := Lib.hid hl4
                         clear hown4 hb4 hg4 hl4)
            go_roundw
            case rel =>
              have hsz4 := HG4.out.size
              have hk1 : Keeps (fun b => lo ≤ b ∧ b < w2.heap.size) wr (wr.alloc (.cells [Value.int .u8 (y.toNat : Int)].toArray 5)) := (Keeps.refl _ _).alloc (fun b hb => Nat.lt_of_lt_of_le hb.2 hsz) _
              have hk2 : Keeps (fun b => lo ≤ b ∧ b < w2.heap.size) (wr.alloc (.cells [Value.int .u8 (y.toNat : Int)].toArray 5)) w4 := (Keeps.grown HG4.out).sub fun b hb => ⟨by simp; omega, fun e => HVA.out b e.symm hb⟩
              refine ⟨i + 1, r2, by omega, by go_num, rfl, HR2.out, hr2l, HR5.out.keep (fun _ h => h) (hk1.trans hk2), fun g hg => ?_, by simp at hsz4; omega, ?_, HB4.out⟩
              · rcases HL4'.out with h | h
                · exact HVA.out g (by rw [← h]; exact hg)
                · rw [h] at hg; injection hg with hg; omega
              · rw [← Nat.add_assoc, pad_snoc, HYD.out]; exact HO4.out
            case measure => simp [intOf]; omega
          · have hi9 : i = 9 := by omega
            subst hi9
            clear hlt
            go_wp2_with fail
            go_roundg (gk / 1000000000)
            case measure => exact Nat.div_lt_self (by have := HGK.out; omega) (by omega)
            case rel => exact ⟨k + 9, A5, n5, c5, fun b => lo ≤ b ∧ b < w2.heap.size, rfl, hn5, HR5.out, fun b hb => ⟨Nat.lt_of_lt_of_le hb.2 hsz, fun e => HVA.out b e.symm hb⟩, by rw [HG.out, Nat.div_div_eq_div_mul, Nat.pow_add], by omega, HO.out, HB.out⟩
end Go.Proofs.YtjlhbfbdcfajfaaGreatDoor
/- Words for structs: a struct's value is its cells; boxes and result cells; stores of whole structs. -/
namespace Go.Proofs.YtjlhbfbdcfajfaaGreatDoor
open Go.RowKit

/-- the value of a struct: its cells -/
def SV {α : Type} [Rep α] (w : World) (S : Nat → Prop) (v : Value) (x : α) : Prop := ∃ cs : List Value, v = .agg cs.toArray ∧ Rep.rep w S cs x
section
variable {α : Type} [Rep α] {w w' : World} {S S' : Nat → Prop} {v : Value} {x : α}
theorem SV.keep (h : SV w S v x) (hS : ∀ b, S b → S' b) (hk : Keeps S w w') : SV w' S' v x := by
  obtain ⟨cs, e, hr⟩ := h
  exact ⟨cs, e, Rep.keep hr hS hk⟩
theorem SV.below {B : Nat} (h : SV w S v x) (hb : Below B w w') (hS : ∀ b, S b → b < B) : SV w' S v x := h.keep (fun _ h => h) ((Keeps.of_below hb).sub hS)
theorem SV.drew (h : SV w S v x) : SV w.drew S v x := h.keep (fun _ h => h) (fun _ _ => rfl)
theorem SV.sub (h : SV w S v x) (hS : ∀ b, S b → S' b) : SV w S' v x := h.keep hS (Keeps.refl _ _)
end
/-- the call returns a new struct -/
def RetSV {α : Type} [Rep α] (w : World) (x : α) (e : Ending) (w' : World) : Prop := ∃ v, e = .returned v ∧ SV w' (Fresh w w') v x ∧ Below w.heap.size w w'

theorem below_setAll {B : Nat} {a w : World} {g : Nat} (h : Below B a w) (hg : B ≤ g) : ∀ (l : List Value) (i : Nat), Below B a (setAll w g i l) := by
  intro l
  induction l generalizing w with
  | nil => intro i; exact h
  | cons v l ih => intro i; exact ih (h.setCell (by simpa using hg) v) (i + 1)
theorem Keeps.setAll {S : Nat → Prop} {w w1 : World} {g : Nat} (h : Keeps S w w1) (hg : ¬ S g) : ∀ (l : List Value) (i : Nat), Keeps S w (setAll w1 g i l) := by
  intro l
  induction l generalizing w1 with
  | nil => intro i; exact h
  | cons v l ih => intro i; exact ih (h.setCell (p := ⟨g, i, none⟩) hg v) (i + 1)
theorem size_setAll {g : Nat} : ∀ (l : List Value) (i : Nat) (w : World), (setAll w g i l).heap.size = w.heap.size := by
  intro l
  induction l with
  | nil => intro i w; rfl
  | cons v l ih => intro i w; rw [Go.Proofs.YtjlhbfbdcfajfaaGreatDoor.setAll, ih]; simp
theorem Own.fresh {α : Type} [Rep α] {w w' : World} {base : Nat} {e : TypeId} {A : Option Addr} {n c : Nat} {xs : List α} (h : Own w' (fun _ => False) base e (.slice A n c) xs) (hb : w.heap.size ≤ base) : RS w' (Fresh w w') A n c xs :=
  h.rs (fun _ h => h.elim) (fun _ h1 h2 => ⟨Nat.le_trans hb h1, h2⟩)
theorem Blk.facts3 {w : World} {g : Nat} {t : TypeId} {a b c : Value} (h : Blk w g t #[a, b, c]) : w.cell? ⟨g, 0, none⟩ = some a ∧ w.cell? ⟨g, 1, none⟩ = some b ∧ w.cell? ⟨g, 2, none⟩ = some c ∧ w.frozen? ⟨g, 0, none⟩ = false ∧ w.frozen? ⟨g, 1, none⟩ = false ∧ w.frozen? ⟨g, 2, none⟩ = false :=
  ⟨h.cell 0, h.cell 1, h.cell 2, h.frozen 0, h.frozen 1, h.frozen 2⟩
/-- a struct whose cells lie in S is stored into a result cell, a block g of which S does not hold -/
theorem ret_struct {α : Type} [Rep α] {P : Program} {fn : Func} {p : Tmp} {ty t : TypeId} {d : TypeDesc} {w w2 : World} {tmps : Array Value} {defers : List Deferred} {g : Nat} {cs0 : Array Value} {cs : List Value} {S : Nat → Prop} {x : α} {R : Ending → World → Prop}
    (h : fn.results = #[.cell p ty]) (hp : tmps.getD p undef = .pointer (some ⟨g, 0, none⟩)) (hg : w.heap.size ≤ g) (hk : Blk w2 g t cs0) (hl : cs0.size = cs.length) (hu : P.underlying ty = some d) (hd : (match d with | .struct _ | .array _ _ => true | _ => false) = true) (hi : (P.info? ty).map (·.size) = some cs.length)
    (hr : Rep.rep w2 S cs x) (hS : ∀ b, S b → Fresh w w2 b ∧ b ≠ g) (hb : Below w.heap.size w w2) (hdf : defers = []) (hR : RetSV w x (.returned (.agg cs.toArray)) (setAll w2 g 0 cs) → R (.returned (.agg cs.toArray)) (setAll w2 g 0 cs)) :
    bodyPost P fn R Exit.ret { tmps := tmps, defers := defers } (setAll w2 g 0 cs) := by
  refine bodyPost_ret (results_cell_row h _ _ g t cs.toArray (0, 0) d hp (hk.setAll cs hl) hu hd (by simpa using hi)) hdf ?_
  refine hR ⟨_, rfl, ⟨cs, rfl, Rep.keep hr (fun b hb => ?_) ((Keeps.refl _ _).setAll (fun h => (hS g h).2 rfl) cs 0)⟩, below_setAll hb hg cs 0⟩
  have := (hS b hb).1
  exact ⟨this.1, by rw [size_setAll]; exact this.2⟩
theorem fresh_trans {a b c : World} (h : a.heap.size ≤ b.heap.size) : ∀ g, Fresh b c g → Fresh a c g := fun _ hg => ⟨Nat.le_trans h hg.1, hg.2⟩
theorem fresh_mono {a b c : World} (h : b.heap.size ≤ c.heap.size) : ∀ g, Fresh a b g → Fresh a c g := fun _ hg => ⟨hg.1, Nat.lt_of_lt_of_le hg.2 h⟩
theorem RetSV.undrew {α : Type} [Rep α] {w : World} {x : α} {e : Ending} {w' : World} (h : RetSV w.drew x e w') : RetSV w x e w' := by
  obtain ⟨v, he, hs, hb⟩ := h
  exact ⟨v, he, hs, below_drew hb⟩
theorem calls_drew {α : Type} [Rep α] {P : Program} {f : FuncId} {args : Array Value} {w : World} {x : α} (h : Calls P f args w.drew (RetSV w.drew x)) : Calls P f args w.drew (RetSV w x) := h.mono fun _ _ h => h.undrew
theorem calls_drew2 {α : Type} [Rep α] {P : Program} {f : FuncId} {args : Array Value} {w : World} {x : α} (h : Calls P f args w.drew.drew (RetSV w.drew.drew x)) : Calls P f args w.drew.drew (RetSV w x) := h.mono fun _ _ h => h.undrew.undrew
theorem Blk.farAll {w : World} {g g' : Nat} {t : TypeId} {cs : Array Value} (h : Blk w g t cs) (hg : g ≠ g') : ∀ (l : List Value) (i : Nat), Blk (Go.Proofs.YtjlhbfbdcfajfaaGreatDoor.setAll w g' i l) g t cs := by
  intro l
  induction l generalizing w with
  | nil => intro i; exact h
  | cons v l ih => intro i; exact ih (h.far (p := ⟨g', i, none⟩) hg v) (i + 1)
/-- all that lay in W lies so in w' -/
def Up (W w' : World) : Prop := Below W.heap.size W w'
theorem Up.out {W w' : World} (h : Up W w') : Below W.heap.size W w' := h
theorem Up.start (W : World) : Up W W.drew := (Below.refl _ _).drew
theorem Up.drew {W w1 : World} (h : Up W w1) : Up W w1.drew := Below.drew h
theorem Up.more {W w1 w2 : World} (h : Up W w1) (k : Below w1.heap.size w1 w2) : Up W w2 := below_more h k
end Go.Proofs.YtjlhbfbdcfajfaaGreatDoor
/- ratio: zero, Make, norm, size, Frac. -/
namespace Go.Proofs.YtjlhbfbdcfajfaaGreatDoor
open Go.RowKit

/-- a rational number: a sign, numerator and denominator -/
structure Q where
  neg : Bool
  n : Nat
  d : Nat
/-- lowest terms; 0 / 1 where a part is 0 -/
def mkQ (neg : Bool) (X Y : Nat) : Q := if X = 0 ∨ Y = 0 then ⟨false, 0, 1⟩ else ⟨neg, X / Nat.gcd X Y, Y / Nat.gcd X Y⟩

instance : Rep Q where
  sz := 3
  rep w S cs q := ∃ A n c A2 n2 c2, cs = [.bool q.neg, .slice A n c, .slice A2 n2 c2] ∧ RS w S A n c (lim q.n) ∧ RS w S A2 n2 c2 (lim q.d)
  len h := by obtain ⟨A, n, c, A2, n2, c2, rfl, _⟩ := h; rfl
  keep h hS hk := by
    obtain ⟨A, n, c, A2, n2, c2, rfl, h1, h2⟩ := h
    exact ⟨A, n, c, A2, n2, c2, rfl, h1.keep hS hk, h2.keep hS hk⟩

theorem one_lim : lim 1 = [1#32] := by
  rw [lim, dif_neg (by omega)]
  have : (1 : Nat) / 4294967296 = 0 := by decide
  rw [this, lim_zero]

theorem zero_ok (w : World) : Calls Tryz.prog 134 #[] w (RetSV w (⟨false, 0, 1⟩ : Q)) := by
  go_enter Tryz.func134, Tryz.ntmps134
  go_wp2_with fail
  have hb1 : Below w.heap.size w (w.alloc (.cells #[.bool false, .slice none 0 0, .slice none 0 0] 28)) := (Below.refl _ _).alloc (Nat.le_refl _) _
  refine (of_okN 1 _ (by omega)).mono ?_
  rintro e w2 ⟨v, rfl, ho, hb⟩
  obtain ⟨A, n, c, rfl, hn⟩ := ho.slice
  have hk : Blk w2 w.heap.size 28 #[.bool false, .slice none 0 0, .slice none 0 0] := (Blk.new _ _ _).keep hb
  have c0 : w2.cell? ⟨w.heap.size, 0, none⟩ = some (.bool false) := hk.cell 0
  have c1 : w2.cell? ⟨w.heap.size, 1, none⟩ = some (.slice none 0 0) := hk.cell 1
  have c2 : w2.cell? ⟨w.heap.size, 2, none⟩ = some (.slice none 0 0) := hk.cell 2
  have f0 := hk.frozen 0
  have f1 := hk.frozen 1
  have f2 := hk.frozen 2
  have HK := Lib.hid hk
  have HO := Lib.hid ho.rs8
  have HB := Lib.hid (below_more hb1 hb)
  clear ho hb hb1 hn hk
  go_wp2_with fail
  refine ret_struct (x := (⟨false, 0, 1⟩ : Q)) (cs := [.bool false, .slice none 0 0, .slice A n c]) rfl rfl (Nat.le_refl _) HK.out rfl Tryz.underlying28 rfl (by kernel_rfl) ⟨none, 0, 0, A, n, c, rfl, by rw [lim_zero]; exact RS.nil _ _, HO.out⟩ (fun b hb => ?_) HB.out rfl id
  have h1 := hb.1
  simp at h1
  exact ⟨⟨by omega, hb.2⟩, by omega⟩

theorem gcd_le (X Y : Nat) : Nat.gcd X Y ≤ X ∨ X = 0 := by
  rcases Nat.eq_zero_or_pos X with h | h
  · exact .inr h
  · exact .inl (Nat.gcd_le_left Y h)
theorem lim_le_of {xs : List (BitVec 32)} {m k : Nat} (hm : m ≤ val xs) (hl : xs.length ≤ k) : (lim m).length ≤ k := by
  have h1 := lim_length_mono hm
  rw [lim_val] at h1
  have := trimL_length xs
  omega

set_option maxRecDepth 20000 in
set_option maxHeartbeats 2000000 in
theorem make_ok {S S2 : Nat → Prop} {A A2 : Option Addr} {n c n2 c2 : Nat} {xs ys : List (BitVec 32)} {w : World} (neg : Bool) (h : RS w S A n c xs) (h2 : RS w S2 A2 n2 c2 ys) (hS : ∀ b, S b → b < w.heap.size) (hS2 : ∀ b, S2 b → b < w.heap.size) (hn : n ≤ 536870912) (hn2 : n2 ≤ 536870912) :
    Calls Tryz.prog 105 #[.bool neg, .slice A n c, .slice A2 n2 c2] w (RetSV w (mkQ neg (val xs) (val ys))) := by
  have hl1 := h.len
  have hl2 := h2.len
  have hA0 : ∀ w' : World, Below w.heap.size w w' → RS w' S A n c xs := fun _ hb => h.below hb hS
  have hB0 : ∀ w' : World, Below w.heap.size w w' → RS w' S2 A2 n2 c2 ys := fun _ hb => h2.below hb hS2
  have HA := Lib.hid hA0
  have HB := Lib.hid hB0
  have hlx : ∀ m, m ≤ val xs → (lim m).length ≤ 536870912 := fun m hm => lim_le_of hm (by omega)
  have HLX := Lib.hid hlx
  obtain ⟨X, hX⟩ : ∃ X, val xs = X := ⟨_, rfl⟩
  obtain ⟨Y, hY⟩ : ∃ Y, val ys = Y := ⟨_, rfl⟩
  have HX := Lib.hid hX
  have HY := Lib.hid hY
  rw [hX] at HLX
  rw [hX, hY]
  clear h h2 hA0 hB0 hl1 hl2 hlx hX hY
  have w0b : Below w.heap.size w (w.alloc (.cells #[.bool false, .slice none 0 0, .slice none 0 0] 28)) := (Below.refl _ _).alloc (Nat.le_refl _) _
  have w0k : Blk (w.alloc (.cells #[.bool false, .slice none 0 0, .slice none 0 0] 28)) w.heap.size 28 #[.bool false, .slice none 0 0, .slice none 0 0] := Blk.new _ _ _
  obtain ⟨w1, hw1⟩ : ∃ x, w.alloc (.cells #[.bool false, .slice none 0 0, .slice none 0 0] 28) = x := ⟨_, rfl⟩
  have hs1 : w1.heap.size = w.heap.size + 1 := by rw [← hw1]; simp
  rw [hw1] at w0b w0k
  have HW1 := Lib.hid hw1
  have WB := Lib.hid w0b
  have WK := Lib.hid w0k
  have HS1 := Lib.hid hs1
  clear w0b w0k hs1 hw1
  go_enter Tryz.func105, Tryz.ntmps105
  go_wp2_with fail
  rw [HW1.out]
  refine (bits_ok (HA.out _ WB.out) (by omega)).mono ?_
  rintro e w' ⟨rfl, rfl⟩
  rw [HX.out]
  by_cases hx0 : X = 0
  · subst hx0
    have hb0 : bitsN 0 = 0 := bitsN_zero.2 rfl
    rw [hb0]
    have hq : mkQ neg 0 Y = ⟨false, 0, 1⟩ := by unfold mkQ; rw [if_pos (.inl rfl)]
    have HQ := Lib.hid hq
    clear hb0 hq
    go_wp2_with fail
    refine (zero_ok w1).mono ?_
    rintro e w2 ⟨v, rfl, ⟨cs, rfl, hr⟩, hb⟩
    obtain ⟨A5, n5, c5, A6, n6, c6, rfl, h5, h6⟩ := hr
    obtain ⟨c0, c1, c2, f0, f1, f2⟩ := (WK.out.keep hb).facts3
    have HK := Lib.hid (WK.out.keep hb)
    have HB2 := Lib.hid (below_more WB.out hb)
    have H5 := Lib.hid h5
    have H6 := Lib.hid h6
    clear h5 h6 hb
    go_wp2_with fail
    refine ret_struct (x := (⟨false, 0, 1⟩ : Q)) (S := Fresh w1 w2) (cs := [.bool false, .slice A5 n5 c5, .slice A6 n6 c6]) rfl rfl (Nat.le_refl _) HK.out rfl Tryz.underlying28 rfl (by kernel_rfl) ⟨A5, n5, c5, A6, n6, c6, rfl, H5.out, H6.out⟩ (fun b hb => ?_) HB2.out rfl (by rw [HQ.out]; exact id)
    have h1 := hb.1
    rw [HS1.out] at h1
    exact ⟨⟨by omega, hb.2⟩, by omega⟩
  · have hb0 : ((bitsN X : Int) == 0) = false := by rw [beq_eq_false_iff_ne]; have : bitsN X ≠ 0 := fun e => hx0 (bitsN_zero.1 e); omega
    obtain ⟨bx, hbx⟩ : ∃ bx, bitsN X = bx := ⟨_, rfl⟩
    rw [hbx] at hb0
    rw [hbx]
    have HX0 := Lib.hid hx0
    clear hbx hx0
    go_wp2_with fail
    refine (bits_ok (HB.out _ WB.out) (by omega)).mono ?_
    rintro e w' ⟨rfl, rfl⟩
    rw [HY.out]
    by_cases hy0 : Y = 0
    · subst hy0
      have hb1 : bitsN 0 = 0 := bitsN_zero.2 rfl
      rw [hb1]
      have hq : mkQ neg X 0 = ⟨false, 0, 1⟩ := by unfold mkQ; rw [if_pos (.inr rfl)]
      have HQ := Lib.hid hq
      clear hb1 hq
      go_wp2_with fail
      refine (zero_ok w1).mono ?_
      rintro e w2 ⟨v, rfl, ⟨cs, rfl, hr⟩, hb⟩
      obtain ⟨A5, n5, c5, A6, n6, c6, rfl, h5, h6⟩ := hr
      obtain ⟨c0, c1, c2, f0, f1, f2⟩ := (WK.out.keep hb).facts3
      have HK := Lib.hid (WK.out.keep hb)
      have HB2 := Lib.hid (below_more WB.out hb)
      have H5 := Lib.hid h5
      have H6 := Lib.hid h6
      clear h5 h6 hb
      go_wp2_with fail
      refine ret_struct (x := (⟨false, 0, 1⟩ : Q)) (S := Fresh w1 w2) (cs := [.bool false, .slice A5 n5 c5, .slice A6 n6 c6]) rfl rfl (Nat.le_refl _) HK.out rfl Tryz.underlying28 rfl (by kernel_rfl) ⟨A5, n5, c5, A6, n6, c6, rfl, H5.out, H6.out⟩ (fun b hb => ?_) HB2.out rfl (by rw [HQ.out]; exact id)
      have h1 := hb.1
      rw [HS1.out] at h1
      exact ⟨⟨by omega, hb.2⟩, by omega⟩
    · have hb1 : ((bitsN Y : Int) == 0) = false := by rw [beq_eq_false_iff_ne]; have : bitsN Y ≠ 0 := fun e => hy0 (bitsN_zero.1 e); omega
      obtain ⟨by_, hby⟩ : ∃ bx, bitsN Y = bx := ⟨_, rfl⟩
      rw [hby] at hb1
      rw [hby]
      have hgp : 0 < Nat.gcd X Y := Nat.gcd_pos_of_pos_left _ (by have := HX0.out; omega)
      have hq : mkQ neg X Y = ⟨neg, X / Nat.gcd X Y, Y / Nat.gcd X Y⟩ := by unfold mkQ; rw [if_neg (fun h => h.elim HX0.out hy0)]
      have hgl : Nat.gcd X Y ≤ X := Nat.gcd_le_left Y (by have := HX0.out; omega)
      have hgl2 := HLX.out _ hgl
      obtain ⟨g, hg⟩ : ∃ g, Nat.gcd X Y = g := ⟨_, rfl⟩
      rw [hg] at hq hgp hgl hgl2
      have HGE := Lib.hid hg
      have HQ := Lib.hid hq
      have HGP := Lib.hid hgp
      have HGL := Lib.hid hgl2
      clear hby hy0 hg hq hgp hgl hgl2
      go_wp2_with fail
      refine (gcd_ok (HA.out _ WB.out) (HB.out _ WB.out) (fun b hb => Nat.lt_of_lt_of_le (hS b hb) WB.out.size) (fun b hb => Nat.lt_of_lt_of_le (hS2 b hb) WB.out.size) hn hn2).mono ?_
      rintro e w2 ⟨v, rfl, ho, hb⟩
      rw [HX.out, HY.out, HGE.out] at ho
      obtain ⟨Ag, ng, cg, rfl, hng⟩ := ho.slice
      have hng2 : ng ≤ 536870912 := by have := HGL.out; omega
      have HO := Lib.hid ho
      have B2 := Lib.hid (below_more WB.out hb)
      have HK := Lib.hid (WK.out.keep hb)
      have S12 := Lib.hid hb.size
      clear ho hb hng
      go_wp2_with fail
      refine (div_ok (HA.out _ B2.out) HO.out.rsAll (fun b hb => Nat.lt_of_lt_of_le (hS b hb) B2.out.size) (fun b hb => hb) hn hng2).mono ?_
      rintro e w3 ⟨vq, vr, rfl, hq, _, hb⟩
      rw [HX.out, val_lim, if_neg (by have := HGP.out; omega)] at hq
      rw [val_lim]
      obtain ⟨Aq, nq, cq, rfl, hnq⟩ := hq.slice
      have HQ3 := Lib.hid hq
      have HO3 := Lib.hid (HO.out.below hb)
      have B3 := Lib.hid (below_more B2.out hb)
      have HK3 := Lib.hid (HK.out.keep hb)
      have hs23 := hb.size
      clear hq hb hnq
      go_wp2_with fail
      refine (div_ok (HB.out _ B3.out) HO3.out.rsAll (fun b hb => Nat.lt_of_lt_of_le (hS2 b hb) B3.out.size) (fun b hb => hb) hn2 hng2).mono ?_
      rintro e w4 ⟨vd, vr2, rfl, hd, _, hb⟩
      rw [HY.out, val_lim, if_neg (by have := HGP.out; omega)] at hd
      rw [val_lim]
      obtain ⟨Ad, nd, cd, rfl, hnd⟩ := hd.slice
      have HD := Lib.hid hd.rs8
      have HQ4 := Lib.hid (HQ3.out.below hb).rs8
      have B4 := Lib.hid (below_more B3.out hb)
      obtain ⟨c0, c1, c2, f0, f1, f2⟩ := (HK3.out.keep hb).facts3
      have HK4 := Lib.hid (HK3.out.keep hb)
      have S34 := Lib.hid (show w2.heap.size ≤ w3.heap.size from hs23)
      clear hd hb hnd
      go_wp2_with fail
      refine ret_struct (x := mkQ neg X Y) (S := fun b => w2.heap.size ≤ b ∧ b < w4.heap.size) (cs := [.bool neg, .slice Aq nq cq, .slice Ad nd cd]) rfl rfl (Nat.le_refl _) HK4.out rfl Tryz.underlying28 rfl (by kernel_rfl) ⟨Aq, nq, cq, Ad, nd, cd, by rw [HQ.out], by rw [HQ.out]; exact HQ4.out, by rw [HQ.out]; exact HD.out.sub (fun b hb => ⟨Nat.le_trans S34.out hb.1, hb.2⟩)⟩ (fun b hb => ?_) B4.out rfl id
      have h1 := hb.1
      have h2 := S12.out
      rw [HS1.out] at h2
      exact ⟨⟨by omega, hb.2⟩, by omega⟩
end Go.Proofs.YtjlhbfbdcfajfaaGreatDoor
/- ratio: norm, size, Frac, sum. -/
namespace Go.Proofs.YtjlhbfbdcfajfaaGreatDoor
open Go.RowKit

/-- a Ratio of any form -/
structure Raw where
  neg : Bool
  num : List (BitVec 32)
  den : List (BitVec 32)
instance : Rep Raw where
  sz := 3
  rep w S cs q := ∃ A n c A2 n2 c2, cs = [.bool q.neg, .slice A n c, .slice A2 n2 c2] ∧ RS w S A n c q.num ∧ RS w S A2 n2 c2 q.den
  len h := by obtain ⟨A, n, c, A2, n2, c2, rfl, _⟩ := h; rfl
  keep h hS hk := by
    obtain ⟨A, n, c, A2, n2, c2, rfl, h1, h2⟩ := h
    exact ⟨A, n, c, A2, n2, c2, rfl, h1.keep hS hk, h2.keep hS hk⟩
/-- its normal form -/
def Raw.q (r : Raw) : Q := mkQ r.neg (val r.num) (val r.den)
def Q.raw (q : Q) : Raw := ⟨q.neg, lim q.n, lim q.d⟩
theorem SV.raw {w : World} {S : Nat → Prop} {v : Value} {q : Q} (h : SV w S v q) : SV w S v q.raw := h
theorem Q.raw_q (q : Q) : q.raw.q = mkQ q.neg q.n q.d := by simp [Q.raw, Raw.q, val_lim]
/-- its parts have at most k limbs -/
def Raw.short (r : Raw) (k : Nat) : Prop := r.num.length ≤ k ∧ r.den.length ≤ k

theorem SV.raw_cases {w : World} {S : Nat → Prop} {v : Value} {r : Raw} (h : SV w S v r) : ∃ A n c A2 n2 c2, v = .agg #[.bool r.neg, .slice A n c, .slice A2 n2 c2] ∧ RS w S A n c r.num ∧ RS w S A2 n2 c2 r.den := by
  obtain ⟨cs, rfl, A, n, c, A2, n2, c2, rfl, h1, h2⟩ := h
  exact ⟨A, n, c, A2, n2, c2, rfl, h1, h2⟩

set_option maxRecDepth 20000 in
set_option maxHeartbeats 1000000 in
theorem normR_ok {S : Nat → Prop} {v : Value} {r : Raw} {w : World} (h : SV w S v r) (hS : ∀ b, S b → b < w.heap.size) (hl : r.short 536870912) :
    Calls Tryz.prog 74 #[v] w (RetSV w r.q) := by
  obtain ⟨A, n, c, A2, n2, c2, rfl, h1, h2⟩ := h.raw_cases
  have hn : n ≤ 536870912 := by rw [← h1.len]; exact hl.1
  have hn2 : n2 ≤ 536870912 := by rw [← h2.len]; exact hl.2
  obtain ⟨neg, num, den⟩ := r
  have hbb : Below w.heap.size w ((w.alloc (.cells #[.bool neg, .slice A n c, .slice A2 n2 c2] 28)).alloc (.cells #[.bool false, .slice none 0 0, .slice none 0 0] 28)) :=
    ((Below.refl _ _).alloc (Nat.le_refl _) _).alloc (by simp) _
  have hkk : Blk ((w.alloc (.cells #[.bool neg, .slice A n c, .slice A2 n2 c2] 28)).alloc (.cells #[.bool false, .slice none 0 0, .slice none 0 0] 28)) (w.heap.size + 1) 28 #[.bool false, .slice none 0 0, .slice none 0 0] :=
    Blk.new' (by simp) _ _
  obtain ⟨w1, hw1⟩ : ∃ x, (w.alloc (.cells #[.bool neg, .slice A n c, .slice A2 n2 c2] 28)).alloc (.cells #[.bool false, .slice none 0 0, .slice none 0 0] 28) = x := ⟨_, rfl⟩
  have hs1 : w1.heap.size = w.heap.size + 2 := by rw [← hw1]; simp
  rw [hw1] at hbb hkk
  have H1 := Lib.hid (h1.below hbb hS)
  have H2 := Lib.hid (h2.below hbb hS)
  have HW1 := Lib.hid hw1
  have HBB := Lib.hid hbb
  have HKK := Lib.hid hkk
  have HS1 := Lib.hid hs1
  clear h h1 h2 hl hw1 hbb hkk hs1
  go_enter Tryz.func74, Tryz.ntmps74
  go_wp2_with fail
  rw [HW1.out]
  refine (make_ok neg H1.out H2.out (fun b hb => Nat.lt_of_lt_of_le (hS b hb) HBB.out.size) (fun b hb => Nat.lt_of_lt_of_le (hS b hb) HBB.out.size) hn hn2).mono ?_
  rintro e w2 ⟨v, rfl, ⟨cs, rfl, hr⟩, hb⟩
  have hr' := hr
  obtain ⟨A5, n5, c5, A6, n6, c6, rfl, _, _⟩ := hr'
  obtain ⟨c0, c1, c2, f0, f1, f2⟩ := (HKK.out.keep hb).facts3
  have HK := Lib.hid (HKK.out.keep hb)
  have HB2 := Lib.hid (below_more HBB.out hb)
  have HR := Lib.hid hr
  obtain ⟨q, hq⟩ : ∃ q, mkQ neg (val num) (val den) = q := ⟨_, rfl⟩
  rw [hq] at HR ⊢
  have HQ := Lib.hid hq
  clear hr hb hq
  go_wp2_with fail
  refine ret_struct (x := q) (S := Fresh w1 w2) (cs := [.bool q.neg, .slice A5 n5 c5, .slice A6 n6 c6]) rfl rfl (Nat.le_succ _) HK.out rfl Tryz.underlying28 rfl (by kernel_rfl) HR.out (fun b hb => ?_) HB2.out rfl (by rw [← HQ.out]; exact id)
  have h1 := hb.1
  rw [HS1.out] at h1
  exact ⟨⟨by omega, hb.2⟩, by omega⟩

theorem RetN.slice {w : World} {e : TypeId} {xs : List (BitVec 32)} {en : Ending} {w' : World} (h : RetN w e xs en w') : ∃ A n c, en = .returned (.slice A n c) ∧ n = xs.length ∧ RS w' (Fresh w w') A n c xs ∧ Below w.heap.size w w' := by
  obtain ⟨v, rfl, ho, hb⟩ := h
  obtain ⟨A, n, c, rfl, hn⟩ := ho.slice
  exact ⟨A, n, c, rfl, hn, ho.fresh (Nat.le_refl _), hb⟩

/-- the absolute value of an int -/
theorem size_ok (n : Int) (w : World) (h0 : -9223372036854775808 ≤ n) (h1 : n ≤ 9223372036854775807) : Calls Tryz.prog 196 #[.int .i64 n] w (RetN w 98 (lim n.natAbs)) := by
  by_cases hn : n < 0
  · have hd : decide (n < 0) = true := decide_eq_true hn
    have hf : (n < 0) = True := eq_true hn
    obtain ⟨k, hk⟩ : ∃ k, n.natAbs = k := ⟨_, rfl⟩
    have e1 : IntKind.u64.wrap (-(IntKind.u64.wrap n)) = (k : Int) := by rw [IntKind.wrap_u64, IntKind.wrap_u64]; omega
    have hkb : k < 18446744073709551616 := by omega
    rw [hk]
    clear hk hn
    go_enter Tryz.func196, Tryz.ntmps196
    go_wp2_with fail
    refine (of_okN k w hkb).mono ?_
    rintro e w2 ⟨v, rfl, ho, hb⟩
    have HO := Lib.hid ho
    have HB := Lib.hid hb
    clear ho hb
    go_wp2_with fail
    go_ret
    exact ⟨_, rfl, HO.out, HB.out⟩
  · have hd : decide (n < 0) = false := decide_eq_false hn
    have hf : (n < 0) = False := eq_false hn
    obtain ⟨k, hk⟩ : ∃ k, n.natAbs = k := ⟨_, rfl⟩
    have e1 : IntKind.u64.wrap n = (k : Int) := by rw [IntKind.wrap_u64]; omega
    have hkb : k < 18446744073709551616 := by omega
    rw [hk]
    clear hk hn
    go_enter Tryz.func196, Tryz.ntmps196
    go_wp2_with fail
    refine (of_okN k w hkb).mono ?_
    rintro e w2 ⟨v, rfl, ho, hb⟩
    have HO := Lib.hid ho
    have HB := Lib.hid hb
    clear ho hb
    go_wp2_with fail
    go_ret
    exact ⟨_, rfl, HO.out, HB.out⟩

theorem lim64 {k : Nat} (h : k < 18446744073709551616) : (lim k).length ≤ 2 := lim_length_le (k := 2) (by simpa using h)

set_option maxRecDepth 20000 in
set_option maxHeartbeats 1000000 in
theorem frac_ok (a b : Int) (w : World) (h0 : -9223372036854775808 ≤ a) (h1 : a ≤ 9223372036854775807) (h2 : -9223372036854775808 ≤ b) (h3 : b ≤ 9223372036854775807) :
    Calls Tryz.prog 178 #[.int .i64 a, .int .i64 b] w (RetSV w (mkQ (decide (a < 0) != decide (b < 0)) a.natAbs b.natAbs)) := by
  have hbb : Below w.heap.size w (w.alloc (.cells #[.bool false, .slice none 0 0, .slice none 0 0] 28)) := (Below.refl _ _).alloc (Nat.le_refl _) _
  have hkk : Blk (w.alloc (.cells #[.bool false, .slice none 0 0, .slice none 0 0] 28)) w.heap.size 28 #[.bool false, .slice none 0 0, .slice none 0 0] := Blk.new _ _ _
  obtain ⟨w1, hw1⟩ : ∃ x, w.alloc (.cells #[.bool false, .slice none 0 0, .slice none 0 0] 28) = x := ⟨_, rfl⟩
  have hs1 : w1.heap.size = w.heap.size + 1 := by rw [← hw1]; simp
  rw [hw1] at hbb hkk
  have HW1 := Lib.hid hw1
  have HBB := Lib.hid hbb
  have HKK := Lib.hid hkk
  have HS1 := Lib.hid hs1
  obtain ⟨neg, hneg⟩ : ∃ neg, (decide (a < 0) != decide (b < 0)) = neg := ⟨_, rfl⟩
  rw [hneg]
  have hneg2 : (!decide (a < 0) == decide (b < 0)) = neg := by rw [← hneg]; cases decide (a < 0) <;> cases decide (b < 0) <;> rfl
  have hla : (lim a.natAbs).length ≤ 2 := lim64 (by omega)
  have hlb : (lim b.natAbs).length ≤ 2 := lim64 (by omega)
  have HLA := Lib.hid hla
  have HLB := Lib.hid hlb
  clear hw1 hbb hkk hs1 hla hlb
  go_enter Tryz.func178, Tryz.ntmps178
  go_wp2_with fail
  rw [HW1.out]
  refine (size_ok a w1 h0 h1).mono ?_
  rintro e w2 h
  obtain ⟨A, n, c, rfl, hn, hr, hb⟩ := h.slice
  have hn2 : n ≤ 2 := by have := HLA.out; omega
  have HR := Lib.hid hr
  have HB := Lib.hid (below_more HBB.out hb)
  have HK := Lib.hid (HKK.out.keep hb)
  have HF := Lib.hid hb.size
  clear h hr hb hn
  go_wp2_with fail
  refine (size_ok b w2 h2 h3).mono ?_
  rintro e w3 h
  obtain ⟨A2, n2, c2, rfl, hnn, hr, hb⟩ := h.slice
  have hnn2 : n2 ≤ 2 := by have := HLB.out; omega
  have HR2 := Lib.hid hr
  have HR1 := Lib.hid (HR.out.below hb (fun _ h => h.2))
  have HB3 := Lib.hid (below_more HB.out hb)
  have HK3 := Lib.hid (HK.out.keep hb)
  have HF3 := Lib.hid hb.size
  clear h hr hb hnn
  go_wp2_with fail
  refine (make_ok neg HR1.out HR2.out (fun b hb => Nat.lt_of_lt_of_le hb.2 HF3.out) (fun b hb => hb.2) (by omega) (by omega)).mono ?_
  rintro e w4 ⟨v, rfl, ⟨cs, rfl, hr⟩, hb⟩
  have hr' := hr
  obtain ⟨A5, n5, c5, A6, n6, c6, rfl, _, _⟩ := hr'
  rw [val_lim, val_lim] at hr ⊢
  obtain ⟨c0, c1, c2, f0, f1, f2⟩ := (HK3.out.keep hb).facts3
  have HK4 := Lib.hid (HK3.out.keep hb)
  have HB4 := Lib.hid (below_more HB3.out hb)
  have HR4 := Lib.hid hr
  obtain ⟨q, hq⟩ : ∃ q, mkQ neg a.natAbs b.natAbs = q := ⟨_, rfl⟩
  rw [hq] at HR4 ⊢
  have HQ := Lib.hid hq
  clear hr hb hq
  go_wp2_with fail
  refine ret_struct (x := q) (S := Fresh w3 w4) (cs := [.bool q.neg, .slice A5 n5 c5, .slice A6 n6 c6]) rfl rfl (Nat.le_refl _) HK4.out rfl Tryz.underlying28 rfl (by kernel_rfl) HR4.out (fun b hb => ?_) HB4.out rfl (by rw [← HQ.out]; exact id)
  have h1 := hb.1
  have h2 := HF.out
  have h3 := HF3.out
  rw [HS1.out] at h2
  exact ⟨⟨by omega, hb.2⟩, by omega⟩
end Go.Proofs.YtjlhbfbdcfajfaaGreatDoor
