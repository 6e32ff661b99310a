/- Sch8 Src1 Src2 Src3 Same1 Same2 -/
import Derived.Test.YtjlhbfbdcfajfaaGreatDoorG14
/- schema: builder.head. -/
namespace Go.Proofs.YtjlhbfbdcfajfaaGreatDoor
open Go.RowKit

/-- what head answers: ns are the names that the builder holds for this kind -/
def headP (kind nm : ByteArray) (ns : List ByteArray) : Int :=
  if keysP kind = [] then 2
  else if namedP kind = false then (if nm ≠ ⟨#[]⟩ then 2 else if 0 < ns.length then 3 else 0)
  else if nm = ⟨#[]⟩ then 6
  else if bareL nm.data.toList = false ∨ ((nm.data.toList[0]?).getD 0).toNat < 97 ∨ 24 < nm.size then 8
  else if Lib.containsS ns nm = true then 3
  else if (ns.length : Int) = capacityP kind then 7 else 0

set_option maxRecDepth 20000 in
set_option maxHeartbeats 2000000 in
theorem head_ok {w : World} {bb mn N : Nat} {f : ByteArray → Option Value} (hlt : bb < w.heap.size) (hc : w.cell? ⟨bb, 14, none⟩ = some (.map (some mn))) (hm : MapIs w mn N f) (kind nm : ByteArray) (hkd : Sane kind) (hnm : Sane nm) {S : Nat → Prop} {A : Option Addr} {n c : Nat} {ns : List ByteArray}
    (hf : (f kind).getD (.slice none 0 0) = .slice A n c) (hr : RS w S A n c ns) (hS : ∀ b, S b → b < w.heap.size) (F : Value) (line : Int) (hFF : ∃ A n c, F = .slice A n c) :
    Calls Tryz.prog 94 #[.pointer (some ⟨bb, 0, none⟩), .agg #[.string kind, .string nm, F, .int .i64 line]] w (RetV w (.int .i64 (headP kind nm ns))) := by
  obtain ⟨AF, nF, cF, rfl⟩ := hFF
  have hkm : kind.size ≤ maxLen := Nat.le_trans hkd (by unfold maxLen; omega)
  obtain ⟨z, hz⟩ : ∃ z, headP kind nm ns = z := ⟨_, rfl⟩
  have hzz := hz.symm
  unfold headP at hzz
  rw [hz]
  have hbb : Below w.heap.size w (w.alloc (.cells #[.string kind, .string nm, .slice AF nF cF, .int .i64 line] 110)) := (Below.refl _ _).alloc (Nat.le_refl _) _
  have hkk : Blk (w.alloc (.cells #[.string kind, .string nm, .slice AF nF cF, .int .i64 line] 110)) w.heap.size 110 #[.string kind, .string nm, .slice AF nF cF, .int .i64 line] := Blk.new _ _ _
  obtain ⟨w1, hw1⟩ : ∃ x, w.alloc (.cells #[.string kind, .string nm, .slice AF nF cF, .int .i64 line] 110) = x := ⟨_, rfl⟩
  rw [hw1] at hbb hkk
  have k0 : w1.cell? ⟨w.heap.size, 0, none⟩ = some (.string kind) := hkk.cell 0
  have k1 : w1.cell? ⟨w.heap.size, 1, none⟩ = some (.string nm) := hkk.cell 1
  have kc : w1.cell? ⟨bb, 14, none⟩ = some (.map (some mn)) := by rw [hbb.cell hlt]; exact hc
  have HW1 := Lib.hid hw1
  have HZ := Lib.hid hzz
  have HM := Lib.hid (hm.keep hbb)
  have HF := Lib.hid hf
  have HR := Lib.hid hr
  have HBB := Lib.hid hbb
  have HKK := Lib.hid hkk
  clear hw1 hzz hz hm hf hr hbb hkk hc
  go_enter Tryz.func94, Tryz.ntmps94
  go_wp2_with fail
  rw [HW1.out]
  refine Go.wp_region_quiet_lit (by kernel_rfl) (by kernel_rfl) ?_
  repeat (first | (go_big_quiet_step (fail)) | (go_big_quiet_want; (with_reducible (refine quiet_lookup1 _ _ _ 22 rfl Tryz.underlying132 (.slice none 0 0) (fun _ => rfl) rfl HM.out kind rfl hkm (.slice A n c) HF.out ?_)); (try simp only [Act.put, List.setIfInBounds_toArray, List.set_cons_zero, List.set_cons_succ]); (try simp only [List.getElem_toArray, List.getElem_cons_zero, List.getElem_cons_succ]); go_big_quiet_on))
  refine Go.wpQuiet_nil ?_
  intro _ hw'
  obtain ⟨nq, hw''⟩ := hw'
  subst hw''
  have hb2 : Below w.heap.size w (w1.drewN nq) := below_drewN HBB.out nq
  have hk2 := HKK.out.drewN nq
  obtain ⟨w2, hw2⟩ : ∃ x, w1.drewN nq = x := ⟨_, rfl⟩
  rw [hw2] at hb2 hk2 ⊢
  have q0 : w2.cell? ⟨w.heap.size, 0, none⟩ = some (.string kind) := hk2.cell 0
  have q1 : w2.cell? ⟨w.heap.size, 1, none⟩ = some (.string nm) := hk2.cell 1
  have HB2 := Lib.hid hb2
  have HK2 := Lib.hid hk2
  clear hb2 hk2 hw2 HW1 HKK HBB k0 k1 kc HM HF
  go_wp2_with fail
  refine (keysP_ok kind w2).mono ?_
  rintro e w3 ⟨A3, n3, c3, rfl, hr3, hn3, hb3⟩
  have hb3' : Below w.heap.size w w3 := below_more HB2.out hb3
  have hk3 := HK2.out.keep hb3
  have p0 : w3.cell? ⟨w.heap.size, 0, none⟩ = some (.string kind) := hk3.cell 0
  have p1 : w3.cell? ⟨w.heap.size, 1, none⟩ = some (.string nm) := hk3.cell 1
  have HB3 := Lib.hid hb3'
  have hq := Lib.run_eql_slice_nil w3 22 9 A3 n3 c3 0 0 Tryz.underlying22
  have HK3 := Lib.hid hk3
  by_cases hke : keysP kind = []
  · obtain rfl : A3 = none := hn3.2 hke
    have h0 : n3 = 0 := by rw [← hr3.len, hke]; rfl
    subst h0
    have hzf := HZ.out
    rw [if_pos hke] at hzf
    have HZF := Lib.hid hzf
    clear hzf HZ hke hn3 hr3 hb3 hb3' hk3 q0 q1
    go_wp2_with fail
    go_ret
    exact ⟨by rw [HZF.out]; rfl, HB3.out⟩
  have hpos : 0 < n3 := by rw [← hr3.len]; exact List.length_pos_iff.2 hke
  obtain ⟨b3, o3, rfl⟩ := hr3.some_of hpos
  obtain ⟨nb, hnb⟩ : ∃ b, namedP kind = b := ⟨_, rfl⟩
  obtain ⟨L, hL⟩ : ∃ b, capacityP kind = b := ⟨_, rfl⟩
  have hnok := namedP_ok kind
  have hcok := capacityP_ok kind
  rw [hL] at hcok
  rw [hnb] at hnok
  have hz1 := HZ.out
  rw [if_neg hke, hnb, hL] at hz1
  have HZ1 := Lib.hid hz1
  have HNK := Lib.hid hnok
  have HCK := Lib.hid hcok
  have HLN := Lib.hid HR.out.len
  have hncap := HR.out.max
  clear hz1 HZ hke hn3 hr3 hb3 hb3' hk3 q0 q1 hnb hL hnok hcok
  go_wp2_with fail
  refine (HNK.out _).mono ?_
  rintro e w' ⟨rfl, rfl⟩
  cases nb
  case false =>
    by_cases hm0 : nm = ⟨#[]⟩
    · by_cases hn0 : 0 < n
      · skip
        have hzf : z = 3 := by
          rw [HZ1.out]
          rw [if_pos rfl, if_neg (fun h => h hm0), if_pos (by rw [HLN.out]; exact hn0)]
        have HZF := Lib.hid hzf
        clear hzf HZ1
        subst hm0
        have d0 : ((0 : Int) < (n : Int)) = True := eq_true (by omega)
        go_wp2_with fail
        refine (HNK.out _).mono ?_
        rintro e w' ⟨rfl, rfl⟩
        go_wp2_with fail
        go_ret
        exact ⟨by rw [HZF.out]; rfl, HB3.out⟩
      · have hn1 : n = 0 := by omega
        have hzf : z = 0 := by
          rw [HZ1.out]
          rw [if_pos rfl, if_neg (fun h => h hm0), if_neg (by rw [HLN.out]; exact hn0)]
        have HZF := Lib.hid hzf
        clear hzf HZ1
        subst hm0 hn1
        go_wp2_with fail
        refine (HNK.out _).mono ?_
        rintro e w' ⟨rfl, rfl⟩
        go_wp2_with fail
        refine (HNK.out _).mono ?_
        rintro e w' ⟨rfl, rfl⟩
        go_wp2_with fail
        go_ret
        exact ⟨by rw [HZF.out]; rfl, HB3.out⟩
    · have hme : (nm.toList == []) = false := str_ne (l := []) hm0
      have hzf : z = 2 := by
        rw [HZ1.out]
        rw [if_pos rfl, if_pos hm0]
      have HZF := Lib.hid hzf
      clear hzf HZ1
      clear hm0
      go_wp2_with fail
      go_ret
      exact ⟨by rw [HZF.out]; rfl, HB3.out⟩
  case true =>
    go_wp2_with fail
    refine (HNK.out _).mono ?_
    rintro e w' ⟨rfl, rfl⟩
    go_wp2_with fail
    refine (HNK.out _).mono ?_
    rintro e w' ⟨rfl, rfl⟩
    by_cases hm0 : nm = ⟨#[]⟩
    · have hzf : z = 6 := by
        rw [HZ1.out, if_neg (by decide), if_pos hm0]
      have HZF := Lib.hid hzf
      clear hzf HZ1
      subst hm0
      go_wp2_with fail
      go_ret
      exact ⟨by rw [HZF.out]; rfl, HB3.out⟩
    have hme : (nm.toList == []) = false := str_ne (l := []) hm0
    have h0 : 0 < nm.size := by
      rcases Nat.eq_zero_or_pos nm.size with h0 | h0
      · exact absurd (ByteArray.ext (Array.eq_empty_of_size_eq_zero h0)) hm0
      · exact h0
    have hz2 := HZ1.out
    rw [if_neg (by decide), if_neg hm0] at hz2
    obtain ⟨bl, hbl⟩ : ∃ b, bareL nm.data.toList = b := ⟨_, rfl⟩
    have hbk := bare_ok nm w3 (Nat.le_trans hnm (by omega))
    have hx := str_at h0
    obtain ⟨x, hxx⟩ : ∃ x, nm[0] = x := ⟨_, rfl⟩
    rw [hxx] at hx
    rw [hx, hbl] at hz2
    rw [hbl] at hbk
    have HZ2 := Lib.hid hz2
    have HBK := Lib.hid hbk
    have hns : nm.size ≤ 17592186044416 := hnm
    clear hz2 HZ1 hm0 hbl hbk hx
    go_wp2_with fail
    refine HBK.out.mono ?_
    rintro e w4 ⟨rfl, hb4⟩
    have hk4 := HK3.out.keep hb4
    have r0 : w4.cell? ⟨w.heap.size, 0, none⟩ = some (.string kind) := hk4.cell 0
    have r1 : w4.cell? ⟨w.heap.size, 1, none⟩ = some (.string nm) := hk4.cell 1
    have HB4 := Lib.hid (below_more HB3.out hb4)
    have HC := Lib.hid (containsS_ok (HR.out.below HB4.out hS) nm)
    clear hb4 hk4 HBK p0 p1 HK3 HB3
    cases bl
    case false =>
      have hzf : z = 8 := by
        rw [HZ2.out]
        rw [if_pos (.inl rfl)]
      have HZF := Lib.hid hzf
      clear hzf HZ2
      go_wp2_with fail
      go_ret
      exact ⟨by rw [HZF.out]; rfl, HB4.out⟩
    case true =>
      by_cases h97 : x.toNat < 97
      · have h97i : (x.toNat : Int) < 97 := by omega
        have hzf : z = 8 := by
          rw [HZ2.out]
          rw [if_pos (.inr (.inl h97))]
        have HZF := Lib.hid hzf
        clear hzf HZ2
        go_wp2_with fail
        go_ret
        exact ⟨by rw [HZF.out]; rfl, HB4.out⟩
      have h97i : ((x.toNat : Int) < 97) = False := eq_false (by omega)
      have h97f : (x.toNat < 97) = False := eq_false h97
      by_cases hsz : 24 < nm.size
      · have hszi : (24 : Int) < (nm.size : Int) := by omega
        have hzf : z = 8 := by
          rw [HZ2.out]
          rw [if_pos (.inr (.inr hsz))]
        have HZF := Lib.hid hzf
        clear hzf HZ2
        go_wp2_with fail
        go_ret
        exact ⟨by rw [HZF.out]; rfl, HB4.out⟩
      have hszi : ((24 : Int) < (nm.size : Int)) = False := eq_false (by omega)
      have hszf : (24 < nm.size) = False := eq_false hsz
      have hz3 := HZ2.out
      rw [if_neg (by rintro (h | h | h); exact absurd h (by decide); exact h97 h; exact hsz h)] at hz3
      obtain ⟨cb, hcb⟩ : ∃ b, Lib.containsS ns nm = b := ⟨_, rfl⟩
      have hcc := HC.out
      rw [hcb] at hcc hz3
      rw [HLN.out] at hz3
      have HZ3 := Lib.hid hz3
      have HCC := Lib.hid hcc
      clear hz3 HZ2 hcb hcc HC h97 hsz
      go_wp2_with fail
      refine HCC.out.mono ?_
      rintro e w' ⟨rfl, rfl⟩
      cases cb
      case true =>
        have hzf : z = 3 := by
          rw [HZ3.out]
          rw [if_pos rfl]
        have HZF := Lib.hid hzf
        clear hzf HZ3
        go_wp2_with fail
        go_ret
        exact ⟨by rw [HZF.out]; rfl, HB4.out⟩
      case false =>
        go_wp2_with fail
        refine (HCK.out _).mono ?_
        rintro e w' ⟨rfl, rfl⟩
        by_cases hL : (n : Int) = L
        · have hLb : ((n : Int) == L) = true := by rw [beq_iff_eq]; exact hL
          have hzf : z = 7 := by
            rw [HZ3.out]
            rw [if_neg (by decide), if_pos hL]
          have HZF := Lib.hid hzf
          clear hL hzf HZ3
          go_wp2_with fail
          go_ret
          exact ⟨by rw [HZF.out]; rfl, HB4.out⟩
        · have hLb : ((n : Int) == L) = false := by rw [beq_eq_false_iff_ne]; exact hL
          have hzf : z = 0 := by
            rw [HZ3.out]
            rw [if_neg (by decide), if_neg hL]
          have HZF := Lib.hid hzf
          clear hL hzf HZ3
          go_wp2_with fail
          go_ret
          exact ⟨by rw [HZF.out]; rfl, HB4.out⟩
end Go.Proofs.YtjlhbfbdcfajfaaGreatDoor
/- schema, the way back: choice, text. -/
namespace Go.Proofs.YtjlhbfbdcfajfaaGreatDoor
open Go.RowKit

instance : Rep FieldD where
  sz := 3
  rep w S cs x := ∃ A n c, cs = [.string x.key, .slice A n c, .int .i64 x.line] ∧ RS w S A n c x.vals
  len h := by obtain ⟨A, n, c, rfl, _⟩ := h; rfl
  keep h hS hk := by
    obtain ⟨A, n, c, rfl, h⟩ := h
    exact ⟨A, n, c, rfl, h.keep hS hk⟩

/-- the word of a choice, the empty string if there is none -/
def choiceP (k : ByteArray) (v : Int) : ByteArray := if v < 1 ∨ ((choicesP k).length : Int) < v then ⟨#[]⟩ else (choicesP k).getD (v.toNat - 1) ⟨#[]⟩

set_option maxRecDepth 20000 in
set_option maxHeartbeats 1000000 in
theorem choice_ok (k : ByteArray) (v : Int) (w : World) (hv : v ≤ 9223372036854775807) : Calls Tryz.prog 103 #[.string k, .int .i64 v] w (RetV w (.string (choiceP k v))) := by
  obtain ⟨z, hz⟩ : ∃ z, choiceP k v = z := ⟨_, rfl⟩
  have hzz := hz.symm
  unfold choiceP at hzz
  rw [hz]
  have HZ := Lib.hid hzz
  clear hz hzz
  go_enter Tryz.func103, Tryz.ntmps103
  go_wp2_with fail
  refine (choicesP_ok k w).mono ?_
  rintro e w1 ⟨A, n, c, rfl, hr, _, hb⟩
  have HB := Lib.hid hb
  have hcap := hr.max
  have hz1 := HZ.out
  rw [hr.len] at hz1
  have HZ1 := Lib.hid hz1
  have HR := Lib.hid hr
  clear hr hb hz1 HZ
  by_cases h1 : v < 1
  · have hzf : z = ⟨#[]⟩ := by rw [HZ1.out, if_pos (.inl h1)]
    have HZF := Lib.hid hzf
    clear hzf HZ1
    go_wp2_with fail
    go_ret
    exact ⟨by rw [HZF.out]; rfl, HB.out⟩
  have h1f : (v < 1) = False := eq_false h1
  by_cases h2 : (n : Int) < v
  · have hzf : z = ⟨#[]⟩ := by rw [HZ1.out, if_pos (.inr h2)]
    have HZF := Lib.hid hzf
    clear hzf HZ1 h1
    go_wp2_with fail
    go_ret
    exact ⟨by rw [HZF.out]; rfl, HB.out⟩
  have h2f : ((n : Int) < v) = False := eq_false h2
  obtain ⟨j, hj⟩ : ∃ j : Nat, v - 1 = (j : Int) := ⟨(v - 1).toNat, by omega⟩
  have hjn : j < n := by omega
  obtain ⟨b, o, x, rfl, _, hx, e1⟩ := HR.out.str_at hjn
  have hzf : z = x := by
    rw [HZ1.out, if_neg (by omega)]
    have : v.toNat - 1 = j := by omega
    rw [this, List.getD_eq_getElem?_getD, hx]
    rfl
  have hw : IntKind.i64.wrap (v - 1) = (j : Int) := by rw [IntKind.wrap_i64] <;> omega
  have hcj : (j : Int) ≤ (c : Int) := by have := HR.out.cap; omega
  have hjn' : (j : Int) < (n : Int) := by omega
  have HZF := Lib.hid hzf
  clear hzf HZ1 h1 h2 hj hx
  go_wp2_with fail
  go_ret
  exact ⟨by rw [HZF.out]; rfl, HB.out⟩

set_option maxRecDepth 20000 in
set_option maxHeartbeats 1000000 in
theorem textF_ok (k s : ByteArray) (w : World) : Calls Tryz.prog 72 #[.string k, .string s] w (RetSV w (⟨k, [s], 0⟩ : FieldD)) := by
  obtain ⟨w1, hw1⟩ : ∃ x, w.alloc (.cells #[.string k, .slice (some ⟨w.heap.size + 1, 0, none⟩) 1 1, .int .i64 0] 113) = x := ⟨_, rfl⟩
  have hsz : w1.heap.size = w.heap.size + 1 := by rw [← hw1]; simp
  have hb1 : Below w.heap.size w w1 := by rw [← hw1]; exact (Below.refl _ _).alloc (Nat.le_refl _) _
  have hk1 : Blk w1 w.heap.size 113 #[.string k, .slice (some ⟨w.heap.size + 1, 0, none⟩) 1 1, .int .i64 0] := by rw [← hw1]; exact Blk.new _ _ _
  obtain ⟨A, n, c, he, hr, _, hb2⟩ := retTab_lit w1 s [] (by simp [maxLen])
  injection he with he
  injection he with e1 e2 e3
  subst e1 e2 e3
  rw [hsz] at hr
  have HW1 := Lib.hid hw1
  have HB1 := Lib.hid hb1
  have HB2 := Lib.hid hb2
  have HR := Lib.hid hr
  have HK1 := Lib.hid hk1
  have HSZ := Lib.hid hsz
  clear hw1 hb1 hr hb2 hk1 hsz
  go_enter Tryz.func72, Tryz.ntmps72
  go_wp2_with fail
  rw [HW1.out]
  refine bodyPost_ret (results_cell_row rfl _ _ w.heap.size 113 #[.string k, .slice (some ⟨w.heap.size + 1, 0, none⟩) 1 1, .int .i64 0] (0, 0) _ rfl (HK1.out.keep HB2.out) Tryz.underlying113 rfl (by kernel_rfl)) rfl ?_
  exact ⟨_, rfl, ⟨_, rfl, _, _, _, rfl, HR.out.sub (fun b hb => ⟨Nat.le_trans HB1.out.size hb.1, hb.2⟩)⟩, below_more HB1.out HB2.out⟩
end Go.Proofs.YtjlhbfbdcfajfaaGreatDoor
/- schema, the way back: field. -/
namespace Go.Proofs.YtjlhbfbdcfajfaaGreatDoor
open Go.RowKit

/-- the table of strconv lies in w, and in every world that keeps what lies below B -/
def Tab (B : Nat) (w : World) : Prop := ∀ w', Below B w w' → Lib.TabIs Tryz.prog w' "internal/strconv.uint64pow10" .u64 Lib.pow10Tab
theorem Tab.keep {B : Nat} {w w' : World} (h : Tab B w) (hb : Below B w w') : Tab B w' := fun w2 h2 => h w2 (hb.trans h2)
theorem Tab.up {B : Nat} {w w' : World} (h : Tab B w) (hB : B ≤ w.heap.size) (hb : Below w.heap.size w w') : Tab B w' := h.keep (hb.mono hB)

/-- a number's text -/
def itoaP (n : Int) : ByteArray := ⟨(Lib.itoa n).toArray⟩
theorem itoa_ok {B : Nat} {w : World} (h : Tab B w) (n : Int) (h0 : -9223372036854775808 ≤ n) (h1 : n ≤ 9223372036854775807) : Calls Tryz.prog 102 #[.int .i64 n] w (RetV w (.string (itoaP n))) :=
  (Tryz.strconv_Itoa n h0 h1 w (h w (Below.refl _ _))).mono fun e w' hh => by
    obtain ⟨he, k, os, rfl⟩ := hh
    exact ⟨he, rfl, rfl, rfl, by show w.heap.size ≤ (w.heap ++ os).size; rw [Array.size_append]; omega, fun j hj => by show (w.heap ++ os)[j]? = _; exact Array.getElem?_append_left hj⟩

set_option maxRecDepth 20000 in
set_option maxHeartbeats 1000000 in
theorem fieldF_ok {B : Nat} {w : World} (h : Tab B w) (hB : B ≤ w.heap.size) (k : ByteArray) (v : Int) (h0 : -9223372036854775808 ≤ v) (h1 : v ≤ 9223372036854775807) :
    Calls Tryz.prog 68 #[.string k, .int .i64 v] w (RetSV w (⟨k, [itoaP v], 0⟩ : FieldD)) := by
  have hbb : Below w.heap.size w (w.alloc (.cells #[.string ⟨#[]⟩, .slice none 0 0, .int .i64 0] 113)) := (Below.refl _ _).alloc (Nat.le_refl _) _
  have hkk : Blk (w.alloc (.cells #[.string ⟨#[]⟩, .slice none 0 0, .int .i64 0] 113)) w.heap.size 113 #[.string ⟨#[]⟩, .slice none 0 0, .int .i64 0] := Blk.new _ _ _
  obtain ⟨w1, hw1⟩ : ∃ x, w.alloc (.cells #[.string ⟨#[]⟩, .slice none 0 0, .int .i64 0] 113) = x := ⟨_, rfl⟩
  rw [hw1] at hbb hkk
  obtain ⟨s, hs⟩ : ∃ s, itoaP v = s := ⟨_, rfl⟩
  have hit := itoa_ok (h.up hB hbb) v h0 h1
  rw [hs] at hit ⊢
  have HW1 := Lib.hid hw1
  have HBB := Lib.hid hbb
  have HKK := Lib.hid hkk
  have HIT := Lib.hid hit
  clear hw1 hbb hkk hit hs h
  go_enter Tryz.func68, Tryz.ntmps68
  go_wp2_with fail
  rw [HW1.out]
  refine HIT.out.mono ?_
  rintro e w2 ⟨rfl, hb2⟩
  have hb02 := below_more HBB.out hb2
  obtain ⟨A, n, c, he, hr, _, hb3⟩ := retTab_lit w2 s [] (by simp [maxLen])
  injection he with he
  injection he with e1 e2 e3
  subst e1 e2 e3
  have hk3 : Blk (w2.alloc (.cells #[.string s] 9)) w.heap.size 113 #[.string ⟨#[]⟩, .slice none 0 0, .int .i64 0] := (HKK.out.keep hb2).keep hb3
  obtain ⟨d0, d1, d2, d3, d4, d5⟩ := hk3.facts3
  have HK3 := Lib.hid hk3
  have HR := Lib.hid hr
  have HB3 := Lib.hid (below_more hb02 hb3)
  have hlt := HBB.out.size
  have HSZ := Lib.hid (show w.heap.size < w2.heap.size from Nat.lt_of_lt_of_le HKK.out.lt hb2.size)
  clear hb2 hb02 hr hb3 hk3 HIT
  go_wp2_with fail
  refine ret_struct (x := (⟨k, [s], 0⟩ : FieldD)) (S := Fresh w2 (w2.alloc (.cells #[.string s] 9))) (cs := [.string k, .slice (some ⟨w2.heap.size, 0, none⟩) 1 1, .int .i64 0]) rfl rfl (Nat.le_refl _) HK3.out rfl Tryz.underlying113 rfl (by kernel_rfl) ⟨_, _, _, rfl, HR.out⟩ (fun b hb => ?_) HB3.out rfl id
  have h1 := HSZ.out
  have h2 := hb.1
  exact ⟨⟨by omega, hb.2⟩, by omega⟩
end Go.Proofs.YtjlhbfbdcfajfaaGreatDoor
/- schema, the way back: names. -/
namespace Go.Proofs.YtjlhbfbdcfajfaaGreatDoor
open Go.RowKit

theorem Tryz.strsTy : SliceTy Tryz.prog 22 9 1 16 := SliceTy.mk' (z := .string ⟨#[]⟩) Tryz.underlying22 (by kernel_rfl) rfl (by omega)
theorem Own.own_ne {α : Type} [Rep α] {w : World} {S : Nat → Prop} {base : Nat} {e : TypeId} {v : Value} {xs : List α} (h : Own w S base e v xs) {g : Nat} (hg : g < base) : v.ownBlock ≠ some g := fun e => by
  have := (h.lt g e).1
  omega
/-- the name with this index, the empty string if there is none -/
def nameAt (fr : List ByteArray) (i : Int) : ByteArray := if 0 ≤ i ∧ i < (fr.length : Int) then fr.getD i.toNat ⟨#[]⟩ else ⟨#[]⟩
def namesP (idx : List Int) (fr : List ByteArray) : List ByteArray := idx.map (nameAt fr)

set_option maxRecDepth 20000 in
set_option maxHeartbeats 2000000 in
theorem names_ok {w : World} (key : ByteArray) {S S2 : Nat → Prop} {A A2 : Option Addr} {n c n2 c2 : Nat} {idx : List Int} {fr : List ByteArray} (h : RS w S A n c idx) (h2 : RS w S2 A2 n2 c2 fr) (hS : ∀ b, S b → b < w.heap.size) (hS2 : ∀ b, S2 b → b < w.heap.size) (hn : n ≤ 1099511627776) :
    Calls Tryz.prog 71 #[.string key, .slice A n c, .slice A2 n2 c2] w (RetSV w (⟨key, namesP idx fr, 0⟩ : FieldD)) := by
  obtain ⟨w1, hw1⟩ : ∃ x, (w.alloc (.cells #[.string ⟨#[]⟩, .slice none 0 0, .int .i64 0] 113)).alloc (.cells #[.string key, .slice none 0 0, .int .i64 0] 113) = x := ⟨_, rfl⟩
  have hb1 : Below w.heap.size w w1 := by rw [← hw1]; exact ((Below.refl _ _).alloc (Nat.le_refl _) _).alloc (by simp) _
  have hk6 : Blk w1 w.heap.size 113 #[.string ⟨#[]⟩, .slice none 0 0, .int .i64 0] := by rw [← hw1]; exact (Blk.new _ _ _).alloc _
  have hsz1 : w1.heap.size = w.heap.size + 2 := by rw [← hw1]; simp
  have hk7 : Blk w1 (w.heap.size + 1) 113 #[.string key, .slice none 0 0, .int .i64 0] := by
    rw [← hw1]
    have := Blk.new (w.alloc (.cells #[.string ⟨#[]⟩, .slice none 0 0, .int .i64 0] 113)) 113 #[.string key, .slice none 0 0, .int .i64 0]
    simpa using this
  have HW1 := Lib.hid hw1
  have HB1 := Lib.hid hb1
  have HK6a := Lib.hid hk6
  have HK7a := Lib.hid hk7
  have HSZ1 := Lib.hid hsz1
  have HI := Lib.hid h
  have HF := Lib.hid h2
  have HLI := Lib.hid h.len
  have HLF := Lib.hid h2.len
  have hnm := h.max
  have hnm2 := h2.max
  clear hw1 hb1 hk6 hk7 hsz1 h h2
  go_enter Tryz.func71, Tryz.ntmps71
  go_wp2_with fail
  rw [HW1.out]
  go_loopw [15] (fun iv wr => ∃ (k : Nat) (sl : Value), k ≤ n ∧ iv = .int .i64 k ∧ Blk wr (w.heap.size + 1) 113 #[.string key, sl, .int .i64 0] ∧ Own wr NoBlk (w.heap.size + 2) 9 sl (namesP (idx.take k) fr) ∧ Blk wr w.heap.size 113 #[.string ⟨#[]⟩, .slice none 0 0, .int .i64 0] ∧ Below w.heap.size w wr) (fun iv _ => n - (intOf iv).toNat)
  case atStart => exact ⟨0, _, Nat.zero_le _, rfl, HK7a.out, Own.nil _ _ _, HK6a.out, HB1.out⟩
  case round =>
    obtain ⟨k, sl, hk, rfl, hb7, hown, hb6, hbel⟩ := hrel
    have hsz : w.heap.size + 2 ≤ wr.heap.size := hb7.lt
    obtain ⟨q0, q1, q2, q3, q4, q5⟩ := hb7.facts3
    have HK7 := Lib.hid hb7
    have HK6 := Lib.hid hb6
    have HO := Lib.hid hown
    have HBL := Lib.hid hbel
    have HSZ := Lib.hid hsz
    have HNE := Lib.hid (show ∀ g, g < w.heap.size + 2 → some g ≠ sl.ownBlock from fun g hg e => hown.own_ne hg e.symm)
    have HLEN := Lib.hid (show (namesP (idx.take k) fr).length ≤ 1099511627776 by unfold namesP; rw [List.length_map, List.length_take]; omega)
    have hri := HI.out.below hbel hS
    have hrf := HF.out.below hbel hS2
    have HRI := Lib.hid hri
    have HRF := Lib.hid hrf
    clear hb7 hown hb6 hbel hsz hri hrf
    by_cases hlt : k < n
    · have hlt2 : (k : Int) < (n : Int) := by omega
      obtain ⟨b, o, x, rfl, _, hx, e1⟩ := HRI.out.int_at hlt
      have hkc : (k : Int) ≤ (c : Int) := by have := HRI.out.cap; omega
      have hkc2 : k ≤ c := by omega
      obtain ⟨y, hy⟩ : ∃ y, nameAt fr x = y := ⟨_, rfl⟩
      have hsuc : namesP (idx.take (k + 1)) fr = namesP (idx.take k) fr ++ [y] := by
        unfold namesP
        rw [take_snoc hx, List.map_append, ← hy]
        rfl
      have HSUC := Lib.hid hsuc
      have HY := Lib.hid hy
      clear hsuc hx hy
      by_cases h0 : 0 ≤ x
      · by_cases h1 : x < (n2 : Int)
        · obtain ⟨j, rfl⟩ : ∃ j : Nat, x = (j : Int) := ⟨x.toNat, by omega⟩
          have hjn : j < n2 := by omega
          obtain ⟨b2, o2, y', rfl, _, hy', e2⟩ := HRF.out.str_at hjn
          have hjc : (j : Int) ≤ (c2 : Int) := by have := HRF.out.cap; omega
          obtain rfl : y' = y := by
            have := HY.out
            unfold nameAt at this
            rw [if_pos ⟨h0, by rw [HLF.out]; exact h1⟩, Int.toNat_natCast, List.getD_eq_getElem?_getD, hy'] at this
            exact this
          clear hy' HY
          go_wp2_with (at_builtin; refine wpList_append_gen (α := ByteArray) (w0 := w) (B := w.heap.size) (base := w.heap.size + 2) rfl _ _ 22 rfl 16 Tryz.strsTy rfl HO.out HBL.out (by omega) HSZ.out [.string y'] y' 1 rfl rfl 9 (by simp [Value.oneCell']) (by have := HLEN.out; omega) ?_; intro v4 w4 hown4 hb4 hg4 hl4; have hk4 := (HK7.out.alloc (.cells #[.string y'] 9)).grown hg4 (HNE.out _ (by omega)); have hz4 := (HK6.out.alloc (.cells #[.string y'] 9)).grown hg4 (HNE.out _ (by omega)); obtain ⟨d0, d1, d2, d3, d4, d5⟩ := hk4.facts3; have HK74 := Lib.hid hk4; have HK64 := Lib.hid hz4; obtain ⟨A4, n4, c4, rfl, hn4⟩ := hown4.slice; have HO4 := Lib.hid hown4; have HB4 := Lib.hid hb4; clear hown4 hb4 hg4 hl4 hn4 hk4 hz4)
          go_roundw
          case rel => exact ⟨k + 1, _, by omega, by go_num, HK74.out.set_ 1 _, by rw [HSUC.out]; exact HO4.out.setCell (p := ⟨w.heap.size + 1, 1, none⟩) (HO4.out.own_ne (by show w.heap.size + 1 < w.heap.size + 2; omega)) (fun _ h => h.elim) _, HK64.out.far (p := ⟨w.heap.size + 1, 1, none⟩) (by show w.heap.size ≠ w.heap.size + 1; omega) _, HB4.out.setCell (p := ⟨w.heap.size + 1, 1, none⟩) (by show w.heap.size ≤ w.heap.size + 1; omega) _⟩
          case measure => simp [intOf]; omega
        · have hyf : y = ⟨#[]⟩ := by
            have := HY.out
            unfold nameAt at this
            rw [if_neg (by rw [HLF.out]; omega)] at this
            exact this.symm
          have h1f : (x < (n2 : Int)) = False := eq_false h1
          have h0t : (0 ≤ x) = True := eq_true h0
          subst hyf
          clear h1 HY
          go_wp2_with (at_builtin; refine wpList_append_gen (α := ByteArray) (w0 := w) (B := w.heap.size) (base := w.heap.size + 2) rfl _ _ 22 rfl 16 Tryz.strsTy rfl HO.out HBL.out (by omega) HSZ.out [.string ⟨#[]⟩] (⟨#[]⟩ : ByteArray) 1 rfl rfl 9 (by simp [Value.oneCell']) (by have := HLEN.out; omega) ?_; intro v4 w4 hown4 hb4 hg4 hl4; have hk4 := (HK7.out.alloc (.cells #[.string ⟨#[]⟩] 9)).grown hg4 (HNE.out _ (by omega)); have hz4 := (HK6.out.alloc (.cells #[.string ⟨#[]⟩] 9)).grown hg4 (HNE.out _ (by omega)); obtain ⟨d0, d1, d2, d3, d4, d5⟩ := hk4.facts3; have HK74 := Lib.hid hk4; have HK64 := Lib.hid hz4; obtain ⟨A4, n4, c4, rfl, hn4⟩ := hown4.slice; have HO4 := Lib.hid hown4; have HB4 := Lib.hid hb4; clear hown4 hb4 hg4 hl4 hn4 hk4 hz4)
          go_roundw
          case rel => exact ⟨k + 1, _, by omega, by go_num, HK74.out.set_ 1 _, by rw [HSUC.out]; exact HO4.out.setCell (p := ⟨w.heap.size + 1, 1, none⟩) (HO4.out.own_ne (by show w.heap.size + 1 < w.heap.size + 2; omega)) (fun _ h => h.elim) _, HK64.out.far (p := ⟨w.heap.size + 1, 1, none⟩) (by show w.heap.size ≠ w.heap.size + 1; omega) _, HB4.out.setCell (p := ⟨w.heap.size + 1, 1, none⟩) (by show w.heap.size ≤ w.heap.size + 1; omega) _⟩
          case measure => simp [intOf]; omega
      · have hyf : y = ⟨#[]⟩ := by
          have := HY.out
          unfold nameAt at this
          rw [if_neg (by rw [HLF.out]; omega)] at this
          exact this.symm
        have h0f : (0 ≤ x) = False := eq_false h0
        subst hyf
        clear h0 HY
        go_wp2_with (at_builtin; refine wpList_append_gen (α := ByteArray) (w0 := w) (B := w.heap.size) (base := w.heap.size + 2) rfl _ _ 22 rfl 16 Tryz.strsTy rfl HO.out HBL.out (by omega) HSZ.out [.string ⟨#[]⟩] (⟨#[]⟩ : ByteArray) 1 rfl rfl 9 (by simp [Value.oneCell']) (by have := HLEN.out; omega) ?_; intro v4 w4 hown4 hb4 hg4 hl4; have hk4 := (HK7.out.alloc (.cells #[.string ⟨#[]⟩] 9)).grown hg4 (HNE.out _ (by omega)); have hz4 := (HK6.out.alloc (.cells #[.string ⟨#[]⟩] 9)).grown hg4 (HNE.out _ (by omega)); obtain ⟨d0, d1, d2, d3, d4, d5⟩ := hk4.facts3; have HK74 := Lib.hid hk4; have HK64 := Lib.hid hz4; obtain ⟨A4, n4, c4, rfl, hn4⟩ := hown4.slice; have HO4 := Lib.hid hown4; have HB4 := Lib.hid hb4; clear hown4 hb4 hg4 hl4 hn4 hk4 hz4)
        go_roundw
        case rel => exact ⟨k + 1, _, by omega, by go_num, HK74.out.set_ 1 _, by rw [HSUC.out]; exact HO4.out.setCell (p := ⟨w.heap.size + 1, 1, none⟩) (HO4.out.own_ne (by show w.heap.size + 1 < w.heap.size + 2; omega)) (fun _ h => h.elim) _, HK64.out.far (p := ⟨w.heap.size + 1, 1, none⟩) (by show w.heap.size ≠ w.heap.size + 1; omega) _, HB4.out.setCell (p := ⟨w.heap.size + 1, 1, none⟩) (by show w.heap.size ≤ w.heap.size + 1; omega) _⟩
        case measure => simp [intOf]; omega
    · have hkn : k = n := by omega
      have hall : idx.take k = idx := List.take_of_length_le (by rw [HLI.out]; omega)
      have hown := HO.out
      rw [hall] at hown
      obtain ⟨A4, n4, c4, rfl, hn4⟩ := hown.slice
      have HO4 := Lib.hid hown
      clear hn4
      have hlt' : ((k : Int) < (n : Int)) = False := eq_false (by omega)
      obtain ⟨z0, z1, z2, z3, z4, z5⟩ := HK6.out.facts3
      clear hown hall hkn
      go_wp2_with fail
      refine ret_struct (x := (⟨key, namesP idx fr, 0⟩ : FieldD)) (S := fun b => w.heap.size + 2 ≤ b ∧ b < wr.heap.size) (cs := [.string key, .slice A4 n4 c4, .int .i64 0]) rfl rfl (Nat.le_refl _) HK6.out rfl Tryz.underlying113 rfl (by kernel_rfl) ⟨_, _, _, rfl, HO4.out.rs8⟩ (fun b hb => ?_) HBL.out rfl id
      have h1 := hb.1
      exact ⟨⟨by omega, hb.2⟩, by omega⟩
end Go.Proofs.YtjlhbfbdcfajfaaGreatDoor
/- schema: sameStyle. -/
namespace Go.Proofs.YtjlhbfbdcfajfaaGreatDoor
open Go.RowKit

/-- a style -/
structure StyleD where
  name : ByteArray
  prec : List Int
  cont : List Int
instance : Rep StyleD where
  sz := 3
  rep w S cs x := ∃ A n c A2 n2 c2, cs = [.string x.name, .slice A n c, .slice A2 n2 c2] ∧ RS w S A n c x.prec ∧ RS w S A2 n2 c2 x.cont
  len h := by obtain ⟨A, n, c, A2, n2, c2, rfl, _⟩ := h; rfl
  keep h hS hk := by
    obtain ⟨A, n, c, A2, n2, c2, rfl, h1, h2⟩ := h
    exact ⟨A, n, c, A2, n2, c2, rfl, h1.keep hS hk, h2.keep hS hk⟩
def sameStyleP (a b : StyleD) : Bool := decide (a.name = b.name) && (decide (a.prec = b.prec) && decide (a.cont = b.cont))

set_option maxRecDepth 20000 in
set_option maxHeartbeats 1000000 in
theorem sameStyle_ok {w : World} {S S2 : Nat → Prop} {v v2 : Value} {a b : StyleD} (h : SV w S v a) (h2 : SV w S2 v2 b) (hS : ∀ b, S b → b < w.heap.size) (hS2 : ∀ b, S2 b → b < w.heap.size) :
    Calls Tryz.prog 80 #[v, v2] w (RetV w (.bool (sameStyleP a b))) := by
  obtain ⟨cs, rfl, A, n, c, A2, n2, c2, rfl, r1, r2⟩ := h
  obtain ⟨cs, rfl, A3, n3, c3, A4, n4, c4, rfl, r3, r4⟩ := h2
  obtain ⟨w1, hw1⟩ : ∃ x, (w.alloc (.cells #[.string a.name, .slice A n c, .slice A2 n2 c2] 97)).alloc (.cells #[.string b.name, .slice A3 n3 c3, .slice A4 n4 c4] 97) = x := ⟨_, rfl⟩
  have hb1 : Below w.heap.size w w1 := by rw [← hw1]; exact ((Below.refl _ _).alloc (Nat.le_refl _) _).alloc (by simp) _
  have hk6 : Blk w1 w.heap.size 97 #[.string a.name, .slice A n c, .slice A2 n2 c2] := by rw [← hw1]; exact (Blk.new _ _ _).alloc _
  have hk7 : Blk w1 (w.heap.size + 1) 97 #[.string b.name, .slice A3 n3 c3, .slice A4 n4 c4] := by
    rw [← hw1]
    have := Blk.new (w.alloc (.cells #[.string a.name, .slice A n c, .slice A2 n2 c2] 97)) 97 #[.string b.name, .slice A3 n3 c3, .slice A4 n4 c4]
    simpa using this
  have H1 := Lib.hid (r1.below hb1 hS)
  have H2 := Lib.hid (r2.below hb1 hS)
  have H3 := Lib.hid (r3.below hb1 hS2)
  have H4 := Lib.hid (r4.below hb1 hS2)
  obtain ⟨na, pa, ca⟩ := a
  obtain ⟨nb, pb, cb⟩ := b
  obtain ⟨z, hz⟩ : ∃ z, sameStyleP ⟨na, pa, ca⟩ ⟨nb, pb, cb⟩ = z := ⟨_, rfl⟩
  have hzz : z = (decide (na = nb) && (decide (pa = pb) && decide (ca = cb))) := hz.symm
  rw [hz]
  obtain ⟨d0, d1, d2, _, _, _⟩ := hk6.facts3
  obtain ⟨d3, d4, d5, _, _, _⟩ := hk7.facts3
  have HW1 := Lib.hid hw1
  have HB1 := Lib.hid hb1
  have HZ := Lib.hid hzz
  clear hw1 hb1 hz hzz hk6 hk7 r1 r2 r3 r4
  go_enter Tryz.func80, Tryz.ntmps80
  by_cases hn : na = nb
  · have hzf := HZ.out
    rw [decide_eq_true hn, Bool.true_and] at hzf
    have HZF := Lib.hid hzf
    have heq : (na.toList == nb.toList) = true := by rw [hn]; simp
    clear hzf HZ hn
    go_wp2_with fail
    rw [HW1.out]
    go_wp2_with fail
    refine (equalI_ok H1.out H3.out).mono ?_
    rintro e w' ⟨rfl, m, rfl⟩
    by_cases hx : pa = pb
    · have hzf := HZF.out
      rw [decide_eq_true hx, Bool.true_and] at hzf
      rw [decide_eq_true hx]
      have HZ2 := Lib.hid hzf
      clear hzf HZF hx
      go_wp2_with fail
      refine (equalI_ok (H2.out.drewN m) (H4.out.drewN m)).mono ?_
      rintro e w' ⟨rfl, m2, rfl⟩
      rw [← HZ2.out]
      go_wp2_with fail
      go_ret
      exact ⟨rfl, below_drewN HB1.out (m + m2)⟩
    · have hzf := HZF.out
      rw [decide_eq_false hx, Bool.false_and] at hzf
      rw [decide_eq_false hx]
      have HZ2 := Lib.hid hzf
      clear hzf HZF hx
      go_wp2_with fail
      go_ret
      exact ⟨by rw [HZ2.out]; rfl, below_drewN HB1.out m⟩
  · have hzf := HZ.out
    rw [decide_eq_false hn, Bool.false_and] at hzf
    have HZF := Lib.hid hzf
    have heq : (na.toList == nb.toList) = false := by
      have := Lib.bytes_beq_false_iff na nb
      exact this.2 hn
    clear hzf HZ hn
    go_wp2_with fail
    rw [HW1.out]
    go_wp2_with fail
    go_ret
    exact ⟨by rw [HZF.out]; rfl, HB1.out⟩
end Go.Proofs.YtjlhbfbdcfajfaaGreatDoor
/- schema: sameContest. PRINTED by wip/gen/same2.py -/
namespace Go.Proofs.YtjlhbfbdcfajfaaGreatDoor
open Go.RowKit

/-- a contest -/
structure ContestD where
  name : ByteArray
  cands : List ByteArray
  method : Int
  seats : Int
  ranks : Int
  digits : Int
  ties : Int
  over : Int
  skip : Int
instance : Rep ContestD where
  sz := 9
  rep w S cs x := ∃ A n c, cs = [.string x.name, .slice A n c, .int .i64 x.method, .int .i64 x.seats, .int .i64 x.ranks, .int .i64 x.digits, .int .i64 x.ties, .int .i64 x.over, .int .i64 x.skip] ∧ RS w S A n c x.cands
  len h := by obtain ⟨A, n, c, rfl, _⟩ := h; rfl
  keep h hS hk := by
    obtain ⟨A, n, c, rfl, h1⟩ := h
    exact ⟨A, n, c, rfl, h1.keep hS hk⟩
def sameContestP (a b : ContestD) : Bool := decide (a.name = b.name) && (decide (a.cands = b.cands) && (decide (a.method = b.method) && (decide (a.seats = b.seats) && (decide (a.ranks = b.ranks) && (decide (a.digits = b.digits) && (decide (a.ties = b.ties) && (decide (a.over = b.over) && (decide (a.skip = b.skip)))))))))

set_option maxRecDepth 20000 in
set_option maxHeartbeats 2000000 in
theorem sameContest_ok {w : World} {S S2 : Nat → Prop} {v v2 : Value} {a b : ContestD} (h : SV w S v a) (h2 : SV w S2 v2 b) (hS : ∀ b, S b → b < w.heap.size) (hS2 : ∀ b, S2 b → b < w.heap.size) :
    Calls Tryz.prog 78 #[v, v2] w (RetV w (.bool (sameContestP a b))) := by
  obtain ⟨cs, rfl, A, n, c, rfl, r1⟩ := h
  obtain ⟨cs, rfl, A3, n3, c3, rfl, r3⟩ := h2
  obtain ⟨w1, hw1⟩ : ∃ x, (w.alloc (.cells #[.string a.name, .slice A n c, .int .i64 a.method, .int .i64 a.seats, .int .i64 a.ranks, .int .i64 a.digits, .int .i64 a.ties, .int .i64 a.over, .int .i64 a.skip] 95)).alloc (.cells #[.string b.name, .slice A3 n3 c3, .int .i64 b.method, .int .i64 b.seats, .int .i64 b.ranks, .int .i64 b.digits, .int .i64 b.ties, .int .i64 b.over, .int .i64 b.skip] 95) = x := ⟨_, rfl⟩
  have hb1 : Below w.heap.size w w1 := by rw [← hw1]; exact ((Below.refl _ _).alloc (Nat.le_refl _) _).alloc (by simp) _
  have hk6 : Blk w1 w.heap.size 95 #[.string a.name, .slice A n c, .int .i64 a.method, .int .i64 a.seats, .int .i64 a.ranks, .int .i64 a.digits, .int .i64 a.ties, .int .i64 a.over, .int .i64 a.skip] := by rw [← hw1]; exact (Blk.new _ _ _).alloc _
  have hk7 : Blk w1 (w.heap.size + 1) 95 #[.string b.name, .slice A3 n3 c3, .int .i64 b.method, .int .i64 b.seats, .int .i64 b.ranks, .int .i64 b.digits, .int .i64 b.ties, .int .i64 b.over, .int .i64 b.skip] := by
    rw [← hw1]
    have := Blk.new (w.alloc (.cells #[.string a.name, .slice A n c, .int .i64 a.method, .int .i64 a.seats, .int .i64 a.ranks, .int .i64 a.digits, .int .i64 a.ties, .int .i64 a.over, .int .i64 a.skip] 95)) 95 #[.string b.name, .slice A3 n3 c3, .int .i64 b.method, .int .i64 b.seats, .int .i64 b.ranks, .int .i64 b.digits, .int .i64 b.ties, .int .i64 b.over, .int .i64 b.skip]
    simpa using this
  have H1 := Lib.hid (r1.below hb1 hS)
  have H3 := Lib.hid (r3.below hb1 hS2)
  obtain ⟨na, pa, a0, a1, a2, a3, a4, a5, a6⟩ := a
  obtain ⟨nb, pb, b0, b1, b2, b3, b4, b5, b6⟩ := b
  obtain ⟨z, hz⟩ : ∃ z, sameContestP ⟨na, pa, a0, a1, a2, a3, a4, a5, a6⟩ ⟨nb, pb, b0, b1, b2, b3, b4, b5, b6⟩ = z := ⟨_, rfl⟩
  have hzz : z = (decide (na = nb) && (decide (pa = pb) && (decide (a0 = b0) && (decide (a1 = b1) && (decide (a2 = b2) && (decide (a3 = b3) && (decide (a4 = b4) && (decide (a5 = b5) && (decide (a6 = b6)))))))))) := hz.symm
  rw [hz]
  have d0 : w1.cell? ⟨w.heap.size, 0, none⟩ = some (.string na) := hk6.cell 0
  have d1 : w1.cell? ⟨w.heap.size, 1, none⟩ = some (.slice A n c) := hk6.cell 1
  have e0 : w1.cell? ⟨w.heap.size + 1, 0, none⟩ = some (.string nb) := hk7.cell 0
  have e1 : w1.cell? ⟨w.heap.size + 1, 1, none⟩ = some (.slice A3 n3 c3) := hk7.cell 1
  have d2 : w1.cell? ⟨w.heap.size, 2, none⟩ = some (.int .i64 a0) := hk6.cell 2
  have e2 : w1.cell? ⟨w.heap.size + 1, 2, none⟩ = some (.int .i64 b0) := hk7.cell 2
  have d3 : w1.cell? ⟨w.heap.size, 3, none⟩ = some (.int .i64 a1) := hk6.cell 3
  have e3 : w1.cell? ⟨w.heap.size + 1, 3, none⟩ = some (.int .i64 b1) := hk7.cell 3
  have d4 : w1.cell? ⟨w.heap.size, 4, none⟩ = some (.int .i64 a2) := hk6.cell 4
  have e4 : w1.cell? ⟨w.heap.size + 1, 4, none⟩ = some (.int .i64 b2) := hk7.cell 4
  have d5 : w1.cell? ⟨w.heap.size, 5, none⟩ = some (.int .i64 a3) := hk6.cell 5
  have e5 : w1.cell? ⟨w.heap.size + 1, 5, none⟩ = some (.int .i64 b3) := hk7.cell 5
  have d6 : w1.cell? ⟨w.heap.size, 6, none⟩ = some (.int .i64 a4) := hk6.cell 6
  have e6 : w1.cell? ⟨w.heap.size + 1, 6, none⟩ = some (.int .i64 b4) := hk7.cell 6
  have d7 : w1.cell? ⟨w.heap.size, 7, none⟩ = some (.int .i64 a5) := hk6.cell 7
  have e7 : w1.cell? ⟨w.heap.size + 1, 7, none⟩ = some (.int .i64 b5) := hk7.cell 7
  have d8 : w1.cell? ⟨w.heap.size, 8, none⟩ = some (.int .i64 a6) := hk6.cell 8
  have e8 : w1.cell? ⟨w.heap.size + 1, 8, none⟩ = some (.int .i64 b6) := hk7.cell 8
  have HW1 := Lib.hid hw1
  have HB1 := Lib.hid hb1
  have HZ := Lib.hid hzz
  clear hw1 hb1 hz hzz hk6 hk7 r1 r3
  go_enter Tryz.func78, Tryz.ntmps78
  by_cases hn : na = nb
  case neg =>
    have hzf := HZ.out
    rw [decide_eq_false hn, Bool.false_and] at hzf
    have HZF := Lib.hid hzf
    have heq : (na.toList == nb.toList) = false := (Lib.bytes_beq_false_iff na nb).2 hn
    clear hzf HZ hn
    go_wp2_with fail
    rw [HW1.out]
    go_wp2_with fail
    go_ret
    exact ⟨by rw [HZF.out]; rfl, HB1.out⟩
  have hzf := HZ.out
  rw [decide_eq_true hn, Bool.true_and] at hzf
  have HZ0 := Lib.hid hzf
  have heq : (na.toList == nb.toList) = true := by rw [hn]; simp
  clear hzf HZ hn
  go_wp2_with fail
  rw [HW1.out]
  go_wp2_with fail
  refine (equalS_ok H1.out H3.out).mono ?_
  rintro e w' ⟨rfl, m, rfl⟩
  by_cases hx : pa = pb
  case neg =>
    have hzf := HZ0.out
    rw [decide_eq_false hx, Bool.false_and] at hzf
    rw [decide_eq_false hx]
    have HZF := Lib.hid hzf
    clear hzf HZ0 hx
    go_wp2_with fail
    go_ret
    exact ⟨by rw [HZF.out]; rfl, below_drewN HB1.out m⟩
  have hzf := HZ0.out
  rw [decide_eq_true hx, Bool.true_and] at hzf
  rw [decide_eq_true hx]
  have HZ1 := Lib.hid hzf
  clear hzf HZ0 hx
  by_cases h0 : a0 = b0
  case neg =>
    have hzf := HZ1.out
    rw [decide_eq_false h0, Bool.false_and] at hzf
    have HZF := Lib.hid hzf
    have g0 : (a0 == b0) = false := by rw [beq_eq_false_iff_ne]; exact h0
    clear hzf HZ1 h0
    go_wp2_with fail
    go_ret
    exact ⟨by rw [HZF.out]; rfl, below_drewN HB1.out m⟩
  have hzf := HZ1.out
  rw [decide_eq_true h0, Bool.true_and] at hzf
  have HZ2 := Lib.hid hzf
  have g0 : (a0 == b0) = true := by rw [beq_iff_eq]; exact h0
  clear hzf HZ1 h0
  by_cases h1 : a1 = b1
  case neg =>
    have hzf := HZ2.out
    rw [decide_eq_false h1, Bool.false_and] at hzf
    have HZF := Lib.hid hzf
    have g1 : (a1 == b1) = false := by rw [beq_eq_false_iff_ne]; exact h1
    clear hzf HZ2 h1
    go_wp2_with fail
    go_ret
    exact ⟨by rw [HZF.out]; rfl, below_drewN HB1.out m⟩
  have hzf := HZ2.out
  rw [decide_eq_true h1, Bool.true_and] at hzf
  have HZ3 := Lib.hid hzf
  have g1 : (a1 == b1) = true := by rw [beq_iff_eq]; exact h1
  clear hzf HZ2 h1
  by_cases h2 : a2 = b2
  case neg =>
    have hzf := HZ3.out
    rw [decide_eq_false h2, Bool.false_and] at hzf
    have HZF := Lib.hid hzf
    have g2 : (a2 == b2) = false := by rw [beq_eq_false_iff_ne]; exact h2
    clear hzf HZ3 h2
    go_wp2_with fail
    go_ret
    exact ⟨by rw [HZF.out]; rfl, below_drewN HB1.out m⟩
  have hzf := HZ3.out
  rw [decide_eq_true h2, Bool.true_and] at hzf
  have HZ4 := Lib.hid hzf
  have g2 : (a2 == b2) = true := by rw [beq_iff_eq]; exact h2
  clear hzf HZ3 h2
  by_cases h3 : a3 = b3
  case neg =>
    have hzf := HZ4.out
    rw [decide_eq_false h3, Bool.false_and] at hzf
    have HZF := Lib.hid hzf
    have g3 : (a3 == b3) = false := by rw [beq_eq_false_iff_ne]; exact h3
    clear hzf HZ4 h3
    go_wp2_with fail
    go_ret
    exact ⟨by rw [HZF.out]; rfl, below_drewN HB1.out m⟩
  have hzf := HZ4.out
  rw [decide_eq_true h3, Bool.true_and] at hzf
  have HZ5 := Lib.hid hzf
  have g3 : (a3 == b3) = true := by rw [beq_iff_eq]; exact h3
  clear hzf HZ4 h3
  by_cases h4 : a4 = b4
  case neg =>
    have hzf := HZ5.out
    rw [decide_eq_false h4, Bool.false_and] at hzf
    have HZF := Lib.hid hzf
    have g4 : (a4 == b4) = false := by rw [beq_eq_false_iff_ne]; exact h4
    clear hzf HZ5 h4
    go_wp2_with fail
    go_ret
    exact ⟨by rw [HZF.out]; rfl, below_drewN HB1.out m⟩
  have hzf := HZ5.out
  rw [decide_eq_true h4, Bool.true_and] at hzf
  have HZ6 := Lib.hid hzf
  have g4 : (a4 == b4) = true := by rw [beq_iff_eq]; exact h4
  clear hzf HZ5 h4
  by_cases h5 : a5 = b5
  case neg =>
    have hzf := HZ6.out
    rw [decide_eq_false h5, Bool.false_and] at hzf
    have HZF := Lib.hid hzf
    have g5 : (a5 == b5) = false := by rw [beq_eq_false_iff_ne]; exact h5
    clear hzf HZ6 h5
    go_wp2_with fail
    go_ret
    exact ⟨by rw [HZF.out]; rfl, below_drewN HB1.out m⟩
  have hzf := HZ6.out
  rw [decide_eq_true h5, Bool.true_and] at hzf
  have HZ7 := Lib.hid hzf
  have g5 : (a5 == b5) = true := by rw [beq_iff_eq]; exact h5
  clear hzf HZ6 h5
  by_cases h6 : a6 = b6
  case neg =>
    have hzf := HZ7.out
    rw [decide_eq_false h6] at hzf
    have HZF := Lib.hid hzf
    have g6 : (a6 == b6) = false := by rw [beq_eq_false_iff_ne]; exact h6
    clear hzf HZ7 h6
    go_wp2_with fail
    go_ret
    exact ⟨by rw [HZF.out]; rfl, below_drewN HB1.out m⟩
  have hzf := HZ7.out
  rw [decide_eq_true h6] at hzf
  have HZ8 := Lib.hid hzf
  have g6 : (a6 == b6) = true := by rw [beq_iff_eq]; exact h6
  clear hzf HZ7 h6
  go_wp2_with fail
  go_ret
  exact ⟨by rw [HZ8.out]; rfl, below_drewN HB1.out m⟩
end Go.Proofs.YtjlhbfbdcfajfaaGreatDoor
