/- Sch5 Map2 Sch6 -/
import Derived.Test.YtjlhbfbdcfajfaaGreatDoorG12
import Derived.Test.YtjlhbfbdcfajfaaGreatDoorG02
import Derived.BigQuiet
import Derived.Deep.RegionHeld3
/- schema: readOne. -/
namespace Go.Proofs.YtjlhbfbdcfajfaaGreatDoor
open Go.RowKit

def kRisk : ByteArray := ⟨#[114, 105, 115, 107]⟩
def kSeed : ByteArray := ⟨#[115, 101, 101, 100]⟩
/-- what readOne reads -/
def oneP (key s : ByteArray) (v : Vals) : Int × Vals :=
  if choicesP key ≠ [] then (if Lib.idxOfS (choicesP key) s + 1 = 0 then 2 else 0, { v with num := setF v.num key (Lib.idxOfS (choicesP key) s + 1) })
  else if key = kRisk then ((riskP s.data.toList).1, v.withRisk (riskP s.data.toList).2)
  else if key = kSeed then (if printP s 0 24 then (0, { v with seed := s }) else (8, v))
  else if (numP s.data.toList).2 = false then (5, v)
  else if (numP s.data.toList).1 < (boundsP key).1 ∨ (boundsP key).2 < (numP s.data.toList).1 then (4, v)
  else (0, { v with num := setF v.num key (numP s.data.toList).1 })

theorem idxFromS_range (x : ByteArray) : ∀ (zs : List ByteArray) (i : Nat), -1 ≤ Lib.idxFromS zs x i ∧ Lib.idxFromS zs x i ≤ (i + zs.length : Nat)
  | [], i => ⟨by simp [Lib.idxFromS], by simp only [Lib.idxFromS]; omega⟩
  | z :: zs, i => by
    have := idxFromS_range x zs (i + 1)
    unfold Lib.idxFromS
    rw [List.length_cons]
    split <;> omega
theorem choicesP_len (k : ByteArray) : (choicesP k).length ≤ 3 := by
  unfold choicesP
  split
  · decide
  split
  · decide
  split
  · decide
  split <;> decide
theorem idx_choices (k s : ByteArray) : -1 ≤ Lib.idxOfS (choicesP k) s ∧ Lib.idxOfS (choicesP k) s ≤ 10 := by
  have h := idxFromS_range s (choicesP k) 0
  have := choicesP_len k
  unfold Lib.idxOfS
  omega
/-- 'm[s]' where the entry is known -/
theorem wpList_lookup_hit {w : World} {b n : Nat} {f : ByteArray → Option Value} {ops : Array Oper} {rest : List Oper} {o : Oper} {a : Act} {Q : Exit → Act → World → Prop} (hg : o.guard = none) (m x : Operand) (t e : TypeId) (hop : o.op = Op.lookup t m x false)
    (ht : Tryz.prog.underlying t = some (.map 9 e)) (z : Value) (hz : (zeroValue e).run Tryz.prog w = .ok z w) (hm : a.eval m = .map (some b)) (h : MapIs w b n f) (s : ByteArray) (hx : a.eval x = .string s) (hs : s.size ≤ maxLen) (u : Value) (hu : (f s).getD z = u)
    (hK : wpList Tryz.prog ops Q rest (a.put o.dst u) w) : wpList Tryz.prog ops Q (o :: rest) a w :=
  wpList_lookup_map hg m x t e hop ht z hz hm h s hx hs (by rw [hu]; exact hK)
theorem ValIn.mono {w : World} {B g N m1 m2 m3 : Nat} {f : ByteArray → Option Value} {A A2 : Option Addr} {n c n2 c2 : Nat} {v : Vals} (h : ValIn w B g N m1 m2 m3 f A n c A2 n2 c2 v) {M : Nat} (hM : N ≤ M) : ValIn w B g M m1 m2 m3 f A n c A2 n2 c2 v :=
  { h with num := h.num.mono hM, lst := h.lst.mono hM, ln := h.ln.mono hM }
theorem ValIn.drew {w : World} {B g N m1 m2 m3 : Nat} {f : ByteArray → Option Value} {A A2 : Option Addr} {n c n2 c2 : Nat} {v : Vals} (h : ValIn w B g N m1 m2 m3 f A n c A2 n2 c2 v) : ValIn w.drew B g N m1 m2 m3 f A n c A2 n2 c2 v := h.keep (Below.refl _ _).drew
theorem MapIs.drew {w : World} {b n : Nat} {f : ByteArray → Option Value} (h : MapIs w b n f) : MapIs w.drew b n f := h.keep (Below.refl _ _).drew
theorem ValsAt.mono {w : World} {B g N : Nat} {v : Vals} (h : ValsAt w B g N v) {M : Nat} (hM : N ≤ M) : ValsAt w B g M v := by
  obtain ⟨m1, m2, m3, f, A, n, c, A2, n2, c2, h⟩ := h
  exact ⟨m1, m2, m3, f, A, n, c, A2, n2, c2, h.mono hM⟩

set_option maxRecDepth 20000 in
set_option maxHeartbeats 2000000 in
theorem readOne_ok {w : World} {B g N : Nat} {v : Vals} (h : ValsAt w B g N v) (hB : B ≤ w.heap.size) (hN : N < 4398046511104) (key s : ByteArray) (hk : Sane key) (hs : Sane s) :
    Calls Tryz.prog 125 #[.pointer (some ⟨g, 0, none⟩), .string key, .string s] w (RetVals w B g (N + 1) (oneP key s v).1 (oneP key s v).2) := by
  have hkm : key.size ≤ maxLen := Nat.le_trans hk (by unfold maxLen; omega)
  obtain ⟨p, hp⟩ : ∃ p, oneP key s v = p := ⟨_, rfl⟩
  have hpp := hp
  unfold oneP at hpp
  rw [hp]
  have HP := Lib.hid hpp
  have HV := Lib.hid h
  clear hp hpp h
  go_enter Tryz.func125, Tryz.ntmps125
  go_wp2_with fail
  refine (choicesP_ok key w).mono ?_
  rintro e w1 ⟨A, n, c, rfl, hr, hnil, hb1⟩
  have HR := Lib.hid hr
  have HB1 := Lib.hid hb1
  by_cases hne : choicesP key = []
  · obtain rfl : A = none := hnil.2 hne
    have hn0 : n = 0 := by rw [← hr.len, hne]; rfl
    subst hn0
    have hpp := HP.out
    rw [if_neg (by simp [hne])] at hpp
    have HP1 := Lib.hid hpp
    have HV1 := Lib.hid (HV.out.keep hb1)
    clear hr hnil hb1 hne hpp HP HR
    by_cases hr : key = kRisk
    · subst hr
      have hpp := HP1.out
      rw [if_pos rfl] at hpp
      have HP2 := Lib.hid hpp
      clear hpp HP1
      unfold kRisk
      go_wp2_with fail
      refine (readRisk_ok HV1.out (Nat.le_trans hB HB1.out.size) s hs).mono ?_
      rintro e w2 ⟨rfl, hv2, hb2⟩
      have HV2 := Lib.hid hv2
      have HB2 := Lib.hid hb2
      clear hv2 hb2
      go_wp2_with fail
      go_ret
      rw [← HP2.out]
      exact ⟨rfl, HV2.out.mono (Nat.le_succ _), (bc_of HB1.out hB).trans HB2.out⟩
    have er : (key.toList == [114, 105, 115, 107]) = false := str_ne (l := [114, 105, 115, 107]) hr
    by_cases he : key = kSeed
    · subst he
      have hpp := HP1.out
      rw [if_neg hr, if_pos rfl] at hpp
      obtain ⟨q, hq⟩ : ∃ q, printP s 0 24 = q := ⟨_, rfl⟩
      have hpr := print_ok s 0 24 w1 (Nat.le_trans hs (by omega))
      rw [hq] at hpp hpr
      have HP2 := Lib.hid hpp
      have HPR := Lib.hid hpr
      clear hpp HP1 hq hpr hr
      unfold kSeed at er ⊢
      go_wp2_with fail
      refine HPR.out.mono ?_
      rintro e w2 ⟨rfl, hb2⟩
      obtain ⟨m1, m2, m3, f, A1, n1, c1, A2, n2, c2, hin⟩ := HV1.out.keep hb2
      have HIN := Lib.hid hin
      have k6 : w2.cell? ⟨g, 6, none⟩ = some (.string v.seed) := hin.blk.cell 6
      have f6 := hin.blk.frozen 6
      have HB2 := Lib.hid (show BC B g w w2 from (bc_of HB1.out hB).trans (bc_of hb2 (Nat.le_trans hB HB1.out.size)))
      clear hin hb2 HPR
      cases q
      · have hpq := HP2.out
        rw [if_neg (by decide)] at hpq
        have HPQ := Lib.hid hpq
        clear hpq HP2
        go_wp2_with fail
        go_ret
        rw [← HPQ.out]
        exact ⟨rfl, ⟨_, _, _, _, _, _, _, _, _, _, HIN.out.mono (Nat.le_succ _)⟩, HB2.out⟩
      · have hpq := HP2.out
        rw [if_pos rfl] at hpq
        have HPQ := Lib.hid hpq
        clear hpq HP2
        go_wp2_with fail
        go_ret
        rw [← HPQ.out]
        exact ⟨rfl, ⟨_, _, _, _, _, _, _, _, _, _, (HIN.out.setSeed s).mono (Nat.le_succ _)⟩, HB2.out.set HIN.out.hg 6 _⟩
    have ee : (key.toList == [115, 101, 101, 100]) = false := str_ne (l := [115, 101, 101, 100]) he
    have hpp := HP1.out
    rw [if_neg hr, if_neg he] at hpp
    have hnm := num_ok s w1 (Nat.le_trans hs (by omega))
    obtain ⟨z, hz⟩ : ∃ z, (numP s.data.toList).1 = z := ⟨_, rfl⟩
    obtain ⟨q, hq⟩ : ∃ z, (numP s.data.toList).2 = z := ⟨_, rfl⟩
    obtain ⟨lo, hlo⟩ : ∃ z, (boundsP key).1 = z := ⟨_, rfl⟩
    obtain ⟨hi, hhi⟩ : ∃ z, (boundsP key).2 = z := ⟨_, rfl⟩
    have hbo := boundsP_ok key
    rw [hz, hq] at hnm hpp
    rw [hlo, hhi] at hpp
    simp only [hlo, hhi] at hbo
    have HP2 := Lib.hid hpp
    have HNM := Lib.hid hnm
    have HBO := Lib.hid hbo
    clear hpp HP1 hq hz hlo hhi hnm hbo hr he
    go_wp2_with fail
    refine HNM.out.mono ?_
    rintro e w2 ⟨rfl, hb2⟩
    obtain ⟨m1, m2, m3, f, A1, n1, c1, A2, n2, c2, hin⟩ := HV1.out.keep hb2
    have HIN := Lib.hid hin
    have k0 : w2.cell? ⟨g, 0, none⟩ = some (.map (some m1)) := hin.blk.cell 0
    have HB2 := Lib.hid (show BC B g w w2 from (bc_of HB1.out hB).trans (bc_of hb2 (Nat.le_trans hB HB1.out.size)))
    have HS := Lib.hid hb2.size
    clear hin hb2 HNM er ee
    go_wp2_with fail
    refine (HBO.out w2).mono ?_
    rintro e w3 ⟨rfl, rfl⟩
    cases q
    · have hpq := HP2.out
      rw [if_pos rfl] at hpq
      have HPQ := Lib.hid hpq
      clear hpq HP2
      go_wp2_with fail
      go_ret
      rw [← HPQ.out]
      exact ⟨rfl, ⟨_, _, _, _, _, _, _, _, _, _, HIN.out.mono (Nat.le_succ _)⟩, HB2.out⟩
    have hpq := HP2.out
    rw [if_neg (by decide)] at hpq
    by_cases h1 : z < lo
    · rw [if_pos (Or.inl h1)] at hpq
      have HPQ := Lib.hid hpq
      clear hpq HP2
      go_wp2_with fail
      go_ret
      rw [← HPQ.out]
      exact ⟨rfl, ⟨_, _, _, _, _, _, _, _, _, _, HIN.out.mono (Nat.le_succ _)⟩, HB2.out⟩
    by_cases h2 : hi < z
    · rw [if_pos (Or.inr h2)] at hpq
      have HPQ := Lib.hid hpq
      have h1' : (z < lo) = False := by simpa using h1
      clear hpq HP2 h1
      go_wp2_with fail
      go_ret
      rw [← HPQ.out]
      exact ⟨rfl, ⟨_, _, _, _, _, _, _, _, _, _, HIN.out.mono (Nat.le_succ _)⟩, HB2.out⟩
    rw [if_neg (by omega)] at hpq
    have HPQ := Lib.hid hpq
    have h1' : (z < lo) = False := by simpa using h1
    have h2' : (hi < z) = False := by simpa using h2
    clear hpq HP2 h1 h2
    go_wp2_with (refine wpList_store_map rfl _ _ _ _ 3 rfl Tryz.underlying166 rfl HIN.out.num (Nat.lt_of_lt_of_le hN (by unfold maxLen; omega)) key (.int .i64 z) rfl rfl hkm ?_; intro w4 hm4 hgr4; have hin4 := HIN.out.setNum key z hm4 hgr4; have hbl := bc_grown HB2.out HIN.out.num hgr4 hin4.h1 (Nat.le_trans (Nat.le_trans hB HB1.out.size) HS.out); have HIN4 := Lib.hid hin4; have HBL := Lib.hid hbl; clear hm4 hgr4 hin4 hbl)
    go_ret
    rw [← HPQ.out]
    exact ⟨rfl, ⟨_, _, _, _, _, _, _, _, _, _, HIN4.out⟩, HBL.out⟩
  · have hpos : 0 < n := by rw [← hr.len]; exact List.length_pos_iff.2 hne
    obtain ⟨b, o, rfl⟩ := hr.some_of hpos
    have hpp := HP.out
    rw [if_pos hne] at hpp
    obtain ⟨z, hz⟩ : ∃ z, Lib.idxOfS (choicesP key) s = z := ⟨_, rfl⟩
    have hidx := fun w' (hu : Below w1.heap.size w1 w') => idxS_ok (hr.below hu (fun _ h => h.2)) s
    have hzr0 := idx_choices key s
    rw [hz] at hpp hidx hzr0
    have HZR := Lib.hid hzr0
    clear hzr0
    have HP1 := Lib.hid hpp
    have HI := Lib.hid hidx
    obtain ⟨m1, m2, m3, f, A1, n1, c1, A2, n2, c2, hin⟩ := HV.out.keep hb1
    have k0 : w1.cell? ⟨g, 0, none⟩ = some (.map (some m1)) := hin.blk.cell 0
    have HIN := Lib.hid hin
    clear hr hnil hb1 hne hpp hz hidx hin HP
    have hzr : -1 ≤ z ∧ z ≤ 10 := HZR.out
    obtain ⟨z1, hz1⟩ : ∃ z1, z + 1 = z1 := ⟨_, rfl⟩
    have wz : IntKind.i64.wrap z1 = z1 := by rw [IntKind.wrap_i64]; omega
    go_wp2_with fail
    refine wp_region_seq (fun w' => w'.cell? ⟨g, 0, none⟩ = some (.map (some m1))) 9
      [(0, true), (1, true), (2, true), (3, true), (4, true), (5, true), (6, true), (7, false), (8, true)]
      (by kernel_rfl) rfl (by kernel_rfl) (by kernel_rfl) (by kernel_rfl) (fun _ _ d _ _ h => by cases d <;> exact h) k0 ?_
    iterate 7
      refine seqL_read (v := ?_) rfl rfl ?_ ?_
      rotate_left 1
      · intro w hS
        go_simp
        with_reducible rfl
      simp only [Act.put, List.getElem_toArray, List.getElem_cons_zero, List.getElem_cons_succ, List.setIfInBounds_toArray, List.set_cons_zero, List.set_cons_succ]
    refine seqL_do rfl fun K hK => ?_
    go_simp
    refine (HI.out w1.drew (Below.refl _ _).drew).mono ?_
    rintro e w' ⟨rfl, rfl⟩
    refine hK _ _ k0 ?_
    clear hK K
    try simp only [Act.put, List.getElem_toArray, List.getElem_cons_zero, List.getElem_cons_succ, List.setIfInBounds_toArray, List.set_cons_zero, List.set_cons_succ]
    refine seqL_read (v := ?_) rfl rfl ?_ ?_
    rotate_left 1
    · intro w hS
      go_simp
      with_reducible rfl
    simp only [Act.put, List.getElem_toArray, List.getElem_cons_zero, List.getElem_cons_succ, List.setIfInBounds_toArray, List.set_cons_zero, List.set_cons_succ]
    refine seqL_last_go rfl rfl fun K hK => ?_
    refine wp_store_map _ _ _ 166 3 rfl Tryz.underlying166 rfl HIN.out.num.drew (Nat.lt_of_lt_of_le hN (by unfold maxLen; omega)) key (.int .i64 z1) rfl rfl hkm ?_
    intro w2 hm2 hgr2
    refine hK _ _ ?_
    clear hK K
    have hin2 := HIN.out.drew.setNum key z1 hm2 hgr2
    have kk : w2.cell? ⟨g, 0, none⟩ = some (.map (some m1)) := hin2.blk.cell 0
    have hbl : BC B g w w2 := bc_grown (bc_of HB1.out hB).drew HIN.out.num.drew hgr2 hin2.h1 (Nat.le_trans hB HB1.out.size)
    have HM2 := Lib.hid hm2
    have HIN2 := Lib.hid hin2
    have HBL := Lib.hid hbl
    clear hm2 hgr2 hin2 hbl
    have hpq := HP1.out
    rw [hz1] at hpq
    by_cases h0 : z1 = 0
    · subst h0
      rw [if_pos rfl] at hpq
      have HPQ := Lib.hid hpq
      clear hpq HP1 hz1
      go_wp2_with (at_lookup; refine wpList_lookup_hit rfl _ _ _ 3 rfl Tryz.underlying166 (.int .i64 0) rfl rfl HM2.out key rfl hkm (.int .i64 0) (by simp [upd]) ?_)
      go_ret
      rw [← HPQ.out]
      exact ⟨rfl, ⟨_, _, _, _, _, _, _, _, _, _, HIN2.out⟩, HBL.out⟩
    · rw [if_neg h0] at hpq
      have HPQ := Lib.hid hpq
      have hzf : (z1 == 0) = false := by simpa using h0
      clear hpq HP1 hz1 h0
      go_wp2_with (at_lookup; refine wpList_lookup_hit rfl _ _ _ 3 rfl Tryz.underlying166 (.int .i64 0) rfl rfl HM2.out key rfl hkm (.int .i64 z1) (by simp [upd]) ?_)
      go_ret
      rw [← HPQ.out]
      exact ⟨rfl, ⟨_, _, _, _, _, _, _, _, _, _, HIN2.out⟩, HBL.out⟩
end Go.Proofs.YtjlhbfbdcfajfaaGreatDoor
/- Look-ups in maps of the call, within a drawn region that only reads (go_quiet). -/
namespace Go.Proofs.YtjlhbfbdcfajfaaGreatDoor
open Go.RowKit Go.Maps Go.WideMaps

theorem MapIs.drewN {w : World} {b n : Nat} {f : ByteArray → Option Value} (h : MapIs w b n f) (k : Nat) : MapIs (w.drewN k) b n f := h.keep (below_drewN (Below.refl _ _) k)
/-- 'v, ok := m[s]', with the answers named -/
theorem wpList_lookup_hit2 {w : World} {b n : Nat} {f : ByteArray → Option Value} {ops : Array Oper} {rest : List Oper} {o : Oper} {a : Act} {Q : Exit → Act → World → Prop} (hg : o.guard = none) (m x : Operand) (t e : TypeId) (hop : o.op = Op.lookup t m x true)
    (ht : Tryz.prog.underlying t = some (.map 9 e)) (z : Value) (hz : (zeroValue e).run Tryz.prog w = .ok z w) (hm : a.eval m = .map (some b)) (h : MapIs w b n f) (s : ByteArray) (hx : a.eval x = .string s) (hs : s.size ≤ maxLen) (u : Value) (hu : (f s).getD z = u) (d : Bool) (hd : (f s).isSome = d)
    (hK : wpList Tryz.prog ops Q rest (a.put o.dst (.tuple #[u, .bool d])) w) : wpList Tryz.prog ops Q (o :: rest) a w :=
  wpList_lookup_map_ok hg m x t e hop ht z hz hm h s hx hs (by rw [hu, hd]; exact hK)
/-- the same in a region that draws its order -/
theorem quiet_lookup2 {W : World} {b n : Nat} {f : ByteArray → Option Value} {o : Oper} {a : Act} {K : Act → Prop} (m x : Operand) (t e : TypeId) (hop : o.op = Op.lookup t m x true)
    (ht : Tryz.prog.underlying t = some (.map 9 e)) (z : Value) (hz : ∀ w, (zeroValue e).run Tryz.prog w = .ok z w) (hm : a.eval m = .map (some b)) (h : MapIs W b n f) (s : ByteArray) (hx : a.eval x = .string s) (hs : s.size ≤ maxLen) (u : Value) (hu : (f s).getD z = u) (d : Bool) (hd : (f s).isSome = d)
    (hK : K (a.put o.dst (.tuple #[u, .bool d]))) : o.quiet Tryz.prog a (fun w' => ∃ n, w' = W.drewN n) K := by
  refine ⟨_, fun w hw => ?_, hK⟩
  obtain ⟨k, rfl⟩ := hw
  obtain ⟨D, h1, _, h2, h3⟩ := h.drewN k
  obtain ⟨v, ps, hrun, hv⟩ := h1.look_ok strKeyed ht (hz _) (zd := .held z) (zp := []) rfl (keyS_of s hs)
  rw [h3] at hv
  have hv' : v = (f s).getD z := held_inj hv
  unfold Oper.quietAt
  simp [execOp, hop, hm, hx, hrun, Oper.quietUpon, hv', hu, h2, hd]
/-- 'm[s]', with the answer named -/
theorem quiet_lookup1 {W : World} {b n : Nat} {f : ByteArray → Option Value} {o : Oper} {a : Act} {K : Act → Prop} (m x : Operand) (t e : TypeId) (hop : o.op = Op.lookup t m x false)
    (ht : Tryz.prog.underlying t = some (.map 9 e)) (z : Value) (hz : ∀ w, (zeroValue e).run Tryz.prog w = .ok z w) (hm : a.eval m = .map (some b)) (h : MapIs W b n f) (s : ByteArray) (hx : a.eval x = .string s) (hs : s.size ≤ maxLen) (u : Value) (hu : (f s).getD z = u)
    (hK : K (a.put o.dst u)) : o.quiet Tryz.prog a (fun w' => ∃ n, w' = W.drewN n) K := by
  refine ⟨_, fun w hw => ?_, hK⟩
  obtain ⟨k, rfl⟩ := hw
  obtain ⟨D, h1, _, h2, h3⟩ := h.drewN k
  obtain ⟨v, ps, hrun, hv⟩ := h1.lookup strKeyed ht (hz _) (zd := .held z) (zp := []) rfl (keyS_of s hs)
  rw [h3] at hv
  have hv' : v = (f s).getD z := held_inj hv
  unfold Oper.quietAt
  simp [execOp, hop, hm, hx, hrun, Oper.quietUpon, hv', hu]

end Go.Proofs.YtjlhbfbdcfajfaaGreatDoor
/- schema: values.read. -/
namespace Go.Proofs.YtjlhbfbdcfajfaaGreatDoor
open Go.RowKit

/-- a field of a block -/
structure FieldD where
  key : ByteArray
  vals : List ByteArray
  line : Int
/-- what read does with a field -/
def readP (kind : ByteArray) (f : FieldD) (v : Vals) : Int × Vals :=
  if Lib.containsS (keysP kind) f.key = false then (2, v)
  else if (v.ln f.key).isSome then (3, v)
  else if 0 < lengthP f.key then (listP f.vals (lengthP f.key), { v with ln := setF v.ln f.key f.line, lst := setF v.lst f.key f.vals })
  else if f.vals.length ≠ 1 then (7, { v with ln := setF v.ln f.key f.line })
  else oneP f.key (f.vals.getD 0 ⟨#[]⟩) { v with ln := setF v.ln f.key f.line }

set_option maxRecDepth 20000 in
set_option maxHeartbeats 2000000 in
theorem read_ok {w : World} {B g N : Nat} {v : Vals} (h : ValsAt w B g N v) (hB : B ≤ w.heap.size) (hN : N < 2199023255552) (kind k : ByteArray) (hk : Sane k) {S : Nat → Prop} {A : Option Addr} {n c : Nat} {xs : List ByteArray}
    (hr : RS w S A n c xs) (hS : ∀ b, S b → b < B) (hs : ∀ s ∈ xs, Sane s) (hn : n ≤ 1099511627776) (line : Int) :
    Calls Tryz.prog 95 #[.pointer (some ⟨g, 0, none⟩), .string kind, .agg #[.string k, .slice A n c, .int .i64 line]] w (RetVals w B g (N + 2) (readP kind ⟨k, xs, line⟩ v).1 (readP kind ⟨k, xs, line⟩ v).2) := by
  have hkm : k.size ≤ maxLen := Nat.le_trans hk (by unfold maxLen; omega)
  obtain ⟨p, hp⟩ : ∃ p, readP kind ⟨k, xs, line⟩ v = p := ⟨_, rfl⟩
  have hpp := hp
  unfold readP at hpp
  rw [hp]
  have hbb : Below w.heap.size w (w.alloc (.cells #[.string k, .slice A n c, .int .i64 line] 113)) := (Below.refl _ _).alloc (Nat.le_refl _) _
  have hkk : Blk (w.alloc (.cells #[.string k, .slice A n c, .int .i64 line] 113)) w.heap.size 113 #[.string k, .slice A n c, .int .i64 line] := Blk.new _ _ _
  obtain ⟨w1, hw1⟩ : ∃ x, w.alloc (.cells #[.string k, .slice A n c, .int .i64 line] 113) = x := ⟨_, rfl⟩
  rw [hw1] at hbb hkk
  obtain ⟨q, hq⟩ : ∃ q, Lib.containsS (keysP kind) k = q := ⟨_, rfl⟩
  have c0 : w1.cell? ⟨w.heap.size, 0, none⟩ = some (.string k) := hkk.cell 0
  have HW1 := Lib.hid hw1
  have HBB := Lib.hid hbb
  have HKK := Lib.hid hkk
  have HR := Lib.hid hr
  obtain ⟨m1, m2, m3, f, A5, n5, c5, A6, n6, c6, hin0⟩ := h
  have HLT := Lib.hid (show g < w.heap.size ∧ m1 < w.heap.size ∧ m2 < w.heap.size ∧ m3 < w.heap.size from ⟨hin0.blk.lt, hin0.num.lt, hin0.lst.lt, hin0.ln.lt⟩)
  have HV := Lib.hid (hin0.keep hbb)
  have HP := Lib.hid hpp
  have HQ := Lib.hid hq
  have HLN := Lib.hid hr.len
  clear hp hpp hin0 hr hw1 hbb hkk hq
  have HH := Lib.hid (show ∀ w', Up w1 w' → Up w1 w' ∧ w'.cell? ⟨w.heap.size, 0, none⟩ = some (.string k) from fun w' hu => ⟨hu, (HKK.out.keep hu).cell 0⟩)
  have HC := Lib.hid (show ∀ (w' : World) (S' : Nat → Prop) (A' : Option Addr) (n' c' : Nat), RS w' S' A' n' c' (keysP kind) → Calls Tryz.prog 121 #[.slice A' n' c', .string k] w' (RetW w' (.bool q)) from fun w' S' A' n' c' h => by rw [← HQ.out]; exact containsS_ok h k)
  go_enter Tryz.func95, Tryz.ntmps95
  go_wp2_with fail
  rw [HW1.out]
  go_region_held3 (fun w' => Up w1 w' ∧ w'.cell? ⟨w.heap.size, 0, none⟩ = some (.string k))
  (first | assumption | exact HH.out _ (Up.start w1) | exact HH.out _ (Up.more (‹Up w1 _ ∧ _›).1 ‹Below _ _ _›))
  (first
    | (go_at_call 118
       (with_reducible refine (keysP_ok kind _).mono ?_)
       rintro e w2 ⟨A2, n2, c2, rfl, hr2, hn2, hb2⟩
       have HR2 := Lib.hid hr2
       clear hr2 hn2)
    | (go_at_call 121
       (with_reducible refine (HC.out _ _ _ _ _ HR2.out).mono ?_)
       rintro e w3 ⟨rfl, rfl⟩))
  have hu := (‹Up w1 w2 ∧ _›).1
  have hb02 : Below w.heap.size w w2 := below_more HBB.out hu
  have hk2 := HKK.out.keep hu
  have q0 : w2.cell? ⟨w.heap.size, 0, none⟩ = some (.string k) := hk2.cell 0
  have q1 : w2.cell? ⟨w.heap.size, 1, none⟩ = some (.slice A n c) := hk2.cell 1
  have q2 : w2.cell? ⟨w.heap.size, 2, none⟩ = some (.int .i64 line) := hk2.cell 2
  have HB02 := Lib.hid hb02
  have HK2 := Lib.hid hk2
  have hin := HV.out.keep hu
  have HIN := Lib.hid hin
  have g2 : w2.cell? ⟨g, 2, none⟩ = some (.map (some m3)) := hin.blk.cell 2
  have HBS := Lib.hid (Nat.le_trans hB hb02.size)
  clear hb2 HR2 hu hb02 hk2 hin HW1 HH HC c0 ‹Up w1 w2 ∧ _› HKK HV
  have hpp := HP.out
  rw [HQ.out] at hpp
  clear HP
  cases q
  · rw [if_pos rfl] at hpp
    have HP1 := Lib.hid hpp
    clear hpp HQ
    go_wp2_with fail
    go_ret
    rw [← HP1.out]
    exact ⟨rfl, ⟨_, _, _, _, _, _, _, _, _, _, HIN.out.mono (Nat.le_add_right _ _)⟩, bc_of HB02.out hB⟩
  rw [if_neg (by decide)] at hpp
  obtain ⟨d, hd⟩ : ∃ d, (v.ln k).isSome = d := ⟨_, rfl⟩
  obtain ⟨u, hu⟩ : ∃ u, ((ints v.ln) k).getD (.int .i64 0) = u := ⟨_, rfl⟩
  have hdd : ((ints v.ln) k).isSome = d := by rw [← hd]; unfold ints; cases v.ln k <;> rfl
  rw [hd] at hpp
  have HP1 := Lib.hid hpp
  have HU := Lib.hid hu
  have HD := Lib.hid hdd
  clear hpp HQ hd hu hdd
  go_wp2_with fail
  refine Go.wp_region_quiet_lit (by kernel_rfl) (by kernel_rfl) ?_
  repeat (first | (go_big_quiet_step (fail)) | (go_big_quiet_want; (with_reducible (refine quiet_lookup2 _ _ _ 3 rfl Tryz.underlying166 (.int .i64 0) (fun _ => rfl) rfl HIN.out.ln k rfl hkm u HU.out d HD.out ?_)); (try simp only [Act.put, List.setIfInBounds_toArray, List.set_cons_zero, List.set_cons_succ]); (try simp only [List.getElem_toArray, List.getElem_cons_zero, List.getElem_cons_succ]); go_big_quiet_on))
  refine Go.wpQuiet_nil ?_
  intro _ hw'
  obtain ⟨nq, hw''⟩ := hw'
  subst hw''
  have hb3 : Below w2.heap.size w2 (w2.drewN nq) := below_drewN (Below.refl _ _) nq
  obtain ⟨w3, hw3⟩ : ∃ x, w2.drewN nq = x := ⟨_, rfl⟩
  rw [hw3] at hb3 ⊢
  have hk3 := HK2.out.keep hb3
  have hin3 := HIN.out.keep hb3
  have p0 : w3.cell? ⟨w.heap.size, 0, none⟩ = some (.string k) := hk3.cell 0
  have p1 : w3.cell? ⟨w.heap.size, 1, none⟩ = some (.slice A n c) := hk3.cell 1
  have p2 : w3.cell? ⟨w.heap.size, 2, none⟩ = some (.int .i64 line) := hk3.cell 2
  have g3 : w3.cell? ⟨g, 2, none⟩ = some (.map (some m3)) := hin3.blk.cell 2
  have HK3 := Lib.hid hk3
  have HIN3 := Lib.hid hin3
  have HB03 := Lib.hid (below_more HB02.out hb3)
  have HBS3 := Lib.hid (Nat.le_trans hB (below_more HB02.out hb3).size)
  clear hb3 hw3 hk3 hin3 HK2 HIN HB02 q0 q1 q2 g2 HU HD
  cases d
  case true =>
    have hpp := HP1.out
    rw [if_pos rfl] at hpp
    have HP2 := Lib.hid hpp
    clear hpp HP1
    go_wp2_with fail
    go_ret
    rw [← HP2.out]
    exact ⟨rfl, ⟨_, _, _, _, _, _, _, _, _, _, HIN3.out.mono (Nat.le_add_right _ _)⟩, bc_of HB03.out hB⟩
  have hpp := HP1.out
  rw [if_neg (by decide)] at hpp
  have HP2 := Lib.hid hpp
  clear hpp HP1
  go_wp2_with fail
  refine wp_region_seq (fun w' => w'.cell? ⟨g, 2, none⟩ = some (.map (some m3)) ∧ w'.cell? ⟨w.heap.size, 0, none⟩ = some (.string k) ∧ w'.cell? ⟨w.heap.size, 2, none⟩ = some (.int .i64 line)) 8
    [(0, true), (1, true), (2, true), (3, true), (4, true), (5, true), (6, true), (7, true)]
    (by kernel_rfl) rfl (by kernel_rfl) (by kernel_rfl) (by kernel_rfl) (fun _ _ d _ _ h => by cases d <;> exact h) ⟨g3, p0, p2⟩ ?_
  iterate 8
    refine seqL_read (v := ?_) rfl rfl ?_ ?_
    rotate_left 1
    · intro w hS
      obtain ⟨hS0, hS1, hS2⟩ := hS
      go_simp
      with_reducible rfl
    simp only [Act.put, List.getElem_toArray, List.getElem_cons_zero, List.getElem_cons_succ, List.setIfInBounds_toArray, List.set_cons_zero, List.set_cons_succ]
  refine seqL_last_go rfl rfl fun K hK => ?_
  refine wp_store_map _ _ _ 166 3 rfl Tryz.underlying166 rfl HIN3.out.ln.drew (Nat.lt_of_lt_of_le hN (by unfold maxLen; omega)) k (.int .i64 line) rfl rfl hkm ?_
  intro w4 hm4 hgr4
  refine hK _ _ ?_
  clear hK K
  obtain ⟨v1, hv1⟩ : ∃ v1 : Vals, { v with ln := setF v.ln k line } = v1 := ⟨_, rfl⟩
  have hin4 := HIN3.out.drew.setLn k line hm4 hgr4
  rw [hv1] at hin4
  have hk4 := HK3.out.drew.grown hgr4 (fun e => by injection e with e; have := HLT.out; omega)
  have hbl4 : BC B g w w4 := bc_grown (bc_of HB03.out hB).drew HIN3.out.ln.drew hgr4 hin4.h3 HBS3.out
  have r0 : w4.cell? ⟨w.heap.size, 0, none⟩ = some (.string k) := hk4.cell 0
  have r1 : w4.cell? ⟨w.heap.size, 1, none⟩ = some (.slice A n c) := hk4.cell 1
  have g1 : w4.cell? ⟨g, 1, none⟩ = some (.map (some m2)) := hin4.blk.cell 1
  obtain ⟨L, hL⟩ : ∃ L, lengthP k = L := ⟨_, rfl⟩
  have hlen := lengthP_ok k w4
  rw [hL] at hlen
  have hpp := HP2.out
  rw [hL] at hpp
  have hv2 : { v with ln := setF v.ln k line, lst := setF v.lst k xs } = { v1 with lst := setF v1.lst k xs } := by rw [← hv1]
  rw [hv2, hv1] at hpp
  have HP3 := Lib.hid hpp
  have HIN4 := Lib.hid hin4
  have HK4 := Lib.hid hk4
  have HBL4 := Lib.hid hbl4
  have HLEN := Lib.hid hlen
  have HR4 := Lib.hid (HR.out.below hbl4.1 hS)
  have HBS4 := Lib.hid (show B ≤ w4.heap.size from Nat.le_trans hB hbl4.1.size)
  have HLT4 := Lib.hid (show w.heap.size ≤ w4.heap.size from hbl4.1.size)
  clear hm4 hgr4 hin4 hk4 hbl4 hlen hpp hv1 hv2 hL HP2 p0 p1 p2 g3 HK3 HIN3 HB03 HBS HBS3
  go_wp2_with fail
  refine HLEN.out.mono ?_
  rintro e w' ⟨rfl, rfl⟩
  by_cases hpos : 0 < L
  · have hpp := HP3.out
    rw [if_pos hpos] at hpp
    obtain ⟨z, hz⟩ : ∃ z, listP xs L = z := ⟨_, rfl⟩
    have hls := fun w' (h : RS w' S A n c xs) (h2 : ∀ b, S b → b < w'.heap.size) => list_ok L h h2 hs
    rw [hz] at hpp hls
    have HLS := Lib.hid hls
    have HP4 := Lib.hid hpp
    clear hpp HP3 hls hz
    go_wp2_with fail
    refine wp_region_seq (fun w' => w'.cell? ⟨g, 1, none⟩ = some (.map (some m2)) ∧ w'.cell? ⟨w.heap.size, 0, none⟩ = some (.string k) ∧ w'.cell? ⟨w.heap.size, 1, none⟩ = some (.slice A n c)) 9
      [(0, true), (1, true), (2, true), (3, true), (4, true), (5, true), (6, true), (7, true), (8, false)]
      (by kernel_rfl) rfl (by kernel_rfl) (by kernel_rfl) (by kernel_rfl) (fun _ _ d _ _ h => by cases d <;> exact h) ⟨g1, r0, r1⟩ ?_
    iterate 8
      refine seqL_read (v := ?_) rfl rfl ?_ ?_
      rotate_left 1
      · intro w hS
        obtain ⟨hS0, hS1, hS2⟩ := hS
        go_simp
        with_reducible rfl
      simp only [Act.put, List.getElem_toArray, List.getElem_cons_zero, List.getElem_cons_succ, List.setIfInBounds_toArray, List.set_cons_zero, List.set_cons_succ]
    refine seqL_do rfl fun K hK => ?_
    go_simp
    refine (cloneS_ok HR4.out.drew hn).mono ?_
    rintro e w5 ⟨v5, rfl, hown, hb5⟩
    obtain ⟨A3, n3, c3, rfl, _⟩ := hown.slice
    have hin5 := HIN4.out.drew.keep hb5
    have hk5 := HK4.out.drew.keep hb5
    have hr5 : RS w5 (Data w5 B g m1 m2 m3) A3 n3 c3 xs := hown.rs8.sub (fun b hb => by
      have h1 := HLT.out
      have h2 := HLT4.out
      have h3 := HBS4.out
      have h4 : w4.heap.size ≤ b := hb.1
      exact ⟨by omega, hb.2, by omega, by omega, by omega, by omega⟩)
    have hbl5 : BC B g w w5 := HBL4.out.trans (bc_of (below_drew hb5) HBS4.out)
    refine hK _ _ ⟨hin5.blk.cell 1, hk5.cell 0, hk5.cell 1⟩ ?_
    clear hK K
    try simp only [Act.put, List.getElem_toArray, List.getElem_cons_zero, List.getElem_cons_succ, List.setIfInBounds_toArray, List.set_cons_zero, List.set_cons_succ]
    refine seqL_last_go rfl rfl fun K hK => ?_
    refine wp_store_map _ _ _ 132 22 rfl Tryz.underlying132 rfl hin5.lst (Nat.lt_of_le_of_lt (Nat.succ_le_of_lt hN) (by unfold maxLen; omega)) k (.slice A3 n3 c3) rfl rfl hkm ?_
    intro w6 hm6 hgr6
    refine hK _ _ ?_
    clear hK K
    have hin6 := hin5.setLst k hr5 hm6 hgr6
    have hk6 := hk5.grown hgr6 (fun e => by injection e with e; have := HLT.out; omega)
    have hbl6 : BC B g w w6 := bc_grown hbl5 hin5.lst hgr6 hin6.h2 (Nat.le_trans hB hbl5.1.size)
    have s1 : w6.cell? ⟨w.heap.size, 1, none⟩ = some (.slice A n c) := hk6.cell 1
    have HIN6 := Lib.hid hin6
    have HBL6 := Lib.hid hbl6
    have HLS6 := Lib.hid (HLS.out w6 (HR.out.below hbl6.1 hS) (fun b hb => Nat.lt_of_lt_of_le (hS b hb) (Nat.le_trans hB hbl6.1.size)))
    clear hown hb5 hin5 hk5 hr5 hbl5 hm6 hgr6 hin6 hk6 hbl6 HLS r0 r1 g1 HIN4 HK4 HR4 HLEN
    go_wp2_with fail
    refine HLS6.out.mono ?_
    rintro e w7 ⟨rfl, hb7⟩
    have HB7 := Lib.hid hb7
    clear hb7
    go_wp2_with fail
    go_ret
    rw [← HP4.out]
    exact ⟨rfl, ⟨_, _, _, _, _, _, _, _, _, _, HIN6.out.keep HB7.out⟩, HBL6.out.trans (bc_of HB7.out (Nat.le_trans hB HBL6.out.1.size))⟩
  have hpp := HP3.out
  rw [if_neg hpos] at hpp
  have hpos' : (0 < L) = False := eq_false hpos
  have hln := HLN.out
  by_cases h1 : n = 1
  · have hx1 : xs.length = 1 := by omega
    rw [if_neg (by omega)] at hpp
    obtain ⟨x, rfl⟩ := List.length_eq_one_iff.1 hx1
    subst h1
    obtain ⟨b, o, x', rfl, hSb, hx', hcell⟩ := HR4.out.str_at (k := 0) (by omega)
    obtain rfl : x = x' := by simpa using hx'
    have hx0 : [x].getD 0 (⟨#[]⟩ : ByteArray) = x := rfl
    rw [hx0] at hpp
    obtain ⟨r, hr⟩ : ∃ r, oneP k x v1 = r := ⟨_, rfl⟩
    have hone := fun w' (hv : ValsAt w' B g (N + 1) v1) (hB' : B ≤ w'.heap.size) => readOne_ok hv hB' (by omega) k x hk (hs x (by simp))
    rw [hr] at hone hpp
    have hcell' : w4.cell? ⟨b, o, none⟩ = some (.string x) := hcell
    have HP4 := Lib.hid hpp
    have hbb : b < B := hS b hSb
    have HONE := Lib.hid (show ∀ w', Up w4 w' → Calls Tryz.prog 125 #[.pointer (some ⟨g, 0, none⟩), .string k, .string x] w' (RetVals w' B g (N + 1 + 1) r.1 r.2) from fun w' hu => hone w' ⟨_, _, _, _, _, _, _, _, _, _, HIN4.out.keep hu⟩ (Nat.le_trans HBS4.out hu.size))
    clear hpp HP3 hpos hln hx1 hx' hcell hx0 hr hone g1 HLEN HR4 HLN hSb
    go_wp2_with fail
    refine wp_region_seq (fun w' => w'.cell? ⟨w.heap.size, 0, none⟩ = some (.string k) ∧ w'.cell? ⟨w.heap.size, 1, none⟩ = some (.slice (some ⟨b, o, none⟩) 1 c) ∧ w'.cell? ⟨b, o, none⟩ = some (.string x)) 8
      [(0, true), (1, true), (2, true), (3, true), (4, true), (5, true), (6, true), (7, false)]
      (by kernel_rfl) rfl (by kernel_rfl) (by kernel_rfl) (by kernel_rfl) (fun _ _ d _ _ h => by cases d <;> exact h) ⟨r0, r1, hcell'⟩ ?_
    iterate 7
      refine seqL_read (v := ?_) rfl rfl ?_ ?_
      rotate_left 1
      · intro w hS
        obtain ⟨hS0, hS1, hS2⟩ := hS
        go_simp
        with_reducible rfl
      simp only [Act.put, List.getElem_toArray, List.getElem_cons_zero, List.getElem_cons_succ, List.setIfInBounds_toArray, List.set_cons_zero, List.set_cons_succ]
    refine seqL_do rfl fun K hK => ?_
    go_simp
    refine (HONE.out _ (Up.start w4)).mono ?_
    rintro e w5 ⟨rfl, hv5, hb5⟩
    have hk5 := hb5.2 _ _ _ (by have := HLT.out; show w.heap.size ≠ g; omega) HK4.out.drew
    refine hK _ _ ⟨hk5.cell 0, hk5.cell 1, by rw [hb5.1.cell hbb]; exact hcell'⟩ ?_
    clear hK K
    have HV5 := Lib.hid hv5
    have HB5 := Lib.hid (show BC B g w w5 from HBL4.out.drew.trans hb5)
    clear hk5 hv5 hb5
    try simp only [Act.put, List.getElem_toArray, List.getElem_cons_zero, List.getElem_cons_succ, List.setIfInBounds_toArray, List.set_cons_zero, List.set_cons_succ]
    refine seqL_last_go rfl rfl fun K hK => ?_
    go_simp
    refine hK _ _ ?_
    clear hK K
    go_wp2_with fail
    go_ret
    rw [← HP4.out]
    exact ⟨rfl, HV5.out, HB5.out⟩
  · rw [if_pos (by omega)] at hpp
    have hn1 : ((n : Int) == 1) = false := by simp; omega
    have HP4 := Lib.hid hpp
    clear hpp HP3 hpos hln h1
    go_wp2_with fail
    go_ret
    rw [← HP4.out]
    exact ⟨rfl, ⟨_, _, _, _, _, _, _, _, _, _, HIN4.out.mono (Nat.le_succ _)⟩, HBL4.out⟩
end Go.Proofs.YtjlhbfbdcfajfaaGreatDoor
