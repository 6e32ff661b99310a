/- Sch7 -/
import Derived.Test.YtjlhbfbdcfajfaaGreatDoorG13
/- schema: values.complete. -/
namespace Go.Proofs.YtjlhbfbdcfajfaaGreatDoor
open Go.RowKit Go.Maps Go.WideMaps

/-- a fault: its number and its line -/
structure Err where
  no : Int
  line : Int
instance : Rep Err where
  sz := 2
  rep _ _ cs x := cs = [.int .i64 x.no, .int .i64 x.line]
  len h := by rw [h]; rfl
  keep h _ _ := h

def kMethod : ByteArray := ⟨#[109, 101, 116, 104, 111, 100]⟩
def kDigits : ByteArray := ⟨#[100, 105, 103, 105, 116, 115]⟩
def kSeats : ByteArray := ⟨#[115, 101, 97, 116, 115]⟩
def kContest : ByteArray := ⟨#[99, 111, 110, 116, 101, 115, 116]⟩
def kScan : ByteArray := ⟨#[115, 99, 97, 110]⟩
def kBlank : ByteArray := ⟨#[98, 108, 97, 110, 107]⟩
def kMarked : ByteArray := ⟨#[109, 97, 114, 107, 101, 100]⟩

/-- a number, or 0 -/
def Vals.n (v : Vals) (k : ByteArray) : Int := (v.num k).getD 0
/-- a line, or 0 -/
def Vals.l (v : Vals) (k : ByteArray) : Int := (v.ln k).getD 0
/-- is this key missing? -/
def missP (v : Vals) (k : ByteArray) : Bool := !(v.ln k).isSome && (decide (k ≠ kDigits) || decide (v.n kMethod = 2))
def restP (kind : ByteArray) (line : Int) (v : Vals) : Err :=
  if (v.ln kDigits).isSome = true ∧ v.n kMethod ≠ 2 then ⟨5, v.l kDigits⟩
  else if kind = kContest ∧ v.n kMethod = 1 ∧ 1 < v.n kSeats then ⟨4, v.l kSeats⟩
  else if kind = kScan ∧ v.n kMarked < v.n kBlank then ⟨4, line⟩
  else ⟨0, 0⟩
def missGo (v : Vals) (line : Int) (e : Err) : List ByteArray → Err
  | [] => e
  | k :: l => if missP v k = true then ⟨6, line⟩ else missGo v line e l
def completeP (kind : ByteArray) (line : Int) (v : Vals) : Err := missGo v line (restP kind line v) (keysP kind)

theorem ints_at (f : ByteArray → Option Int) (k : ByteArray) : ((ints f) k).getD (.int .i64 0) = .int .i64 ((f k).getD 0) := by
  unfold ints
  cases f k <;> rfl
theorem ints_some (f : ByteArray → Option Int) (k : ByteArray) : ((ints f) k).isSome = (f k).isSome := by
  unfold ints
  cases f k <;> rfl
theorem keysP_small (kind : ByteArray) : ∀ k ∈ keysP kind, k.size ≤ 100 := by
  unfold keysP
  repeat' split
  all_goals decide

/-- 'm[s]' under a guard that holds, with the answer named -/
theorem wpList_lookup_want {w : World} {b n : Nat} {f : ByteArray → Option Value} {ops : Array Oper} {rest : List Oper} {o : Oper} {a : Act} {Q : Exit → Act → World → Prop} (hw : Region.wanted o (yielded ops a.tmps) = true) (m x : Operand) (t e : TypeId) (hop : o.op = Op.lookup t m x false)
    (ht : Tryz.prog.underlying t = some (.map 9 e)) (z : Value) (hz : (zeroValue e).run Tryz.prog w = .ok z w) (hm : a.eval m = .map (some b)) (h : MapIs w b n f) (s : ByteArray) (hx : a.eval x = .string s) (hs : s.size ≤ maxLen) (u : Value) (hu : (f s).getD z = u)
    (hK : wpList Tryz.prog ops Q rest (a.put o.dst u) w) : wpList Tryz.prog ops Q (o :: rest) a w := by
  obtain ⟨D, h1, _, _, h3⟩ := h
  obtain ⟨v, ps, hrun, hv⟩ := h1.lookup strKeyed ht hz (zd := .held z) (zp := []) rfl (keyS_of s hs)
  rw [h3] at hv
  have hv' : v = (f s).getD z := held_inj hv
  rw [hu] at hv'
  subst hv'
  refine BigFrame.wpList_want hw fun K' hK' => ?_
  unfold Oper.wp
  simp [execOp, hop, hm, hx, hrun, Result.andThen]
  exact hK' _ _ hK
set_option maxRecDepth 20000 in
set_option maxHeartbeats 2000000 in
theorem complete_ok {w : World} {B g N : Nat} {v : Vals} (h : ValsAt w B g N v) (kind : ByteArray) (line : Int) :
    Calls Tryz.prog 96 #[.pointer (some ⟨g, 0, none⟩), .string kind, .int .i64 line] w (RetSV w (completeP kind line v)) := by
  obtain ⟨z, hz⟩ : ∃ z, completeP kind line v = z := ⟨_, rfl⟩
  have hbb : Below w.heap.size w (w.alloc (.cells #[.int .i64 0, .int .i64 0] 76)) := (Below.refl _ _).alloc (Nat.le_refl _) _
  have hkk : Blk (w.alloc (.cells #[.int .i64 0, .int .i64 0] 76)) w.heap.size 76 #[.int .i64 0, .int .i64 0] := Blk.new _ _ _
  obtain ⟨w1, hw1⟩ : ∃ x, w.alloc (.cells #[.int .i64 0, .int .i64 0] 76) = x := ⟨_, rfl⟩
  rw [hw1] at hbb hkk
  rw [hz]
  have HW1 := Lib.hid hw1
  have HZ := Lib.hid hz.symm
  have hkeys := keysP_ok kind w1
  have HKS := Lib.hid hkeys
  have HV := Lib.hid (h.keep hbb)
  have HBB := Lib.hid hbb
  have HKK := Lib.hid hkk
  clear hz hw1 hkeys h hbb hkk
  go_enter Tryz.func96, Tryz.ntmps96
  go_wp2_with fail
  rw [HW1.out]
  refine HKS.out.mono ?_
  rintro e w2 ⟨A, n, c, rfl, hr, _, hb2⟩
  obtain ⟨m1, m2, m3, f, A5, n5, c5, A6, n6, c6, hin⟩ := HV.out.keep hb2
  have hk2 := HKK.out.keep hb2
  have HR := Lib.hid hr
  have HIN := Lib.hid hin
  have HK2 := Lib.hid hk2
  have HB2 := Lib.hid (below_more HBB.out hb2)
  have s0 : w2.cell? ⟨w.heap.size, 0, none⟩ = some (.int .i64 0) := hk2.cell 0
  have s1 : w2.cell? ⟨w.heap.size, 1, none⟩ = some (.int .i64 0) := hk2.cell 1
  have f0 := hk2.frozen 0
  have f1 := hk2.frozen 1
  have g0 : w2.cell? ⟨g, 0, none⟩ = some (.map (some m1)) := hin.blk.cell 0
  have g2 : w2.cell? ⟨g, 2, none⟩ = some (.map (some m3)) := hin.blk.cell 2
  have HL := Lib.hid hr.len
  have hn : n ≤ 9223372036854775807 := hr.max
  obtain ⟨rest, hrest⟩ : ∃ r, restP kind line v = r := ⟨_, rfl⟩
  have hzz := HZ.out
  unfold completeP at hzz
  rw [hrest] at hzz
  have HZ1 := Lib.hid hzz
  have HRE := Lib.hid hrest.symm
  obtain ⟨M, hM⟩ : ∃ M, v.n kMethod = M := ⟨_, rfl⟩
  have HM : Hid (((ints v.num) kMethod).getD (.int .i64 0) = .int .i64 M) := Lib.hid (by rw [ints_at, ← hM]; rfl)
  have HMM := Lib.hid hM
  clear hb2 hr hin hk2 HZ hzz hrest hM
  go_wp2_with fail
  go_loopw [16] (fun iv wr => ∃ k : Nat, iv = .int .i64 k ∧ k ≤ n ∧ z = missGo v line rest ((keysP kind).drop k) ∧ wr = w2) (fun iv _ => n - (intOf iv).toNat)
  case atStart => exact ⟨0, rfl, Nat.zero_le _, by simpa using HZ1.out, rfl⟩
  case round =>
    clear HZ1
    obtain ⟨k, rfl, hk, hzk, rfl⟩ := hrel
    have HZK := Lib.hid hzk
    clear hzk
    by_cases hlt : k < n
    · have hlt2 : (k : Int) < (n : Int) := by omega
      have hkc : (k : Int) ≤ (c : Int) := by have := HR.out.cap; omega
      have hkc2 : k ≤ c := by omega
      obtain ⟨b, o, x, rfl, _, hx, e1⟩ := HR.out.str_at hlt
      have hxs : x.size ≤ maxLen := Nat.le_trans (keysP_small kind x (List.mem_of_getElem? hx)) (by unfold maxLen; omega)
      have hzk : z = if missP v x = true then ⟨6, line⟩ else missGo v line rest ((keysP kind).drop (k + 1)) := by
        rw [HZK.out, drop_cons hx, missGo]
      have HZ2 := Lib.hid hzk
      obtain ⟨d, hd⟩ : ∃ d, (v.ln x).isSome = d := ⟨_, rfl⟩
      obtain ⟨u, hu⟩ : ∃ u, ((ints v.ln) x).getD (.int .i64 0) = u := ⟨_, rfl⟩
      have HU := Lib.hid hu
      have HD := Lib.hid (show ((ints v.ln) x).isSome = d by rw [ints_some, hd])
      have HDD := Lib.hid hd
      clear hx hzk HZK hu hd
      cases d
      case true =>
        have hzf : z = missGo v line rest ((keysP kind).drop (k + 1)) := by
          rw [HZ2.out, if_neg]
          simp [missP, HDD.out]
        have HZF := Lib.hid hzf
        clear hzf HZ2
        try clear hm2
        try clear h2
        try clear hx
        go_wp2_with (first | (at_lookup; refine wpList_lookup_hit2 rfl _ _ _ 3 rfl Tryz.underlying166 (.int .i64 0) rfl rfl HIN.out.ln x rfl hxs u HU.out _ HD.out ?_) | (at_lookup; refine wpList_lookup_want (by first | rfl | kernel_rfl) _ _ _ 3 rfl Tryz.underlying166 (.int .i64 0) rfl rfl HIN.out.num kMethod rfl (by decide) (.int .i64 M) HM.out ?_))
        go_roundw
        case rel => exact ⟨k + 1, by go_num, by omega, HZF.out, by first | trivial | rfl⟩
        case measure => simp [intOf]; omega
      case false =>
        by_cases hx : x = kDigits
        · have ex : (x.toList == [100, 105, 103, 105, 116, 115]) = true := by rw [hx, ByteArray.toList_eq]; rfl
          by_cases h2 : M = 2
          · have h2' : (M == 2) = true := by rw [beq_iff_eq]; exact h2
            have hm2 := HMM.out
            have hzf : z = ⟨6, line⟩ := by
              rw [HZ2.out, if_pos]
              rw [h2] at hm2; unfold missP; rw [HDD.out, hm2]; simp
            have HZF := Lib.hid hzf
            clear hzf HZ2
            try clear hm2
            try clear h2
            try clear hx
            go_wp2_with (first | (at_lookup; refine wpList_lookup_hit2 rfl _ _ _ 3 rfl Tryz.underlying166 (.int .i64 0) rfl rfl HIN.out.ln x rfl hxs u HU.out _ HD.out ?_) | (at_lookup; refine wpList_lookup_want (by first | rfl | kernel_rfl) _ _ _ 3 rfl Tryz.underlying166 (.int .i64 0) rfl rfl HIN.out.num kMethod rfl (by decide) (.int .i64 M) HM.out ?_))
            refine ret_struct (x := z) (S := fun _ => False) (cs := [.int .i64 6, .int .i64 line]) rfl rfl (Nat.le_refl _) HK2.out rfl Tryz.underlying76 rfl (by kernel_rfl) ?_ (fun b hb => hb.elim) HB2.out rfl id
            rw [HZF.out]
            rfl
          · have h2' : (M == 2) = false := by rw [beq_eq_false_iff_ne]; exact h2
            have hm2 := HMM.out
            have hzf : z = missGo v line rest ((keysP kind).drop (k + 1)) := by
              rw [HZ2.out, if_neg]
              unfold missP; rw [HDD.out, hm2, decide_eq_false h2, hx]; decide
            have HZF := Lib.hid hzf
            clear hzf HZ2
            try clear hm2
            try clear h2
            try clear hx
            go_wp2_with (first | (at_lookup; refine wpList_lookup_hit2 rfl _ _ _ 3 rfl Tryz.underlying166 (.int .i64 0) rfl rfl HIN.out.ln x rfl hxs u HU.out _ HD.out ?_) | (at_lookup; refine wpList_lookup_want (by first | rfl | kernel_rfl) _ _ _ 3 rfl Tryz.underlying166 (.int .i64 0) rfl rfl HIN.out.num kMethod rfl (by decide) (.int .i64 M) HM.out ?_))
            go_roundw
            case rel => exact ⟨k + 1, by go_num, by omega, HZF.out, by first | trivial | rfl⟩
            case measure => simp [intOf]; omega
        · have ex : (x.toList == [100, 105, 103, 105, 116, 115]) = false := str_ne (l := [100, 105, 103, 105, 116, 115]) hx
          have hzf : z = ⟨6, line⟩ := by
            rw [HZ2.out, if_pos]
            unfold missP; rw [HDD.out, decide_eq_true hx]; rfl
          have HZF := Lib.hid hzf
          clear hzf HZ2
          try clear hm2
          try clear h2
          try clear hx
          go_wp2_with (first | (at_lookup; refine wpList_lookup_hit2 rfl _ _ _ 3 rfl Tryz.underlying166 (.int .i64 0) rfl rfl HIN.out.ln x rfl hxs u HU.out _ HD.out ?_) | (at_lookup; refine wpList_lookup_want (by first | rfl | kernel_rfl) _ _ _ 3 rfl Tryz.underlying166 (.int .i64 0) rfl rfl HIN.out.num kMethod rfl (by decide) (.int .i64 M) HM.out ?_))
          refine ret_struct (x := z) (S := fun _ => False) (cs := [.int .i64 6, .int .i64 line]) rfl rfl (Nat.le_refl _) HK2.out rfl Tryz.underlying76 rfl (by kernel_rfl) ?_ (fun b hb => hb.elim) HB2.out rfl id
          rw [HZF.out]
          rfl
    · have hkn : k = n := by omega
      have hzf : z = rest := by
        rw [HZK.out, List.drop_eq_nil_of_le (by rw [HL.out]; omega)]
        rfl
      have HZF := Lib.hid hzf
      clear hzf hkn HZK
      obtain ⟨d, hd⟩ : ∃ d, (v.ln kDigits).isSome = d := ⟨_, rfl⟩
      obtain ⟨lD, hlD⟩ : ∃ d, v.l kDigits = d := ⟨_, rfl⟩
      obtain ⟨sN, hsN⟩ : ∃ d, v.n kSeats = d := ⟨_, rfl⟩
      obtain ⟨sL, hsL⟩ : ∃ d, v.l kSeats = d := ⟨_, rfl⟩
      obtain ⟨bN, hbN⟩ : ∃ d, v.n kBlank = d := ⟨_, rfl⟩
      obtain ⟨mN, hmN⟩ : ∃ d, v.n kMarked = d := ⟨_, rfl⟩
      have HD0 := Lib.hid (show ((ints v.ln) kDigits).isSome = d by rw [ints_some, hd])
      have HU0 := Lib.hid (show ((ints v.ln) kDigits).getD (.int .i64 0) = .int .i64 lD by rw [ints_at, ← hlD]; rfl)
      have HSN := Lib.hid (show ((ints v.num) kSeats).getD (.int .i64 0) = .int .i64 sN by rw [ints_at, ← hsN]; rfl)
      have HSL := Lib.hid (show ((ints v.ln) kSeats).getD (.int .i64 0) = .int .i64 sL by rw [ints_at, ← hsL]; rfl)
      have HBN := Lib.hid (show ((ints v.num) kBlank).getD (.int .i64 0) = .int .i64 bN by rw [ints_at, ← hbN]; rfl)
      have HMN := Lib.hid (show ((ints v.num) kMarked).getD (.int .i64 0) = .int .i64 mN by rw [ints_at, ← hmN]; rfl)
      have hre := HRE.out
      unfold restP at hre
      rw [hd, HMM.out, hlD, hsN, hsL, hbN, hmN, ← HZF.out] at hre
      have HRR := Lib.hid hre
      have hlt' : ((k : Int) < (n : Int)) = False := eq_false (by omega)
      clear hd hlD hsN hsL hbN hmN hre HRE HMM HZF
      cases d
      case false =>
        by_cases hc : kind = kContest
        · subst hc
          by_cases h1 : M = 1
          · have hm1 : (M == 1) = true := by rw [beq_iff_eq]; exact h1
            by_cases hs : 1 < sN
            · have hsl := hs
              unfold kContest at HRR HKS HL ⊢
              have hzf : z = ⟨4, sL⟩ := by
                rw [HRR.out]
                rw [if_neg (by rintro ⟨h, _⟩; exact absurd h (by decide)), if_pos ⟨rfl, h1, hs⟩]
              have HZF := Lib.hid hzf
              clear hzf HRR
              try clear h1
              try clear h2
              go_wp2_with (first | (at_lookup; refine wpList_lookup_hit2 rfl _ _ _ 3 rfl Tryz.underlying166 (.int .i64 0) rfl rfl HIN.out.ln kDigits rfl (by decide) (.int .i64 lD) HU0.out _ HD0.out ?_) | (at_lookup; refine wpList_lookup_want (by first | rfl | kernel_rfl) _ _ _ 3 rfl Tryz.underlying166 (.int .i64 0) rfl rfl HIN.out.num kMethod rfl (by decide) (.int .i64 M) HM.out ?_) | (at_lookup; refine wpList_lookup_want (by first | rfl | kernel_rfl) _ _ _ 3 rfl Tryz.underlying166 (.int .i64 0) rfl rfl HIN.out.num kSeats rfl (by decide) (.int .i64 sN) HSN.out ?_) | (at_lookup; refine wpList_lookup_want (by first | rfl | kernel_rfl) _ _ _ 3 rfl Tryz.underlying166 (.int .i64 0) rfl rfl HIN.out.ln kSeats rfl (by decide) (.int .i64 sL) HSL.out ?_))
              refine ret_struct (x := z) (S := fun _ => False) (cs := [.int .i64 4, .int .i64 sL]) rfl rfl (Nat.le_refl _) HK2.out rfl Tryz.underlying76 rfl (by kernel_rfl) ?_ (fun b hb => hb.elim) HB2.out rfl id
              rw [HZF.out]
              rfl
            · have hsl : (1 < sN) = False := eq_false hs
              unfold kContest at HRR HKS HL ⊢
              have hzf : z = ⟨0, 0⟩ := by
                rw [HRR.out]
                rw [if_neg (by rintro ⟨h, _⟩; exact absurd h (by decide)), if_neg (fun h => hs h.2.2), if_neg (by rintro ⟨h, _⟩; exact absurd h (by decide))]
              have HZF := Lib.hid hzf
              clear hzf HRR
              try clear h1
              try clear h2
              go_wp2_with (first | (at_lookup; refine wpList_lookup_hit2 rfl _ _ _ 3 rfl Tryz.underlying166 (.int .i64 0) rfl rfl HIN.out.ln kDigits rfl (by decide) (.int .i64 lD) HU0.out _ HD0.out ?_) | (at_lookup; refine wpList_lookup_want (by first | rfl | kernel_rfl) _ _ _ 3 rfl Tryz.underlying166 (.int .i64 0) rfl rfl HIN.out.num kMethod rfl (by decide) (.int .i64 M) HM.out ?_) | (at_lookup; refine wpList_lookup_want (by first | rfl | kernel_rfl) _ _ _ 3 rfl Tryz.underlying166 (.int .i64 0) rfl rfl HIN.out.num kSeats rfl (by decide) (.int .i64 sN) HSN.out ?_) | (at_lookup; refine wpList_lookup_want (by first | rfl | kernel_rfl) _ _ _ 3 rfl Tryz.underlying166 (.int .i64 0) rfl rfl HIN.out.ln kSeats rfl (by decide) (.int .i64 sL) HSL.out ?_))
              refine Go.wp_region_quiet_lit (by kernel_rfl) (by kernel_rfl) ?_
              repeat (first | (go_big_quiet_step (fail)) | (go_big_quiet_want; (with_reducible (first | (refine quiet_lookup1 _ _ _ 3 rfl Tryz.underlying166 (.int .i64 0) (fun _ => rfl) rfl HIN.out.num kBlank rfl (by decide) (.int .i64 bN) HBN.out ?_) | (refine quiet_lookup1 _ _ _ 3 rfl Tryz.underlying166 (.int .i64 0) (fun _ => rfl) rfl HIN.out.num kMarked rfl (by decide) (.int .i64 mN) HMN.out ?_))); (try simp only [Act.put, List.setIfInBounds_toArray, List.set_cons_zero, List.set_cons_succ]); (try simp only [List.getElem_toArray, List.getElem_cons_zero, List.getElem_cons_succ]); go_big_quiet_on))
              refine Go.wpQuiet_nil ?_
              intro _ hw'
              obtain ⟨nq, hw''⟩ := hw'
              subst hw''
              go_wp2_with (first | (at_lookup; refine wpList_lookup_hit2 rfl _ _ _ 3 rfl Tryz.underlying166 (.int .i64 0) rfl rfl HIN.out.ln kDigits rfl (by decide) (.int .i64 lD) HU0.out _ HD0.out ?_) | (at_lookup; refine wpList_lookup_want (by first | rfl | kernel_rfl) _ _ _ 3 rfl Tryz.underlying166 (.int .i64 0) rfl rfl HIN.out.num kMethod rfl (by decide) (.int .i64 M) HM.out ?_) | (at_lookup; refine wpList_lookup_want (by first | rfl | kernel_rfl) _ _ _ 3 rfl Tryz.underlying166 (.int .i64 0) rfl rfl HIN.out.num kSeats rfl (by decide) (.int .i64 sN) HSN.out ?_) | (at_lookup; refine wpList_lookup_want (by first | rfl | kernel_rfl) _ _ _ 3 rfl Tryz.underlying166 (.int .i64 0) rfl rfl HIN.out.ln kSeats rfl (by decide) (.int .i64 sL) HSL.out ?_))
              have HK2 := Lib.hid (HK2.out.drewN nq)
              have HB2 := Lib.hid (below_drewN HB2.out nq)
              refine ret_struct (x := z) (S := fun _ => False) (cs := [.int .i64 0, .int .i64 0]) rfl rfl (Nat.le_refl _) HK2.out rfl Tryz.underlying76 rfl (by kernel_rfl) ?_ (fun b hb => hb.elim) HB2.out rfl id
              rw [HZF.out]
              rfl
          · have hm1 : (M == 1) = false := by rw [beq_eq_false_iff_ne]; exact h1
            unfold kContest at HRR HKS HL ⊢
            have hzf : z = ⟨0, 0⟩ := by
              rw [HRR.out]
              rw [if_neg (by rintro ⟨h, _⟩; exact absurd h (by decide)), if_neg (fun h => h1 h.2.1), if_neg (by rintro ⟨h, _⟩; exact absurd h (by decide))]
            have HZF := Lib.hid hzf
            clear hzf HRR
            try clear h1
            try clear h2
            go_wp2_with (first | (at_lookup; refine wpList_lookup_hit2 rfl _ _ _ 3 rfl Tryz.underlying166 (.int .i64 0) rfl rfl HIN.out.ln kDigits rfl (by decide) (.int .i64 lD) HU0.out _ HD0.out ?_) | (at_lookup; refine wpList_lookup_want (by first | rfl | kernel_rfl) _ _ _ 3 rfl Tryz.underlying166 (.int .i64 0) rfl rfl HIN.out.num kMethod rfl (by decide) (.int .i64 M) HM.out ?_) | (at_lookup; refine wpList_lookup_want (by first | rfl | kernel_rfl) _ _ _ 3 rfl Tryz.underlying166 (.int .i64 0) rfl rfl HIN.out.num kSeats rfl (by decide) (.int .i64 sN) HSN.out ?_) | (at_lookup; refine wpList_lookup_want (by first | rfl | kernel_rfl) _ _ _ 3 rfl Tryz.underlying166 (.int .i64 0) rfl rfl HIN.out.ln kSeats rfl (by decide) (.int .i64 sL) HSL.out ?_))
            refine Go.wp_region_quiet_lit (by kernel_rfl) (by kernel_rfl) ?_
            repeat (first | (go_big_quiet_step (fail)) | (go_big_quiet_want; (with_reducible (first | (refine quiet_lookup1 _ _ _ 3 rfl Tryz.underlying166 (.int .i64 0) (fun _ => rfl) rfl HIN.out.num kBlank rfl (by decide) (.int .i64 bN) HBN.out ?_) | (refine quiet_lookup1 _ _ _ 3 rfl Tryz.underlying166 (.int .i64 0) (fun _ => rfl) rfl HIN.out.num kMarked rfl (by decide) (.int .i64 mN) HMN.out ?_))); (try simp only [Act.put, List.setIfInBounds_toArray, List.set_cons_zero, List.set_cons_succ]); (try simp only [List.getElem_toArray, List.getElem_cons_zero, List.getElem_cons_succ]); go_big_quiet_on))
            refine Go.wpQuiet_nil ?_
            intro _ hw'
            obtain ⟨nq, hw''⟩ := hw'
            subst hw''
            go_wp2_with (first | (at_lookup; refine wpList_lookup_hit2 rfl _ _ _ 3 rfl Tryz.underlying166 (.int .i64 0) rfl rfl HIN.out.ln kDigits rfl (by decide) (.int .i64 lD) HU0.out _ HD0.out ?_) | (at_lookup; refine wpList_lookup_want (by first | rfl | kernel_rfl) _ _ _ 3 rfl Tryz.underlying166 (.int .i64 0) rfl rfl HIN.out.num kMethod rfl (by decide) (.int .i64 M) HM.out ?_) | (at_lookup; refine wpList_lookup_want (by first | rfl | kernel_rfl) _ _ _ 3 rfl Tryz.underlying166 (.int .i64 0) rfl rfl HIN.out.num kSeats rfl (by decide) (.int .i64 sN) HSN.out ?_) | (at_lookup; refine wpList_lookup_want (by first | rfl | kernel_rfl) _ _ _ 3 rfl Tryz.underlying166 (.int .i64 0) rfl rfl HIN.out.ln kSeats rfl (by decide) (.int .i64 sL) HSL.out ?_))
            have HK2 := Lib.hid (HK2.out.drewN nq)
            have HB2 := Lib.hid (below_drewN HB2.out nq)
            refine ret_struct (x := z) (S := fun _ => False) (cs := [.int .i64 0, .int .i64 0]) rfl rfl (Nat.le_refl _) HK2.out rfl Tryz.underlying76 rfl (by kernel_rfl) ?_ (fun b hb => hb.elim) HB2.out rfl id
            rw [HZF.out]
            rfl
        have ec : (kind.toList == [99, 111, 110, 116, 101, 115, 116]) = false := str_ne (l := [99, 111, 110, 116, 101, 115, 116]) hc
        by_cases hs : kind = kScan
        · subst hs
          by_cases hb : mN < bN
          · unfold kScan at HRR HKS HL ec hc ⊢
            have hzf : z = ⟨4, line⟩ := by
              rw [HRR.out]
              rw [if_neg (by rintro ⟨h, _⟩; exact absurd h (by decide)), if_neg (fun h => hc h.1), if_pos ⟨rfl, hb⟩]
            have HZF := Lib.hid hzf
            clear hzf HRR
            try clear h1
            try clear h2
            go_wp2_with (first | (at_lookup; refine wpList_lookup_hit2 rfl _ _ _ 3 rfl Tryz.underlying166 (.int .i64 0) rfl rfl HIN.out.ln kDigits rfl (by decide) (.int .i64 lD) HU0.out _ HD0.out ?_) | (at_lookup; refine wpList_lookup_want (by first | rfl | kernel_rfl) _ _ _ 3 rfl Tryz.underlying166 (.int .i64 0) rfl rfl HIN.out.num kMethod rfl (by decide) (.int .i64 M) HM.out ?_) | (at_lookup; refine wpList_lookup_want (by first | rfl | kernel_rfl) _ _ _ 3 rfl Tryz.underlying166 (.int .i64 0) rfl rfl HIN.out.num kSeats rfl (by decide) (.int .i64 sN) HSN.out ?_) | (at_lookup; refine wpList_lookup_want (by first | rfl | kernel_rfl) _ _ _ 3 rfl Tryz.underlying166 (.int .i64 0) rfl rfl HIN.out.ln kSeats rfl (by decide) (.int .i64 sL) HSL.out ?_))
            refine Go.wp_region_quiet_lit (by kernel_rfl) (by kernel_rfl) ?_
            repeat (first | (go_big_quiet_step (fail)) | (go_big_quiet_want; (with_reducible (first | (refine quiet_lookup1 _ _ _ 3 rfl Tryz.underlying166 (.int .i64 0) (fun _ => rfl) rfl HIN.out.num kBlank rfl (by decide) (.int .i64 bN) HBN.out ?_) | (refine quiet_lookup1 _ _ _ 3 rfl Tryz.underlying166 (.int .i64 0) (fun _ => rfl) rfl HIN.out.num kMarked rfl (by decide) (.int .i64 mN) HMN.out ?_))); (try simp only [Act.put, List.setIfInBounds_toArray, List.set_cons_zero, List.set_cons_succ]); (try simp only [List.getElem_toArray, List.getElem_cons_zero, List.getElem_cons_succ]); go_big_quiet_on))
            refine Go.wpQuiet_nil ?_
            intro _ hw'
            obtain ⟨nq, hw''⟩ := hw'
            subst hw''
            go_wp2_with (first | (at_lookup; refine wpList_lookup_hit2 rfl _ _ _ 3 rfl Tryz.underlying166 (.int .i64 0) rfl rfl HIN.out.ln kDigits rfl (by decide) (.int .i64 lD) HU0.out _ HD0.out ?_) | (at_lookup; refine wpList_lookup_want (by first | rfl | kernel_rfl) _ _ _ 3 rfl Tryz.underlying166 (.int .i64 0) rfl rfl HIN.out.num kMethod rfl (by decide) (.int .i64 M) HM.out ?_) | (at_lookup; refine wpList_lookup_want (by first | rfl | kernel_rfl) _ _ _ 3 rfl Tryz.underlying166 (.int .i64 0) rfl rfl HIN.out.num kSeats rfl (by decide) (.int .i64 sN) HSN.out ?_) | (at_lookup; refine wpList_lookup_want (by first | rfl | kernel_rfl) _ _ _ 3 rfl Tryz.underlying166 (.int .i64 0) rfl rfl HIN.out.ln kSeats rfl (by decide) (.int .i64 sL) HSL.out ?_))
            have HK2 := Lib.hid (HK2.out.drewN nq)
            have HB2 := Lib.hid (below_drewN HB2.out nq)
            refine ret_struct (x := z) (S := fun _ => False) (cs := [.int .i64 4, .int .i64 line]) rfl rfl (Nat.le_refl _) HK2.out rfl Tryz.underlying76 rfl (by kernel_rfl) ?_ (fun b hb => hb.elim) HB2.out rfl id
            rw [HZF.out]
            rfl
          · have hb' : (mN < bN) = False := eq_false hb
            unfold kScan at HRR HKS HL ec hc ⊢
            have hzf : z = ⟨0, 0⟩ := by
              rw [HRR.out]
              rw [if_neg (by rintro ⟨h, _⟩; exact absurd h (by decide)), if_neg (fun h => hc h.1), if_neg (fun h => hb h.2)]
            have HZF := Lib.hid hzf
            clear hzf HRR
            try clear h1
            try clear h2
            go_wp2_with (first | (at_lookup; refine wpList_lookup_hit2 rfl _ _ _ 3 rfl Tryz.underlying166 (.int .i64 0) rfl rfl HIN.out.ln kDigits rfl (by decide) (.int .i64 lD) HU0.out _ HD0.out ?_) | (at_lookup; refine wpList_lookup_want (by first | rfl | kernel_rfl) _ _ _ 3 rfl Tryz.underlying166 (.int .i64 0) rfl rfl HIN.out.num kMethod rfl (by decide) (.int .i64 M) HM.out ?_) | (at_lookup; refine wpList_lookup_want (by first | rfl | kernel_rfl) _ _ _ 3 rfl Tryz.underlying166 (.int .i64 0) rfl rfl HIN.out.num kSeats rfl (by decide) (.int .i64 sN) HSN.out ?_) | (at_lookup; refine wpList_lookup_want (by first | rfl | kernel_rfl) _ _ _ 3 rfl Tryz.underlying166 (.int .i64 0) rfl rfl HIN.out.ln kSeats rfl (by decide) (.int .i64 sL) HSL.out ?_))
            refine Go.wp_region_quiet_lit (by kernel_rfl) (by kernel_rfl) ?_
            repeat (first | (go_big_quiet_step (fail)) | (go_big_quiet_want; (with_reducible (first | (refine quiet_lookup1 _ _ _ 3 rfl Tryz.underlying166 (.int .i64 0) (fun _ => rfl) rfl HIN.out.num kBlank rfl (by decide) (.int .i64 bN) HBN.out ?_) | (refine quiet_lookup1 _ _ _ 3 rfl Tryz.underlying166 (.int .i64 0) (fun _ => rfl) rfl HIN.out.num kMarked rfl (by decide) (.int .i64 mN) HMN.out ?_))); (try simp only [Act.put, List.setIfInBounds_toArray, List.set_cons_zero, List.set_cons_succ]); (try simp only [List.getElem_toArray, List.getElem_cons_zero, List.getElem_cons_succ]); go_big_quiet_on))
            refine Go.wpQuiet_nil ?_
            intro _ hw'
            obtain ⟨nq, hw''⟩ := hw'
            subst hw''
            go_wp2_with (first | (at_lookup; refine wpList_lookup_hit2 rfl _ _ _ 3 rfl Tryz.underlying166 (.int .i64 0) rfl rfl HIN.out.ln kDigits rfl (by decide) (.int .i64 lD) HU0.out _ HD0.out ?_) | (at_lookup; refine wpList_lookup_want (by first | rfl | kernel_rfl) _ _ _ 3 rfl Tryz.underlying166 (.int .i64 0) rfl rfl HIN.out.num kMethod rfl (by decide) (.int .i64 M) HM.out ?_) | (at_lookup; refine wpList_lookup_want (by first | rfl | kernel_rfl) _ _ _ 3 rfl Tryz.underlying166 (.int .i64 0) rfl rfl HIN.out.num kSeats rfl (by decide) (.int .i64 sN) HSN.out ?_) | (at_lookup; refine wpList_lookup_want (by first | rfl | kernel_rfl) _ _ _ 3 rfl Tryz.underlying166 (.int .i64 0) rfl rfl HIN.out.ln kSeats rfl (by decide) (.int .i64 sL) HSL.out ?_))
            have HK2 := Lib.hid (HK2.out.drewN nq)
            have HB2 := Lib.hid (below_drewN HB2.out nq)
            refine ret_struct (x := z) (S := fun _ => False) (cs := [.int .i64 0, .int .i64 0]) rfl rfl (Nat.le_refl _) HK2.out rfl Tryz.underlying76 rfl (by kernel_rfl) ?_ (fun b hb => hb.elim) HB2.out rfl id
            rw [HZF.out]
            rfl
        · have es : (kind.toList == [115, 99, 97, 110]) = false := str_ne (l := [115, 99, 97, 110]) hs
          have hzf : z = ⟨0, 0⟩ := by
            rw [HRR.out]
            rw [if_neg (by rintro ⟨h, _⟩; exact absurd h (by decide)), if_neg (fun h => hc h.1), if_neg (fun h => hs h.1)]
          have HZF := Lib.hid hzf
          clear hzf HRR
          try clear h1
          try clear h2
          go_wp2_with (first | (at_lookup; refine wpList_lookup_hit2 rfl _ _ _ 3 rfl Tryz.underlying166 (.int .i64 0) rfl rfl HIN.out.ln kDigits rfl (by decide) (.int .i64 lD) HU0.out _ HD0.out ?_) | (at_lookup; refine wpList_lookup_want (by first | rfl | kernel_rfl) _ _ _ 3 rfl Tryz.underlying166 (.int .i64 0) rfl rfl HIN.out.num kMethod rfl (by decide) (.int .i64 M) HM.out ?_) | (at_lookup; refine wpList_lookup_want (by first | rfl | kernel_rfl) _ _ _ 3 rfl Tryz.underlying166 (.int .i64 0) rfl rfl HIN.out.num kSeats rfl (by decide) (.int .i64 sN) HSN.out ?_) | (at_lookup; refine wpList_lookup_want (by first | rfl | kernel_rfl) _ _ _ 3 rfl Tryz.underlying166 (.int .i64 0) rfl rfl HIN.out.ln kSeats rfl (by decide) (.int .i64 sL) HSL.out ?_))
          refine Go.wp_region_quiet_lit (by kernel_rfl) (by kernel_rfl) ?_
          repeat (first | (go_big_quiet_step (fail)) | (go_big_quiet_want; (with_reducible (first | (refine quiet_lookup1 _ _ _ 3 rfl Tryz.underlying166 (.int .i64 0) (fun _ => rfl) rfl HIN.out.num kBlank rfl (by decide) (.int .i64 bN) HBN.out ?_) | (refine quiet_lookup1 _ _ _ 3 rfl Tryz.underlying166 (.int .i64 0) (fun _ => rfl) rfl HIN.out.num kMarked rfl (by decide) (.int .i64 mN) HMN.out ?_))); (try simp only [Act.put, List.setIfInBounds_toArray, List.set_cons_zero, List.set_cons_succ]); (try simp only [List.getElem_toArray, List.getElem_cons_zero, List.getElem_cons_succ]); go_big_quiet_on))
          refine Go.wpQuiet_nil ?_
          intro _ hw'
          obtain ⟨nq, hw''⟩ := hw'
          subst hw''
          go_wp2_with (first | (at_lookup; refine wpList_lookup_hit2 rfl _ _ _ 3 rfl Tryz.underlying166 (.int .i64 0) rfl rfl HIN.out.ln kDigits rfl (by decide) (.int .i64 lD) HU0.out _ HD0.out ?_) | (at_lookup; refine wpList_lookup_want (by first | rfl | kernel_rfl) _ _ _ 3 rfl Tryz.underlying166 (.int .i64 0) rfl rfl HIN.out.num kMethod rfl (by decide) (.int .i64 M) HM.out ?_) | (at_lookup; refine wpList_lookup_want (by first | rfl | kernel_rfl) _ _ _ 3 rfl Tryz.underlying166 (.int .i64 0) rfl rfl HIN.out.num kSeats rfl (by decide) (.int .i64 sN) HSN.out ?_) | (at_lookup; refine wpList_lookup_want (by first | rfl | kernel_rfl) _ _ _ 3 rfl Tryz.underlying166 (.int .i64 0) rfl rfl HIN.out.ln kSeats rfl (by decide) (.int .i64 sL) HSL.out ?_))
          have HK2 := Lib.hid (HK2.out.drewN nq)
          have HB2 := Lib.hid (below_drewN HB2.out nq)
          refine ret_struct (x := z) (S := fun _ => False) (cs := [.int .i64 0, .int .i64 0]) rfl rfl (Nat.le_refl _) HK2.out rfl Tryz.underlying76 rfl (by kernel_rfl) ?_ (fun b hb => hb.elim) HB2.out rfl id
          rw [HZF.out]
          rfl
      case true =>
        by_cases h2 : M = 2
        · have h2' : (M == 2) = true := by rw [beq_iff_eq]; exact h2
          by_cases hc : kind = kContest
          · subst hc
            have hm1 : (M == 1) = false := by rw [beq_eq_false_iff_ne]; omega
            unfold kContest at HRR HKS HL ⊢
            have hzf : z = ⟨0, 0⟩ := by
              rw [HRR.out]
              rw [if_neg (by rintro ⟨_, h⟩; exact h h2), if_neg (by omega), if_neg (by rintro ⟨h, _⟩; exact absurd h (by decide))]
            have HZF := Lib.hid hzf
            clear hzf HRR
            try clear h1
            try clear h2
            go_wp2_with (first | (at_lookup; refine wpList_lookup_hit2 rfl _ _ _ 3 rfl Tryz.underlying166 (.int .i64 0) rfl rfl HIN.out.ln kDigits rfl (by decide) (.int .i64 lD) HU0.out _ HD0.out ?_) | (at_lookup; refine wpList_lookup_want (by first | rfl | kernel_rfl) _ _ _ 3 rfl Tryz.underlying166 (.int .i64 0) rfl rfl HIN.out.num kMethod rfl (by decide) (.int .i64 M) HM.out ?_) | (at_lookup; refine wpList_lookup_want (by first | rfl | kernel_rfl) _ _ _ 3 rfl Tryz.underlying166 (.int .i64 0) rfl rfl HIN.out.num kSeats rfl (by decide) (.int .i64 sN) HSN.out ?_) | (at_lookup; refine wpList_lookup_want (by first | rfl | kernel_rfl) _ _ _ 3 rfl Tryz.underlying166 (.int .i64 0) rfl rfl HIN.out.ln kSeats rfl (by decide) (.int .i64 sL) HSL.out ?_))
            refine Go.wp_region_quiet_lit (by kernel_rfl) (by kernel_rfl) ?_
            repeat (first | (go_big_quiet_step (fail)) | (go_big_quiet_want; (with_reducible (first | (refine quiet_lookup1 _ _ _ 3 rfl Tryz.underlying166 (.int .i64 0) (fun _ => rfl) rfl HIN.out.num kBlank rfl (by decide) (.int .i64 bN) HBN.out ?_) | (refine quiet_lookup1 _ _ _ 3 rfl Tryz.underlying166 (.int .i64 0) (fun _ => rfl) rfl HIN.out.num kMarked rfl (by decide) (.int .i64 mN) HMN.out ?_))); (try simp only [Act.put, List.setIfInBounds_toArray, List.set_cons_zero, List.set_cons_succ]); (try simp only [List.getElem_toArray, List.getElem_cons_zero, List.getElem_cons_succ]); go_big_quiet_on))
            refine Go.wpQuiet_nil ?_
            intro _ hw'
            obtain ⟨nq, hw''⟩ := hw'
            subst hw''
            go_wp2_with (first | (at_lookup; refine wpList_lookup_hit2 rfl _ _ _ 3 rfl Tryz.underlying166 (.int .i64 0) rfl rfl HIN.out.ln kDigits rfl (by decide) (.int .i64 lD) HU0.out _ HD0.out ?_) | (at_lookup; refine wpList_lookup_want (by first | rfl | kernel_rfl) _ _ _ 3 rfl Tryz.underlying166 (.int .i64 0) rfl rfl HIN.out.num kMethod rfl (by decide) (.int .i64 M) HM.out ?_) | (at_lookup; refine wpList_lookup_want (by first | rfl | kernel_rfl) _ _ _ 3 rfl Tryz.underlying166 (.int .i64 0) rfl rfl HIN.out.num kSeats rfl (by decide) (.int .i64 sN) HSN.out ?_) | (at_lookup; refine wpList_lookup_want (by first | rfl | kernel_rfl) _ _ _ 3 rfl Tryz.underlying166 (.int .i64 0) rfl rfl HIN.out.ln kSeats rfl (by decide) (.int .i64 sL) HSL.out ?_))
            have HK2 := Lib.hid (HK2.out.drewN nq)
            have HB2 := Lib.hid (below_drewN HB2.out nq)
            refine ret_struct (x := z) (S := fun _ => False) (cs := [.int .i64 0, .int .i64 0]) rfl rfl (Nat.le_refl _) HK2.out rfl Tryz.underlying76 rfl (by kernel_rfl) ?_ (fun b hb => hb.elim) HB2.out rfl id
            rw [HZF.out]
            rfl
          have ec : (kind.toList == [99, 111, 110, 116, 101, 115, 116]) = false := str_ne (l := [99, 111, 110, 116, 101, 115, 116]) hc
          by_cases hs : kind = kScan
          · subst hs
            by_cases hb : mN < bN
            · unfold kScan at HRR HKS HL ec hc ⊢
              have hzf : z = ⟨4, line⟩ := by
                rw [HRR.out]
                rw [if_neg (by rintro ⟨_, h⟩; exact h h2), if_neg (fun h => hc h.1), if_pos ⟨rfl, hb⟩]
              have HZF := Lib.hid hzf
              clear hzf HRR
              try clear h1
              try clear h2
              go_wp2_with (first | (at_lookup; refine wpList_lookup_hit2 rfl _ _ _ 3 rfl Tryz.underlying166 (.int .i64 0) rfl rfl HIN.out.ln kDigits rfl (by decide) (.int .i64 lD) HU0.out _ HD0.out ?_) | (at_lookup; refine wpList_lookup_want (by first | rfl | kernel_rfl) _ _ _ 3 rfl Tryz.underlying166 (.int .i64 0) rfl rfl HIN.out.num kMethod rfl (by decide) (.int .i64 M) HM.out ?_) | (at_lookup; refine wpList_lookup_want (by first | rfl | kernel_rfl) _ _ _ 3 rfl Tryz.underlying166 (.int .i64 0) rfl rfl HIN.out.num kSeats rfl (by decide) (.int .i64 sN) HSN.out ?_) | (at_lookup; refine wpList_lookup_want (by first | rfl | kernel_rfl) _ _ _ 3 rfl Tryz.underlying166 (.int .i64 0) rfl rfl HIN.out.ln kSeats rfl (by decide) (.int .i64 sL) HSL.out ?_))
              refine Go.wp_region_quiet_lit (by kernel_rfl) (by kernel_rfl) ?_
              repeat (first | (go_big_quiet_step (fail)) | (go_big_quiet_want; (with_reducible (first | (refine quiet_lookup1 _ _ _ 3 rfl Tryz.underlying166 (.int .i64 0) (fun _ => rfl) rfl HIN.out.num kBlank rfl (by decide) (.int .i64 bN) HBN.out ?_) | (refine quiet_lookup1 _ _ _ 3 rfl Tryz.underlying166 (.int .i64 0) (fun _ => rfl) rfl HIN.out.num kMarked rfl (by decide) (.int .i64 mN) HMN.out ?_))); (try simp only [Act.put, List.setIfInBounds_toArray, List.set_cons_zero, List.set_cons_succ]); (try simp only [List.getElem_toArray, List.getElem_cons_zero, List.getElem_cons_succ]); go_big_quiet_on))
              refine Go.wpQuiet_nil ?_
              intro _ hw'
              obtain ⟨nq, hw''⟩ := hw'
              subst hw''
              go_wp2_with (first | (at_lookup; refine wpList_lookup_hit2 rfl _ _ _ 3 rfl Tryz.underlying166 (.int .i64 0) rfl rfl HIN.out.ln kDigits rfl (by decide) (.int .i64 lD) HU0.out _ HD0.out ?_) | (at_lookup; refine wpList_lookup_want (by first | rfl | kernel_rfl) _ _ _ 3 rfl Tryz.underlying166 (.int .i64 0) rfl rfl HIN.out.num kMethod rfl (by decide) (.int .i64 M) HM.out ?_) | (at_lookup; refine wpList_lookup_want (by first | rfl | kernel_rfl) _ _ _ 3 rfl Tryz.underlying166 (.int .i64 0) rfl rfl HIN.out.num kSeats rfl (by decide) (.int .i64 sN) HSN.out ?_) | (at_lookup; refine wpList_lookup_want (by first | rfl | kernel_rfl) _ _ _ 3 rfl Tryz.underlying166 (.int .i64 0) rfl rfl HIN.out.ln kSeats rfl (by decide) (.int .i64 sL) HSL.out ?_))
              have HK2 := Lib.hid (HK2.out.drewN nq)
              have HB2 := Lib.hid (below_drewN HB2.out nq)
              refine ret_struct (x := z) (S := fun _ => False) (cs := [.int .i64 4, .int .i64 line]) rfl rfl (Nat.le_refl _) HK2.out rfl Tryz.underlying76 rfl (by kernel_rfl) ?_ (fun b hb => hb.elim) HB2.out rfl id
              rw [HZF.out]
              rfl
            · have hb' : (mN < bN) = False := eq_false hb
              unfold kScan at HRR HKS HL ec hc ⊢
              have hzf : z = ⟨0, 0⟩ := by
                rw [HRR.out]
                rw [if_neg (by rintro ⟨_, h⟩; exact h h2), if_neg (fun h => hc h.1), if_neg (fun h => hb h.2)]
              have HZF := Lib.hid hzf
              clear hzf HRR
              try clear h1
              try clear h2
              go_wp2_with (first | (at_lookup; refine wpList_lookup_hit2 rfl _ _ _ 3 rfl Tryz.underlying166 (.int .i64 0) rfl rfl HIN.out.ln kDigits rfl (by decide) (.int .i64 lD) HU0.out _ HD0.out ?_) | (at_lookup; refine wpList_lookup_want (by first | rfl | kernel_rfl) _ _ _ 3 rfl Tryz.underlying166 (.int .i64 0) rfl rfl HIN.out.num kMethod rfl (by decide) (.int .i64 M) HM.out ?_) | (at_lookup; refine wpList_lookup_want (by first | rfl | kernel_rfl) _ _ _ 3 rfl Tryz.underlying166 (.int .i64 0) rfl rfl HIN.out.num kSeats rfl (by decide) (.int .i64 sN) HSN.out ?_) | (at_lookup; refine wpList_lookup_want (by first | rfl | kernel_rfl) _ _ _ 3 rfl Tryz.underlying166 (.int .i64 0) rfl rfl HIN.out.ln kSeats rfl (by decide) (.int .i64 sL) HSL.out ?_))
              refine Go.wp_region_quiet_lit (by kernel_rfl) (by kernel_rfl) ?_
              repeat (first | (go_big_quiet_step (fail)) | (go_big_quiet_want; (with_reducible (first | (refine quiet_lookup1 _ _ _ 3 rfl Tryz.underlying166 (.int .i64 0) (fun _ => rfl) rfl HIN.out.num kBlank rfl (by decide) (.int .i64 bN) HBN.out ?_) | (refine quiet_lookup1 _ _ _ 3 rfl Tryz.underlying166 (.int .i64 0) (fun _ => rfl) rfl HIN.out.num kMarked rfl (by decide) (.int .i64 mN) HMN.out ?_))); (try simp only [Act.put, List.setIfInBounds_toArray, List.set_cons_zero, List.set_cons_succ]); (try simp only [List.getElem_toArray, List.getElem_cons_zero, List.getElem_cons_succ]); go_big_quiet_on))
              refine Go.wpQuiet_nil ?_
              intro _ hw'
              obtain ⟨nq, hw''⟩ := hw'
              subst hw''
              go_wp2_with (first | (at_lookup; refine wpList_lookup_hit2 rfl _ _ _ 3 rfl Tryz.underlying166 (.int .i64 0) rfl rfl HIN.out.ln kDigits rfl (by decide) (.int .i64 lD) HU0.out _ HD0.out ?_) | (at_lookup; refine wpList_lookup_want (by first | rfl | kernel_rfl) _ _ _ 3 rfl Tryz.underlying166 (.int .i64 0) rfl rfl HIN.out.num kMethod rfl (by decide) (.int .i64 M) HM.out ?_) | (at_lookup; refine wpList_lookup_want (by first | rfl | kernel_rfl) _ _ _ 3 rfl Tryz.underlying166 (.int .i64 0) rfl rfl HIN.out.num kSeats rfl (by decide) (.int .i64 sN) HSN.out ?_) | (at_lookup; refine wpList_lookup_want (by first | rfl | kernel_rfl) _ _ _ 3 rfl Tryz.underlying166 (.int .i64 0) rfl rfl HIN.out.ln kSeats rfl (by decide) (.int .i64 sL) HSL.out ?_))
              have HK2 := Lib.hid (HK2.out.drewN nq)
              have HB2 := Lib.hid (below_drewN HB2.out nq)
              refine ret_struct (x := z) (S := fun _ => False) (cs := [.int .i64 0, .int .i64 0]) rfl rfl (Nat.le_refl _) HK2.out rfl Tryz.underlying76 rfl (by kernel_rfl) ?_ (fun b hb => hb.elim) HB2.out rfl id
              rw [HZF.out]
              rfl
          · have es : (kind.toList == [115, 99, 97, 110]) = false := str_ne (l := [115, 99, 97, 110]) hs
            have hzf : z = ⟨0, 0⟩ := by
              rw [HRR.out]
              rw [if_neg (by rintro ⟨_, h⟩; exact h h2), if_neg (fun h => hc h.1), if_neg (fun h => hs h.1)]
            have HZF := Lib.hid hzf
            clear hzf HRR
            try clear h1
            try clear h2
            go_wp2_with (first | (at_lookup; refine wpList_lookup_hit2 rfl _ _ _ 3 rfl Tryz.underlying166 (.int .i64 0) rfl rfl HIN.out.ln kDigits rfl (by decide) (.int .i64 lD) HU0.out _ HD0.out ?_) | (at_lookup; refine wpList_lookup_want (by first | rfl | kernel_rfl) _ _ _ 3 rfl Tryz.underlying166 (.int .i64 0) rfl rfl HIN.out.num kMethod rfl (by decide) (.int .i64 M) HM.out ?_) | (at_lookup; refine wpList_lookup_want (by first | rfl | kernel_rfl) _ _ _ 3 rfl Tryz.underlying166 (.int .i64 0) rfl rfl HIN.out.num kSeats rfl (by decide) (.int .i64 sN) HSN.out ?_) | (at_lookup; refine wpList_lookup_want (by first | rfl | kernel_rfl) _ _ _ 3 rfl Tryz.underlying166 (.int .i64 0) rfl rfl HIN.out.ln kSeats rfl (by decide) (.int .i64 sL) HSL.out ?_))
            refine Go.wp_region_quiet_lit (by kernel_rfl) (by kernel_rfl) ?_
            repeat (first | (go_big_quiet_step (fail)) | (go_big_quiet_want; (with_reducible (first | (refine quiet_lookup1 _ _ _ 3 rfl Tryz.underlying166 (.int .i64 0) (fun _ => rfl) rfl HIN.out.num kBlank rfl (by decide) (.int .i64 bN) HBN.out ?_) | (refine quiet_lookup1 _ _ _ 3 rfl Tryz.underlying166 (.int .i64 0) (fun _ => rfl) rfl HIN.out.num kMarked rfl (by decide) (.int .i64 mN) HMN.out ?_))); (try simp only [Act.put, List.setIfInBounds_toArray, List.set_cons_zero, List.set_cons_succ]); (try simp only [List.getElem_toArray, List.getElem_cons_zero, List.getElem_cons_succ]); go_big_quiet_on))
            refine Go.wpQuiet_nil ?_
            intro _ hw'
            obtain ⟨nq, hw''⟩ := hw'
            subst hw''
            go_wp2_with (first | (at_lookup; refine wpList_lookup_hit2 rfl _ _ _ 3 rfl Tryz.underlying166 (.int .i64 0) rfl rfl HIN.out.ln kDigits rfl (by decide) (.int .i64 lD) HU0.out _ HD0.out ?_) | (at_lookup; refine wpList_lookup_want (by first | rfl | kernel_rfl) _ _ _ 3 rfl Tryz.underlying166 (.int .i64 0) rfl rfl HIN.out.num kMethod rfl (by decide) (.int .i64 M) HM.out ?_) | (at_lookup; refine wpList_lookup_want (by first | rfl | kernel_rfl) _ _ _ 3 rfl Tryz.underlying166 (.int .i64 0) rfl rfl HIN.out.num kSeats rfl (by decide) (.int .i64 sN) HSN.out ?_) | (at_lookup; refine wpList_lookup_want (by first | rfl | kernel_rfl) _ _ _ 3 rfl Tryz.underlying166 (.int .i64 0) rfl rfl HIN.out.ln kSeats rfl (by decide) (.int .i64 sL) HSL.out ?_))
            have HK2 := Lib.hid (HK2.out.drewN nq)
            have HB2 := Lib.hid (below_drewN HB2.out nq)
            refine ret_struct (x := z) (S := fun _ => False) (cs := [.int .i64 0, .int .i64 0]) rfl rfl (Nat.le_refl _) HK2.out rfl Tryz.underlying76 rfl (by kernel_rfl) ?_ (fun b hb => hb.elim) HB2.out rfl id
            rw [HZF.out]
            rfl
        · have h2' : (M == 2) = false := by rw [beq_eq_false_iff_ne]; exact h2
          have hzf : z = ⟨5, lD⟩ := by
            rw [HRR.out]
            rw [if_pos ⟨rfl, h2⟩]
          have HZF := Lib.hid hzf
          clear hzf HRR
          try clear h1
          try clear h2
          go_wp2_with (first | (at_lookup; refine wpList_lookup_hit2 rfl _ _ _ 3 rfl Tryz.underlying166 (.int .i64 0) rfl rfl HIN.out.ln kDigits rfl (by decide) (.int .i64 lD) HU0.out _ HD0.out ?_) | (at_lookup; refine wpList_lookup_want (by first | rfl | kernel_rfl) _ _ _ 3 rfl Tryz.underlying166 (.int .i64 0) rfl rfl HIN.out.num kMethod rfl (by decide) (.int .i64 M) HM.out ?_) | (at_lookup; refine wpList_lookup_want (by first | rfl | kernel_rfl) _ _ _ 3 rfl Tryz.underlying166 (.int .i64 0) rfl rfl HIN.out.num kSeats rfl (by decide) (.int .i64 sN) HSN.out ?_) | (at_lookup; refine wpList_lookup_want (by first | rfl | kernel_rfl) _ _ _ 3 rfl Tryz.underlying166 (.int .i64 0) rfl rfl HIN.out.ln kSeats rfl (by decide) (.int .i64 sL) HSL.out ?_))
          refine ret_struct (x := z) (S := fun _ => False) (cs := [.int .i64 5, .int .i64 lD]) rfl rfl (Nat.le_refl _) HK2.out rfl Tryz.underlying76 rfl (by kernel_rfl) ?_ (fun b hb => hb.elim) HB2.out rfl id
          rw [HZF.out]
          rfl
end Go.Proofs.YtjlhbfbdcfajfaaGreatDoor
