/- Elec Same3 -/
import Derived.Test.YtjlhbfbdcfajfaaGreatDoorG15
import Derived.Deep.DeepCutAuto
/- schema: whole elections, blocks and sources, as Lean data. -/
namespace Go.Proofs.YtjlhbfbdcfajfaaGreatDoor
open Go.RowKit

/-- an election -/
structure ElectionD where
  title : ByteArray
  dots : Int
  blank : Int
  marked : Int
  prec : List ByteArray
  cont : List ContestD
  styl : List StyleD
  scan : Int
  batch : Int
  risk : Raw
  cell : Int
  seed : ByteArray
def ElectionD.zero : ElectionD := ⟨⟨#[]⟩, 0, 0, 0, [], [], [], 0, 0, ⟨false, [], []⟩, 0, ⟨#[]⟩⟩
/-- the cells of an election -/
def elecCells (e : ElectionD) (vP vC vS vN vD : Value) : List Value :=
  [.string e.title, .int .i64 e.dots, .int .i64 e.blank, .int .i64 e.marked, vP, vC, vS, .int .i64 e.scan, .int .i64 e.batch, .bool e.risk.neg, vN, vD, .int .i64 e.cell, .string e.seed]
instance : Rep ElectionD where
  sz := 14
  rep w S cs x := ∃ A n c A2 n2 c2 A3 n3 c3 A4 n4 c4 A5 n5 c5, cs = elecCells x (.slice A n c) (.slice A2 n2 c2) (.slice A3 n3 c3) (.slice A4 n4 c4) (.slice A5 n5 c5)
    ∧ RS w S A n c x.prec ∧ RS w S A2 n2 c2 x.cont ∧ RS w S A3 n3 c3 x.styl ∧ RS w S A4 n4 c4 x.risk.num ∧ RS w S A5 n5 c5 x.risk.den
  len h := by obtain ⟨A, n, c, A2, n2, c2, A3, n3, c3, A4, n4, c4, A5, n5, c5, rfl, _⟩ := h; rfl
  keep h hS hk := by
    obtain ⟨A, n, c, A2, n2, c2, A3, n3, c3, A4, n4, c4, A5, n5, c5, rfl, h1, h2, h3, h4, h5⟩ := h
    exact ⟨A, n, c, A2, n2, c2, A3, n3, c3, A4, n4, c4, A5, n5, c5, rfl, h1.keep hS hk, h2.keep hS hk, h3.keep hS hk, h4.keep hS hk, h5.keep hS hk⟩
/-- a block of a source -/
structure BlockD where
  kind : ByteArray
  name : ByteArray
  fields : List FieldD
  line : Int
instance : Rep BlockD where
  sz := 4
  rep w S cs x := ∃ A n c, cs = [.string x.kind, .string x.name, .slice A n c, .int .i64 x.line] ∧ RS w S A n c x.fields
  len h := by obtain ⟨A, n, c, rfl, _⟩ := h; rfl
  keep h hS hk := by
    obtain ⟨A, n, c, rfl, h1⟩ := h
    exact ⟨A, n, c, rfl, h1.keep hS hk⟩
/-- a source -/
structure SourceD where
  title : ByteArray
  blocks : List BlockD
instance : Rep SourceD where
  sz := 2
  rep w S cs x := ∃ A n c, cs = [.string x.title, .slice A n c] ∧ RS w S A n c x.blocks
  len h := by obtain ⟨A, n, c, rfl, _⟩ := h; rfl
  keep h hS hk := by
    obtain ⟨A, n, c, rfl, h1⟩ := h
    exact ⟨A, n, c, rfl, h1.keep hS hk⟩

/-- what the builder holds -/
structure BldD where
  e : ElectionD
  names : ByteArray → Option (List ByteArray)
  vals : List Vals
def BldD.of (b : BldD) (k : ByteArray) : List ByteArray := (b.names k).getD []
def kScanners : ByteArray := ⟨#[115, 99, 97, 110, 110, 101, 114, 115]⟩
def kPrecincts : ByteArray := ⟨#[112, 114, 101, 99, 105, 110, 99, 116, 115]⟩
def kStyle : ByteArray := ⟨#[115, 116, 121, 108, 101]⟩
def kAudit : ByteArray := ⟨#[97, 117, 100, 105, 116]⟩
def kPrivacy : ByteArray := ⟨#[112, 114, 105, 118, 97, 99, 121]⟩
def kDots : ByteArray := ⟨#[100, 111, 116, 115]⟩
def kCount : ByteArray := ⟨#[99, 111, 117, 110, 116]⟩
def kBatch : ByteArray := ⟨#[98, 97, 116, 99, 104]⟩
def kNames : ByteArray := ⟨#[110, 97, 109, 101, 115]⟩
def kCands : ByteArray := ⟨#[99, 97, 110, 100, 105, 100, 97, 116, 101, 115]⟩
def kRanks : ByteArray := ⟨#[114, 97, 110, 107, 115]⟩
def kTies : ByteArray := ⟨#[116, 105, 101, 115]⟩
def kOvervote : ByteArray := ⟨#[111, 118, 101, 114, 118, 111, 116, 101]⟩
def kSkip : ByteArray := ⟨#[115, 107, 105, 112]⟩
def kCell : ByteArray := ⟨#[99, 101, 108, 108]⟩
def kContests : ByteArray := ⟨#[99, 111, 110, 116, 101, 115, 116, 115]⟩
/-- the list with a key -/
def Vals.s (v : Vals) (k : ByteArray) : List ByteArray := (v.lst k).getD []
def contestOf (nm : ByteArray) (v : Vals) : ContestD := ⟨nm, v.s kCands, v.n kMethod, v.n kSeats, v.n kRanks, v.n kDigits, v.n kTies, v.n kOvervote, v.n kSkip⟩
/-- what store does -/
def storeP (kind nm : ByteArray) (v : Vals) (b : BldD) : BldD :=
  if kind = kScan then { b with e := { b.e with dots := v.n kDots, blank := v.n kBlank, marked := v.n kMarked } }
  else if kind = kScanners then { b with e := { b.e with scan := v.n kCount, batch := v.n kBatch } }
  else if kind = kPrecincts then { b with e := { b.e with prec := v.s kNames } }
  else if kind = kContest then { b with e := { b.e with cont := b.e.cont ++ [contestOf nm v] } }
  else if kind = kStyle then { b with e := { b.e with styl := b.e.styl ++ [⟨nm, [], []⟩] }, vals := b.vals ++ [v] }
  else if kind = kAudit then { b with e := { b.e with risk := v.risk, seed := v.seed } }
  else if kind = kPrivacy then { b with e := { b.e with cell := v.n kCell } }
  else b
/-- the fields of a block, one by one -/
def readsP (kind : ByteArray) : List FieldD → Vals → Err × Vals
  | [], v => (⟨0, 0⟩, v)
  | f :: l, v => if (readP kind f v).1 ≠ 0 then (⟨(readP kind f v).1, f.line⟩, (readP kind f v).2) else readsP kind l (readP kind f v).2
def BldD.named (b : BldD) (kind nm : ByteArray) : BldD := { b with names := setF b.names kind (b.of kind ++ [nm]) }
/-- what block does -/
def blockP (x : BlockD) (b : BldD) : Err × BldD :=
  if headP x.kind x.name (b.of x.kind) ≠ 0 then (⟨headP x.kind x.name (b.of x.kind), x.line⟩, b)
  else if (readsP x.kind x.fields Vals.zero).1.no ≠ 0 then ((readsP x.kind x.fields Vals.zero).1, b.named x.kind x.name)
  else if (completeP x.kind x.line (readsP x.kind x.fields Vals.zero).2).no ≠ 0 then (completeP x.kind x.line (readsP x.kind x.fields Vals.zero).2, b.named x.kind x.name)
  else (⟨0, 0⟩, storeP x.kind x.name (readsP x.kind x.fields Vals.zero).2 (b.named x.kind x.name))
def blocksP : List BlockD → BldD → Err × BldD
  | [], b => (⟨0, 0⟩, b)
  | x :: l, b => if (blockP x b).1.no ≠ 0 then blockP x b else blocksP l (blockP x b).2
/-- the names of a style's precincts, one by one -/
def linkPrec (prec : List ByteArray) (line : Int) : List ByteArray → List Bool → List Int → Except Err (List Bool × List Int)
  | [], used, acc => .ok (used, acc)
  | s :: l, used, acc =>
    if Lib.idxOfS prec s < 0 then .error ⟨2, line⟩
    else if used.getD (Lib.idxOfS prec s).toNat false = true then .error ⟨3, line⟩
    else linkPrec prec line l (used.set (Lib.idxOfS prec s).toNat true) (acc ++ [Lib.idxOfS prec s])
/-- the place of the contest with a name -/
def idxContest (nm : ByteArray) : List ContestD → Nat → Int
  | [], _ => -1
  | c :: l, i => if c.name = nm then (i : Int) else idxContest nm l (i + 1)
def linkCont (cont : List ContestD) (line : Int) : List ByteArray → List Int → Except Err (List Int)
  | [], acc => .ok acc
  | s :: l, acc => if idxContest s cont 0 < 0 then .error ⟨2, line⟩ else linkCont cont line l (acc ++ [idxContest s cont 0])
def linkGo (prec : List ByteArray) (cont : List ContestD) : List Vals → List StyleD → List Bool → List StyleD → Except Err (List StyleD)
  | v :: vs, s :: ss, used, done =>
    match linkPrec prec (v.l kPrecincts) (v.s kPrecincts) used [] with
    | .error e => .error e
    | .ok (used', ps) =>
      match linkCont cont (v.l kContests) (v.s kContests) [] with
      | .error e => .error e
      | .ok cs => linkGo prec cont vs ss used' (done ++ [⟨s.name, ps, cs⟩])
  | _, _, used, done => if used.contains false then .error ⟨6, 0⟩ else .ok done
def linkP (b : BldD) : Except Err (List StyleD) := linkGo b.e.prec b.e.cont b.vals b.e.styl (List.replicate b.e.prec.length false) []
def BldD.start (title : ByteArray) : BldD := ⟨{ ElectionD.zero with title := title }, fun _ => none, []⟩
/-- what Compile does -/
def compileP (s : SourceD) : ElectionD × Err :=
  if printP s.title 0 60 = false then (ElectionD.zero, ⟨8, 0⟩)
  else if (blocksP s.blocks (BldD.start s.title)).1.no ≠ 0 then (ElectionD.zero, (blocksP s.blocks (BldD.start s.title)).1)
  else if kindsP.any (fun k => decide ((blocksP s.blocks (BldD.start s.title)).2.of k = [])) then (ElectionD.zero, ⟨6, 0⟩)
  else match linkP (blocksP s.blocks (BldD.start s.title)).2 with
    | .error e => (ElectionD.zero, e)
    | .ok l => ({ (blocksP s.blocks (BldD.start s.title)).2.e with styl := l }, ⟨0, 0⟩)

/-- the block of a contest -/
def numF (k : ByteArray) (n : Int) : FieldD := ⟨k, [itoaP n], 0⟩
def choF (k : ByteArray) (n : Int) : FieldD := ⟨k, [choiceP k n], 0⟩
def contestP (c : ContestD) : BlockD :=
  ⟨kContest, c.name, [choF kMethod c.method, numF kSeats c.seats, numF kRanks c.ranks] ++ (if c.method = 2 then [numF kDigits c.digits] else []) ++ [choF kTies c.ties, choF kOvervote c.over, choF kSkip c.skip, ⟨kCands, c.cands, 0⟩], 0⟩
def styleP (prec conts : List ByteArray) (s : StyleD) : BlockD := ⟨kStyle, s.name, [⟨kPrecincts, namesP s.prec prec, 0⟩, ⟨kContests, namesP s.cont conts, 0⟩], 0⟩
/-- the definition of an election -/
def sourceP (e : ElectionD) : SourceD :=
  ⟨e.title, [⟨kScan, ⟨#[]⟩, [numF kDots e.dots, numF kBlank e.blank, numF kMarked e.marked], 0⟩, ⟨kScanners, ⟨#[]⟩, [numF kCount e.scan, numF kBatch e.batch], 0⟩, ⟨kPrecincts, ⟨#[]⟩, [⟨kNames, e.prec, 0⟩], 0⟩]
    ++ e.cont.map contestP ++ e.styl.map (styleP e.prec (e.cont.map (·.name)))
    ++ [⟨kAudit, ⟨#[]⟩, [⟨kRisk, [⟨(textQ e.risk.q).toArray⟩], 0⟩, ⟨kSeed, [e.seed], 0⟩], 0⟩, ⟨kPrivacy, ⟨#[]⟩, [numF kCell e.cell], 0⟩]⟩
def allP {α : Type} (f : α → α → Bool) : List α → List α → Bool
  | [], [] => true
  | x :: l, y :: m => f x y && allP f l m
  | _, _ => false
/-- what Equal answers -/
def equalP (a b : ElectionD) : Bool :=
  decide (a.title = b.title) && (decide (a.dots = b.dots) && (decide (a.blank = b.blank) && (decide (a.marked = b.marked) && (decide (a.prec = b.prec) && (allP sameContestP a.cont b.cont && (allP sameStyleP a.styl b.styl
    && (decide (a.scan = b.scan) && (decide (a.batch = b.batch) && (decide (cmpQ a.risk.q b.risk.flip.q = 0) && (decide (a.cell = b.cell) && decide (a.seed = b.seed)))))))))))
/-- what Valid answers -/
def validP (e : ElectionD) : Bool := decide ((compileP (sourceP e)).2.no = 0) && (e.risk.valid && equalP (compileP (sourceP e)).1 e)
end Go.Proofs.YtjlhbfbdcfajfaaGreatDoor
/- schema: slices.EqualFunc over contests and over styles. PRINTED by wip/gen/same3.py -/
namespace Go.Proofs.YtjlhbfbdcfajfaaGreatDoor
open Go.RowKit

/-- the cells of a struct in a slice, in this world and in later ones -/
theorem RS.load_at {α : Type} [Rep α] {w : World} {S : Nat → Prop} {A : Option Addr} {n c : Nat} {xs : List α} (h : RS w S A n c xs) (hS : ∀ b, S b → b < w.heap.size) {k : Nat} (hk : k < n) :
    ∃ b o x cs, A = some ⟨b, o, none⟩ ∧ S b ∧ xs[k]? = some x ∧ Rep.rep w S cs x ∧ ∀ w', Below w.heap.size w w' → (∀ u, cs[0]? = some u → w'.cell? ⟨b, o + k * Rep.sz α, none⟩ = some u) ∧ ∀ j u, cs[j]? = some u → w'.cell? ⟨b, o + k * Rep.sz α + j, none⟩ = some u := by
  obtain ⟨b, o, x, cs, rfl, hb, hx, hr, hc⟩ := h.at_ hk
  have hcc : ∀ w', Below w.heap.size w w' → ∀ j u, cs[j]? = some u → w'.cell? ⟨b, o + k * Rep.sz α + j, none⟩ = some u := by
    intro w' hw j u hj
    rw [← hc j u hj, ← Nat.add_assoc]
    exact hw.cell (p := ⟨b, o + k * Rep.sz α + j, none⟩) (hS b hb)
  exact ⟨b, o, x, cs, rfl, hb, hx, hr, fun w' hw => ⟨fun u hu => hcc w' hw 0 u hu, hcc w' hw⟩⟩
theorem allP_ne {α : Type} {f : α → α → Bool} : ∀ {xs ys : List α}, xs.length ≠ ys.length → allP f xs ys = false
  | [], [], h => absurd rfl h
  | [], _ :: _, _ => rfl
  | _ :: _, [], _ => rfl
  | x :: l, y :: m, h => by
    have : l.length ≠ m.length := fun e => h (by simp [e])
    rw [allP, allP_ne this, Bool.and_false]
theorem drop_cons' {α : Type} {xs : List α} {k : Nat} {x : α} (h : xs[k]? = some x) : xs.drop k = x :: xs.drop (k + 1) := by
  obtain ⟨hk, rfl⟩ := List.getElem?_eq_some_iff.1 h
  exact List.drop_eq_getElem_cons hk


set_option maxRecDepth 20000 in
set_option maxHeartbeats 2000000 in
theorem eqContest_ok {w : World} {S S2 : Nat → Prop} {A A2 : Option Addr} {n c n2 c2 : Nat} {xs ys : List ContestD} (h : RS w S A n c xs) (h2 : RS w S2 A2 n2 c2 ys) (hS : ∀ b, S b → b < w.heap.size) (hS2 : ∀ b, S2 b → b < w.heap.size) :
    Calls Tryz.prog 77 #[.slice A n c, .slice A2 n2 c2, .func (.func 78) #[] #[]] w (RetV w (.bool (allP sameContestP xs ys))) := by
  obtain ⟨z, hz⟩ : ∃ z, allP sameContestP xs ys = z := ⟨_, rfl⟩
  rw [hz]
  have hzz := hz.symm
  have hl1 := h.len
  have hl2 := h2.len
  have hm1 := h.max
  have hm2 := h2.max
  have hne : n ≠ n2 → z = false := fun e => by rw [hzz]; exact allP_ne (by rw [hl1, hl2]; exact e)
  have H1 := Lib.hid h
  have H2 := Lib.hid h2
  have HZ := Lib.hid hzz
  have HL1 := Lib.hid hl1
  have HL2 := Lib.hid hl2
  have HNE := Lib.hid hne
  clear h h2 hz hzz hl1 hl2 hne
  go_enter Tryz.func77, Tryz.ntmps77
  by_cases hn : n = n2
  case neg =>
    have hzf := HNE.out hn
    have HZF := Lib.hid hzf
    have hb : ((n : Int) == (n2 : Int)) = false := by rw [beq_eq_false_iff_ne]; omega
    have hb2 : (n == n2) = false := by rw [beq_eq_false_iff_ne]; exact hn
    clear hzf hn HNE
    go_wp2_with fail
    go_ret
    exact ⟨by rw [HZF.out]; rfl, Below.refl _ _⟩
  subst hn
  clear HNE
  go_wp2_with fail
  go_loopw [17] (fun iv wr => ∃ k : Nat, iv = .int .i64 k ∧ k ≤ n ∧ z = allP sameContestP (xs.drop k) (ys.drop k) ∧ Below w.heap.size w wr) (fun iv _ => n - (intOf iv).toNat)
  case atStart => exact ⟨0, rfl, Nat.zero_le _, by simpa using HZ.out, Below.refl _ _⟩
  case round =>
    clear HZ
    obtain ⟨k, rfl, hk, hzk, hb⟩ := hrel
    have HZK := Lib.hid hzk
    have HB := Lib.hid hb
    have HR := Lib.hid (H1.out.below hb hS)
    have HR2 := Lib.hid (H2.out.below hb hS2)
    clear hzk hb
    by_cases hlt : k < n
    · have hlt2 : (k : Int) < (n : Int) := by omega
      obtain ⟨b, o, x, cs, rfl, hSb, hx, hr, hld⟩ := HR.out.load_at (fun b h => Nat.lt_of_lt_of_le (hS b h) HB.out.size) hlt
      obtain ⟨b2, o2, y, cs2, rfl, hSb2, hx2, hr2, hld2⟩ := HR2.out.load_at (fun b h => Nat.lt_of_lt_of_le (hS2 b h) HB.out.size) hlt
      have hkc : (k : Int) ≤ (c : Int) := by have := HR.out.cap; omega
      have hkc2 : (k : Int) ≤ (c2 : Int) := by have := HR2.out.cap; omega
      have hz1 : z = (sameContestP x y && allP sameContestP (xs.drop (k + 1)) (ys.drop (k + 1))) := by rw [HZK.out, drop_cons' hx, drop_cons' hx2]; rfl
      have HZ1 := Lib.hid hz1
      obtain ⟨z1, hz1'⟩ : ∃ q, sameContestP x y = q := ⟨_, rfl⟩
      rw [hz1'] at hz1
      have HZE := Lib.hid hz1'
      clear hz1'
      have HZ1 := Lib.hid hz1
      obtain ⟨A3, n3, c3, rfl, x1⟩ := hr
      obtain ⟨A4, n4, c4, rfl, x2⟩ := hr2
      have hb1 : Below wr.heap.size wr (wr.alloc (.cells #[.string x.name, .slice A3 n3 c3, .int .i64 x.method, .int .i64 x.seats, .int .i64 x.ranks, .int .i64 x.digits, .int .i64 x.ties, .int .i64 x.over, .int .i64 x.skip] 95)) := (Below.refl _ _).alloc (Nat.le_refl _) _
      have hk1 : Blk (wr.alloc (.cells #[.string x.name, .slice A3 n3 c3, .int .i64 x.method, .int .i64 x.seats, .int .i64 x.ranks, .int .i64 x.digits, .int .i64 x.ties, .int .i64 x.over, .int .i64 x.skip] 95)) wr.heap.size 95 #[.string x.name, .slice A3 n3 c3, .int .i64 x.method, .int .i64 x.seats, .int .i64 x.ranks, .int .i64 x.digits, .int .i64 x.ties, .int .i64 x.over, .int .i64 x.skip] := Blk.new _ _ _
      have hz1 : (wr.alloc (.cells #[.string x.name, .slice A3 n3 c3, .int .i64 x.method, .int .i64 x.seats, .int .i64 x.ranks, .int .i64 x.digits, .int .i64 x.ties, .int .i64 x.over, .int .i64 x.skip] 95)).heap.size = wr.heap.size + 1 := by simp
      obtain ⟨w1, hw1⟩ : ∃ q, wr.alloc (.cells #[.string x.name, .slice A3 n3 c3, .int .i64 x.method, .int .i64 x.seats, .int .i64 x.ranks, .int .i64 x.digits, .int .i64 x.ties, .int .i64 x.over, .int .i64 x.skip] 95) = q := ⟨_, rfl⟩
      rw [hw1] at hb1 hk1 hz1
      have hb2 : Below wr.heap.size wr (w1.alloc (.cells #[.string y.name, .slice A4 n4 c4, .int .i64 y.method, .int .i64 y.seats, .int .i64 y.ranks, .int .i64 y.digits, .int .i64 y.ties, .int .i64 y.over, .int .i64 y.skip] 95)) := hb1.alloc (by omega) _
      have hk2 : Blk (w1.alloc (.cells #[.string y.name, .slice A4 n4 c4, .int .i64 y.method, .int .i64 y.seats, .int .i64 y.ranks, .int .i64 y.digits, .int .i64 y.ties, .int .i64 y.over, .int .i64 y.skip] 95)) (wr.heap.size + 1) 95 #[.string y.name, .slice A4 n4 c4, .int .i64 y.method, .int .i64 y.seats, .int .i64 y.ranks, .int .i64 y.digits, .int .i64 y.ties, .int .i64 y.over, .int .i64 y.skip] := Blk.new' hz1 _ _
      have hk12 := hk1.alloc (.cells #[.string y.name, .slice A4 n4 c4, .int .i64 y.method, .int .i64 y.seats, .int .i64 y.ranks, .int .i64 y.digits, .int .i64 y.ties, .int .i64 y.over, .int .i64 y.skip] 95)
      obtain ⟨w2, hw2⟩ : ∃ q, w1.alloc (.cells #[.string y.name, .slice A4 n4 c4, .int .i64 y.method, .int .i64 y.seats, .int .i64 y.ranks, .int .i64 y.digits, .int .i64 y.ties, .int .i64 y.over, .int .i64 y.skip] 95) = q := ⟨_, rfl⟩
      rw [hw2] at hb2 hk2 hk12
      have hla := hld wr (Below.refl _ _)
      have hlb := hld2 w1 hb1
      have p0 : w2.cell? ⟨wr.heap.size, 0, none⟩ = some (.string x.name) := hk12.cell 0
      have p1 : w2.cell? ⟨wr.heap.size, 1, none⟩ = some (.slice A3 n3 c3) := hk12.cell 1
      have p2 : w2.cell? ⟨wr.heap.size, 2, none⟩ = some (.int .i64 x.method) := hk12.cell 2
      have p3 : w2.cell? ⟨wr.heap.size, 3, none⟩ = some (.int .i64 x.seats) := hk12.cell 3
      have p4 : w2.cell? ⟨wr.heap.size, 4, none⟩ = some (.int .i64 x.ranks) := hk12.cell 4
      have p5 : w2.cell? ⟨wr.heap.size, 5, none⟩ = some (.int .i64 x.digits) := hk12.cell 5
      have p6 : w2.cell? ⟨wr.heap.size, 6, none⟩ = some (.int .i64 x.ties) := hk12.cell 6
      have p7 : w2.cell? ⟨wr.heap.size, 7, none⟩ = some (.int .i64 x.over) := hk12.cell 7
      have p8 : w2.cell? ⟨wr.heap.size, 8, none⟩ = some (.int .i64 x.skip) := hk12.cell 8
      have q0 : w2.cell? ⟨wr.heap.size + 1, 0, none⟩ = some (.string y.name) := hk2.cell 0
      have q1 : w2.cell? ⟨wr.heap.size + 1, 1, none⟩ = some (.slice A4 n4 c4) := hk2.cell 1
      have q2 : w2.cell? ⟨wr.heap.size + 1, 2, none⟩ = some (.int .i64 y.method) := hk2.cell 2
      have q3 : w2.cell? ⟨wr.heap.size + 1, 3, none⟩ = some (.int .i64 y.seats) := hk2.cell 3
      have q4 : w2.cell? ⟨wr.heap.size + 1, 4, none⟩ = some (.int .i64 y.ranks) := hk2.cell 4
      have q5 : w2.cell? ⟨wr.heap.size + 1, 5, none⟩ = some (.int .i64 y.digits) := hk2.cell 5
      have q6 : w2.cell? ⟨wr.heap.size + 1, 6, none⟩ = some (.int .i64 y.ties) := hk2.cell 6
      have q7 : w2.cell? ⟨wr.heap.size + 1, 7, none⟩ = some (.int .i64 y.over) := hk2.cell 7
      have q8 : w2.cell? ⟨wr.heap.size + 1, 8, none⟩ = some (.int .i64 y.skip) := hk2.cell 8
      have r0 : wr.cell? ⟨b, o + k * 9, none⟩ = some (.string x.name) := hla.1 _ rfl
      have r1 : wr.cell? ⟨b, o + k * 9 + 1, none⟩ = some (.slice A3 n3 c3) := hla.2 1 _ rfl
      have r2 : wr.cell? ⟨b, o + k * 9 + 2, none⟩ = some (.int .i64 x.method) := hla.2 2 _ rfl
      have r3 : wr.cell? ⟨b, o + k * 9 + 3, none⟩ = some (.int .i64 x.seats) := hla.2 3 _ rfl
      have r4 : wr.cell? ⟨b, o + k * 9 + 4, none⟩ = some (.int .i64 x.ranks) := hla.2 4 _ rfl
      have r5 : wr.cell? ⟨b, o + k * 9 + 5, none⟩ = some (.int .i64 x.digits) := hla.2 5 _ rfl
      have r6 : wr.cell? ⟨b, o + k * 9 + 6, none⟩ = some (.int .i64 x.ties) := hla.2 6 _ rfl
      have r7 : wr.cell? ⟨b, o + k * 9 + 7, none⟩ = some (.int .i64 x.over) := hla.2 7 _ rfl
      have r8 : wr.cell? ⟨b, o + k * 9 + 8, none⟩ = some (.int .i64 x.skip) := hla.2 8 _ rfl
      have s0 : w1.cell? ⟨b2, o2 + k * 9, none⟩ = some (.string y.name) := hlb.1 _ rfl
      have s1 : w1.cell? ⟨b2, o2 + k * 9 + 1, none⟩ = some (.slice A4 n4 c4) := hlb.2 1 _ rfl
      have s2 : w1.cell? ⟨b2, o2 + k * 9 + 2, none⟩ = some (.int .i64 y.method) := hlb.2 2 _ rfl
      have s3 : w1.cell? ⟨b2, o2 + k * 9 + 3, none⟩ = some (.int .i64 y.seats) := hlb.2 3 _ rfl
      have s4 : w1.cell? ⟨b2, o2 + k * 9 + 4, none⟩ = some (.int .i64 y.ranks) := hlb.2 4 _ rfl
      have s5 : w1.cell? ⟨b2, o2 + k * 9 + 5, none⟩ = some (.int .i64 y.digits) := hlb.2 5 _ rfl
      have s6 : w1.cell? ⟨b2, o2 + k * 9 + 6, none⟩ = some (.int .i64 y.ties) := hlb.2 6 _ rfl
      have s7 : w1.cell? ⟨b2, o2 + k * 9 + 7, none⟩ = some (.int .i64 y.over) := hlb.2 7 _ rfl
      have s8 : w1.cell? ⟨b2, o2 + k * 9 + 8, none⟩ = some (.int .i64 y.skip) := hlb.2 8 _ rfl
      have hcc := (sameContest_ok (w := w2) (S := S) (S2 := S2) (a := x) (b := y) ⟨_, rfl, A3, n3, c3, rfl, x1.below hb2 (fun b h => Nat.lt_of_lt_of_le (hS b h) HB.out.size)⟩ ⟨_, rfl, A4, n4, c4, rfl, x2.below hb2 (fun b h => Nat.lt_of_lt_of_le (hS2 b h) HB.out.size)⟩ (fun b h => Nat.lt_of_lt_of_le (hS b h) (Nat.le_trans HB.out.size hb2.size)) (fun b h => Nat.lt_of_lt_of_le (hS2 b h) (Nat.le_trans HB.out.size hb2.size)))
      rw [HZE.out] at hcc
      have HC := Lib.hid hcc
      have HB2 := Lib.hid (below_more HB.out hb2)
      have HW1 := Lib.hid hw1
      have HW2 := Lib.hid hw2
      have HSZ := Lib.hid hz1
      clear hcc hla hlb hw1 hw2 hk1 hk2 hk12 hb1 hb2 hld hld2 hx hx2 hz1
      go_upto_region 6 with (fail)
      rw [HW1.out]
      go_upto_region 7 with (fail)
      rw [HSZ.out, HW2.out]
      go_wp2_with fail
      refine HC.out.mono ?_
      rintro e w3 ⟨rfl, hb3⟩
      have HB3 := Lib.hid (below_more HB2.out hb3)
      clear hb3
      cases z1
      case false =>
        have hzf : z = false := by rw [HZ1.out]; rfl
        have HZF := Lib.hid hzf
        clear hzf
        go_wp2_with fail
        go_ret
        exact ⟨by rw [HZF.out]; rfl, HB3.out⟩
      case true =>
        go_wp2_with fail
        go_roundw
        case rel => exact ⟨k + 1, by go_num, by omega, by rw [HZ1.out, Bool.true_and], HB3.out⟩
        case measure => simp [intOf]; omega
    · have hkn : k = n := by omega
      have hzf : z = true := by
        rw [HZK.out, List.drop_eq_nil_of_le (by rw [HL1.out]; omega), List.drop_eq_nil_of_le (by rw [HL2.out]; omega)]
        rfl
      have HZF := Lib.hid hzf
      clear hzf hkn
      go_wp2_with fail
      go_ret
      exact ⟨by rw [HZF.out]; rfl, HB.out⟩


set_option maxRecDepth 20000 in
set_option maxHeartbeats 2000000 in
theorem eqStyle_ok {w : World} {S S2 : Nat → Prop} {A A2 : Option Addr} {n c n2 c2 : Nat} {xs ys : List StyleD} (h : RS w S A n c xs) (h2 : RS w S2 A2 n2 c2 ys) (hS : ∀ b, S b → b < w.heap.size) (hS2 : ∀ b, S2 b → b < w.heap.size) :
    Calls Tryz.prog 79 #[.slice A n c, .slice A2 n2 c2, .func (.func 80) #[] #[]] w (RetV w (.bool (allP sameStyleP xs ys))) := by
  obtain ⟨z, hz⟩ : ∃ z, allP sameStyleP xs ys = z := ⟨_, rfl⟩
  rw [hz]
  have hzz := hz.symm
  have hl1 := h.len
  have hl2 := h2.len
  have hm1 := h.max
  have hm2 := h2.max
  have hne : n ≠ n2 → z = false := fun e => by rw [hzz]; exact allP_ne (by rw [hl1, hl2]; exact e)
  have H1 := Lib.hid h
  have H2 := Lib.hid h2
  have HZ := Lib.hid hzz
  have HL1 := Lib.hid hl1
  have HL2 := Lib.hid hl2
  have HNE := Lib.hid hne
  clear h h2 hz hzz hl1 hl2 hne
  go_enter Tryz.func79, Tryz.ntmps79
  by_cases hn : n = n2
  case neg =>
    have hzf := HNE.out hn
    have HZF := Lib.hid hzf
    have hb : ((n : Int) == (n2 : Int)) = false := by rw [beq_eq_false_iff_ne]; omega
    have hb2 : (n == n2) = false := by rw [beq_eq_false_iff_ne]; exact hn
    clear hzf hn HNE
    go_wp2_with fail
    go_ret
    exact ⟨by rw [HZF.out]; rfl, Below.refl _ _⟩
  subst hn
  clear HNE
  go_wp2_with fail
  go_loopw [17] (fun iv wr => ∃ k : Nat, iv = .int .i64 k ∧ k ≤ n ∧ z = allP sameStyleP (xs.drop k) (ys.drop k) ∧ Below w.heap.size w wr) (fun iv _ => n - (intOf iv).toNat)
  case atStart => exact ⟨0, rfl, Nat.zero_le _, by simpa using HZ.out, Below.refl _ _⟩
  case round =>
    clear HZ
    obtain ⟨k, rfl, hk, hzk, hb⟩ := hrel
    have HZK := Lib.hid hzk
    have HB := Lib.hid hb
    have HR := Lib.hid (H1.out.below hb hS)
    have HR2 := Lib.hid (H2.out.below hb hS2)
    clear hzk hb
    by_cases hlt : k < n
    · have hlt2 : (k : Int) < (n : Int) := by omega
      obtain ⟨b, o, x, cs, rfl, hSb, hx, hr, hld⟩ := HR.out.load_at (fun b h => Nat.lt_of_lt_of_le (hS b h) HB.out.size) hlt
      obtain ⟨b2, o2, y, cs2, rfl, hSb2, hx2, hr2, hld2⟩ := HR2.out.load_at (fun b h => Nat.lt_of_lt_of_le (hS2 b h) HB.out.size) hlt
      have hkc : (k : Int) ≤ (c : Int) := by have := HR.out.cap; omega
      have hkc2 : (k : Int) ≤ (c2 : Int) := by have := HR2.out.cap; omega
      have hz1 : z = (sameStyleP x y && allP sameStyleP (xs.drop (k + 1)) (ys.drop (k + 1))) := by rw [HZK.out, drop_cons' hx, drop_cons' hx2]; rfl
      have HZ1 := Lib.hid hz1
      obtain ⟨z1, hz1'⟩ : ∃ q, sameStyleP x y = q := ⟨_, rfl⟩
      rw [hz1'] at hz1
      have HZE := Lib.hid hz1'
      clear hz1'
      have HZ1 := Lib.hid hz1
      obtain ⟨A3, n3, c3, A5, n5, c5, rfl, x1, x3⟩ := hr
      obtain ⟨A4, n4, c4, A6, n6, c6, rfl, x2, x4⟩ := hr2
      have hb1 : Below wr.heap.size wr (wr.alloc (.cells #[.string x.name, .slice A3 n3 c3, .slice A5 n5 c5] 97)) := (Below.refl _ _).alloc (Nat.le_refl _) _
      have hk1 : Blk (wr.alloc (.cells #[.string x.name, .slice A3 n3 c3, .slice A5 n5 c5] 97)) wr.heap.size 97 #[.string x.name, .slice A3 n3 c3, .slice A5 n5 c5] := Blk.new _ _ _
      have hz1 : (wr.alloc (.cells #[.string x.name, .slice A3 n3 c3, .slice A5 n5 c5] 97)).heap.size = wr.heap.size + 1 := by simp
      obtain ⟨w1, hw1⟩ : ∃ q, wr.alloc (.cells #[.string x.name, .slice A3 n3 c3, .slice A5 n5 c5] 97) = q := ⟨_, rfl⟩
      rw [hw1] at hb1 hk1 hz1
      have hb2 : Below wr.heap.size wr (w1.alloc (.cells #[.string y.name, .slice A4 n4 c4, .slice A6 n6 c6] 97)) := hb1.alloc (by omega) _
      have hk2 : Blk (w1.alloc (.cells #[.string y.name, .slice A4 n4 c4, .slice A6 n6 c6] 97)) (wr.heap.size + 1) 97 #[.string y.name, .slice A4 n4 c4, .slice A6 n6 c6] := Blk.new' hz1 _ _
      have hk12 := hk1.alloc (.cells #[.string y.name, .slice A4 n4 c4, .slice A6 n6 c6] 97)
      obtain ⟨w2, hw2⟩ : ∃ q, w1.alloc (.cells #[.string y.name, .slice A4 n4 c4, .slice A6 n6 c6] 97) = q := ⟨_, rfl⟩
      rw [hw2] at hb2 hk2 hk12
      have hla := hld wr (Below.refl _ _)
      have hlb := hld2 w1 hb1
      have p0 : w2.cell? ⟨wr.heap.size, 0, none⟩ = some (.string x.name) := hk12.cell 0
      have p1 : w2.cell? ⟨wr.heap.size, 1, none⟩ = some (.slice A3 n3 c3) := hk12.cell 1
      have p2 : w2.cell? ⟨wr.heap.size, 2, none⟩ = some (.slice A5 n5 c5) := hk12.cell 2
      have q0 : w2.cell? ⟨wr.heap.size + 1, 0, none⟩ = some (.string y.name) := hk2.cell 0
      have q1 : w2.cell? ⟨wr.heap.size + 1, 1, none⟩ = some (.slice A4 n4 c4) := hk2.cell 1
      have q2 : w2.cell? ⟨wr.heap.size + 1, 2, none⟩ = some (.slice A6 n6 c6) := hk2.cell 2
      have r0 : wr.cell? ⟨b, o + k * 3, none⟩ = some (.string x.name) := hla.1 _ rfl
      have r1 : wr.cell? ⟨b, o + k * 3 + 1, none⟩ = some (.slice A3 n3 c3) := hla.2 1 _ rfl
      have r2 : wr.cell? ⟨b, o + k * 3 + 2, none⟩ = some (.slice A5 n5 c5) := hla.2 2 _ rfl
      have s0 : w1.cell? ⟨b2, o2 + k * 3, none⟩ = some (.string y.name) := hlb.1 _ rfl
      have s1 : w1.cell? ⟨b2, o2 + k * 3 + 1, none⟩ = some (.slice A4 n4 c4) := hlb.2 1 _ rfl
      have s2 : w1.cell? ⟨b2, o2 + k * 3 + 2, none⟩ = some (.slice A6 n6 c6) := hlb.2 2 _ rfl
      have hcc := (sameStyle_ok (w := w2) (S := S) (S2 := S2) (a := x) (b := y) ⟨_, rfl, A3, n3, c3, A5, n5, c5, rfl, x1.below hb2 (fun b h => Nat.lt_of_lt_of_le (hS b h) HB.out.size), x3.below hb2 (fun b h => Nat.lt_of_lt_of_le (hS b h) HB.out.size)⟩ ⟨_, rfl, A4, n4, c4, A6, n6, c6, rfl, x2.below hb2 (fun b h => Nat.lt_of_lt_of_le (hS2 b h) HB.out.size), x4.below hb2 (fun b h => Nat.lt_of_lt_of_le (hS2 b h) HB.out.size)⟩ (fun b h => Nat.lt_of_lt_of_le (hS b h) (Nat.le_trans HB.out.size hb2.size)) (fun b h => Nat.lt_of_lt_of_le (hS2 b h) (Nat.le_trans HB.out.size hb2.size)))
      rw [HZE.out] at hcc
      have HC := Lib.hid hcc
      have HB2 := Lib.hid (below_more HB.out hb2)
      have HW1 := Lib.hid hw1
      have HW2 := Lib.hid hw2
      have HSZ := Lib.hid hz1
      clear hcc hla hlb hw1 hw2 hk1 hk2 hk12 hb1 hb2 hld hld2 hx hx2 hz1
      go_upto_region 6 with (fail)
      rw [HW1.out]
      go_upto_region 7 with (fail)
      rw [HSZ.out, HW2.out]
      go_wp2_with fail
      refine HC.out.mono ?_
      rintro e w3 ⟨rfl, hb3⟩
      have HB3 := Lib.hid (below_more HB2.out hb3)
      clear hb3
      cases z1
      case false =>
        have hzf : z = false := by rw [HZ1.out]; rfl
        have HZF := Lib.hid hzf
        clear hzf
        go_wp2_with fail
        go_ret
        exact ⟨by rw [HZF.out]; rfl, HB3.out⟩
      case true =>
        go_wp2_with fail
        go_roundw
        case rel => exact ⟨k + 1, by go_num, by omega, by rw [HZ1.out, Bool.true_and], HB3.out⟩
        case measure => simp [intOf]; omega
    · have hkn : k = n := by omega
      have hzf : z = true := by
        rw [HZK.out, List.drop_eq_nil_of_le (by rw [HL1.out]; omega), List.drop_eq_nil_of_le (by rw [HL2.out]; omega)]
        rfl
      have HZF := Lib.hid hzf
      clear hzf hkn
      go_wp2_with fail
      go_ret
      exact ⟨by rw [HZF.out]; rfl, HB.out⟩

end Go.Proofs.YtjlhbfbdcfajfaaGreatDoor
