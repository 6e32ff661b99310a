/-
  DERIVED. GIVEN WITH THE SEED: THE PROGRAM's TIES (one call each: nine closed facts by the kernel) AND EACH ROW's TIE, after the 31st guide's Derived/Test/Toyas{Tie, Card}.lean. No idea stands in it: it is a product of the set-up. Laid BY PROGRAM, IN A SANDBOX (cutbox-door.mjs). By AI agents, Wed Nov 11 2026. No macro, syntax, notation, axiom, sorry.
-/
import Derived.Test.YtofdjlngohhlmaaDoorRows
import Derived.LaidByTextLater
import Derived.SevenTiedAt
import Derived.LaidSub
import Derived.LaidOnce
namespace Go.Proofs.YtofdjlngohhlmaaDoor
open Go
set_option maxRecDepth 100000
theorem seatTie1 : Tryd.prog.laidByTextLater [("election/electionref04.k", Rows.laid_election_electionref04_k), ("election/digest.constants", Rows.laid_election_digest_constants)] [.data, .data] true :=
  Program.laidByTextLater_by_one 19 8 65 (by kernel_rfl) (by kernel_rfl) (by kernel_rfl) (by kernel_rfl) (by kernel_rfl) (by kernel_rfl) (fun _ _ => by kernel_rfl)
theorem noOwnUnsafe : Tryd.pinned.checked.prog.headLifts.contains "ownunsafe" = false := by kernel_rfl
theorem tie : Tryd.prog.laidByTextLater [("election/electionref04.k", Rows.laid_election_electionref04_k), ("election/digest.constants", Rows.laid_election_digest_constants)] [.data, .data] true :=
  Program.laidByTextLater.sub seatTie1 ["election/electionref04.k", "election/digest.constants"] (by kernel_rfl) (by kernel_rfl)
theorem drawSequence_row_tie : Rows.drawSequenceRow.laidByTextAt .later Tryd.pinned [.data, .data] true :=
  OpenClaim.laidByTextAt_later rfl rfl tie noOwnUnsafe
theorem tie2 : Tryd.prog.laidByTextLater [("election/digest.constants", Rows.laid_election_digest_constants)] [.data] true :=
  Program.laidByTextLater.sub seatTie1 ["election/digest.constants"] (by kernel_rfl) (by kernel_rfl)
theorem drawPermutes_row_tie : Rows.drawPermutesRow.laidByTextAt .later Tryd.pinned [.data] true :=
  OpenClaim.laidByTextAt_later rfl rfl tie2 noOwnUnsafe
theorem drawSequenceUpto_row_tie : Rows.drawSequenceUptoRow.laidByTextAt .later Tryd.pinned [.data, .data] true :=
  OpenClaim.laidByTextAt_later rfl rfl tie noOwnUnsafe
theorem drawPermutesUpto_row_tie : Rows.drawPermutesUptoRow.laidByTextAt .later Tryd.pinned [.data] true :=
  OpenClaim.laidByTextAt_later rfl rfl tie2 noOwnUnsafe
end Go.Proofs.YtofdjlngohhlmaaDoor
