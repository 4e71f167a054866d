/-
  DERIVED. GIVEN WITH THE SEED: THE PROGRAM's TIES (one call each: nine closed facts by the kernel) AND EACH ROW's TIE, after the 31st guide's Derived/Test/Toyas{Tie, Card}.lean. No idea stands in it: it is a product of the set-up. Laid BY PROGRAM, IN A SANDBOX (cutbox-door.mjs). By AI agents, Wed Nov 11 2026. No macro, syntax, notation, axiom, sorry.
-/
import Derived.Test.YtpgalhbplcanhaaGreatDoorRows
import Derived.LaidByTextLater
import Derived.SevenTiedAt
import Derived.LaidSub
import Derived.LaidOnce
namespace Go.Proofs.YtpgalhbplcanhaaGreatDoor
open Go
set_option maxRecDepth 100000
theorem seatTie1 : Tryz.prog.laidByTextLater [("math/bits.deBruijn32tab", Rows.laid_math_bits_deBruijn32tab), ("math/bits.deBruijn64tab", Rows.laid_math_bits_deBruijn64tab), ("internal/strconv.uint64pow10", Rows.laid_internal_strconv_uint64pow10), ("paravane/bin.none", Rows.laid_paravane_bin_none), ("paravane/watch.first", Rows.laid_paravane_watch_first), ("paravane/watch.octants", Rows.laid_paravane_watch_octants), ("strconv.ErrRange", Rows.laid_strconv_ErrRange), ("strconv.ErrSyntax", Rows.laid_strconv_ErrSyntax)] [.data, .data, .data, .data, .data, .funcs, .sentinel, .sentinel] true :=
  Program.laidByTextLater_by_one 137 8 65 (by kernel_rfl) (by kernel_rfl) (by kernel_rfl) (by kernel_rfl) (by kernel_rfl) (by kernel_rfl) (fun _ _ => by kernel_rfl)
theorem noOwnUnsafe : Tryz.pinned.checked.prog.headLifts.contains "ownunsafe" = false := by kernel_rfl
theorem tie : Tryz.prog.laidByTextLater [("math/bits.deBruijn32tab", Rows.laid_math_bits_deBruijn32tab), ("math/bits.deBruijn64tab", Rows.laid_math_bits_deBruijn64tab), ("internal/strconv.uint64pow10", Rows.laid_internal_strconv_uint64pow10), ("paravane/bin.none", Rows.laid_paravane_bin_none), ("paravane/watch.first", Rows.laid_paravane_watch_first), ("paravane/watch.octants", Rows.laid_paravane_watch_octants), ("strconv.ErrRange", Rows.laid_strconv_ErrRange), ("strconv.ErrSyntax", Rows.laid_strconv_ErrSyntax)] [.data, .data, .data, .data, .data, .funcs, .sentinel, .sentinel] true :=
  Program.laidByTextLater.sub seatTie1 ["math/bits.deBruijn32tab", "math/bits.deBruijn64tab", "internal/strconv.uint64pow10", "paravane/bin.none", "paravane/watch.first", "paravane/watch.octants", "strconv.ErrRange", "strconv.ErrSyntax"] (by kernel_rfl) (by kernel_rfl)
theorem topVoyage_row_tie : Rows.topVoyageRow.laidByTextAt .later Tryz.pinned [.data, .data, .data, .data, .data, .funcs, .sentinel, .sentinel] true :=
  OpenClaim.laidByTextAt_later rfl rfl tie noOwnUnsafe
theorem topMarked_row_tie : Rows.topMarkedRow.laidByTextAt .later Tryz.pinned [.data, .data, .data, .data, .data, .funcs, .sentinel, .sentinel] true :=
  OpenClaim.laidByTextAt_later rfl rfl tie noOwnUnsafe
theorem tie2 : Tryz.prog.laidByTextLater [("math/bits.deBruijn32tab", Rows.laid_math_bits_deBruijn32tab), ("math/bits.deBruijn64tab", Rows.laid_math_bits_deBruijn64tab), ("internal/strconv.uint64pow10", Rows.laid_internal_strconv_uint64pow10), ("paravane/bin.none", Rows.laid_paravane_bin_none), ("paravane/watch.first", Rows.laid_paravane_watch_first), ("paravane/watch.octants", Rows.laid_paravane_watch_octants)] [.data, .data, .data, .data, .data, .funcs] true :=
  Program.laidByTextLater.sub seatTie1 ["math/bits.deBruijn32tab", "math/bits.deBruijn64tab", "internal/strconv.uint64pow10", "paravane/bin.none", "paravane/watch.first", "paravane/watch.octants"] (by kernel_rfl) (by kernel_rfl)
theorem topLogged_row_tie : Rows.topLoggedRow.laidByTextAt .later Tryz.pinned [.data, .data, .data, .data, .data, .funcs] true :=
  OpenClaim.laidByTextAt_later rfl rfl tie2 noOwnUnsafe
theorem tie3 : Tryz.prog.laidByTextLater [("math/bits.deBruijn32tab", Rows.laid_math_bits_deBruijn32tab), ("math/bits.deBruijn64tab", Rows.laid_math_bits_deBruijn64tab), ("internal/strconv.uint64pow10", Rows.laid_internal_strconv_uint64pow10), ("paravane/watch.first", Rows.laid_paravane_watch_first), ("paravane/watch.octants", Rows.laid_paravane_watch_octants)] [.data, .data, .data, .data, .funcs] true :=
  Program.laidByTextLater.sub seatTie1 ["math/bits.deBruijn32tab", "math/bits.deBruijn64tab", "internal/strconv.uint64pow10", "paravane/watch.first", "paravane/watch.octants"] (by kernel_rfl) (by kernel_rfl)
theorem tapeKept_row_tie : Rows.tapeKeptRow.laidByTextAt .later Tryz.pinned [.data, .data, .data, .data, .funcs] true :=
  OpenClaim.laidByTextAt_later rfl rfl tie3 noOwnUnsafe
theorem tapeHeld_row_tie : Rows.tapeHeldRow.laidByTextAt .later Tryz.pinned [.data, .data, .data, .data, .funcs] true :=
  OpenClaim.laidByTextAt_later rfl rfl tie3 noOwnUnsafe
theorem topVoyageUpto_row_tie : Rows.topVoyageUptoRow.laidByTextAt .later Tryz.pinned [.data, .data, .data, .data, .data, .funcs, .sentinel, .sentinel] true :=
  OpenClaim.laidByTextAt_later rfl rfl tie noOwnUnsafe
theorem topLoggedUpto_row_tie : Rows.topLoggedUptoRow.laidByTextAt .later Tryz.pinned [.data, .data, .data, .data, .data, .funcs] true :=
  OpenClaim.laidByTextAt_later rfl rfl tie2 noOwnUnsafe
theorem tapeKeptUpto_row_tie : Rows.tapeKeptUptoRow.laidByTextAt .later Tryz.pinned [.data, .data, .data, .data, .funcs] true :=
  OpenClaim.laidByTextAt_later rfl rfl tie3 noOwnUnsafe
theorem tapeHeldUpto_row_tie : Rows.tapeHeldUptoRow.laidByTextAt .later Tryz.pinned [.data, .data, .data, .data, .funcs] true :=
  OpenClaim.laidByTextAt_later rfl rfl tie3 noOwnUnsafe
theorem topMarkedUpto_row_tie : Rows.topMarkedUptoRow.laidByTextAt .later Tryz.pinned [.data, .data, .data, .data, .data, .funcs, .sentinel, .sentinel] true :=
  OpenClaim.laidByTextAt_later rfl rfl tie noOwnUnsafe
end Go.Proofs.YtpgalhbplcanhaaGreatDoor
