/-
  DERIVED. GIVEN WITH THE SEED: THE PROGRAM's TIES (one call each: nine closed facts by the kernel) AND EACH ROW's TIE, after the 31st guide's Derived/Test/Toyas{Tie, Card}.lean. No idea stands in it: it is a product of the set-up. Laid BY PROGRAM, IN A SANDBOX (cutbox-door.mjs). By AI agents, Wed Nov 11 2026. No macro, syntax, notation, axiom, sorry.
-/
import Derived.Test.YtpmbfibjldnaiaaGreatDoorRows
import Derived.LaidByTextLater
import Derived.SevenTiedAt
import Derived.LaidSub
import Derived.LaidOnce
namespace Go.Proofs.YtpmbfibjldnaiaaGreatDoor
open Go
set_option maxRecDepth 100000
theorem seatTie1 : Tryz.prog.laidByTextLater [("unicode/utf8.acceptRanges", Rows.laid_unicode_utf8_acceptRanges), ("coffer/rijndael.rcon", Rows.laid_coffer_rijndael_rcon), ("coffer/digest.cubes", Rows.laid_coffer_digest_cubes), ("coffer/digest.squares", Rows.laid_coffer_digest_squares), ("coffer/tweak.sizes", Rows.laid_coffer_tweak_sizes), ("coffer/ledger.units", Rows.laid_coffer_ledger_units)] [.data, .data, .data, .data, .data, .widerDeep] true :=
  Program.laidByTextLater_by_one 69 8 81 (by kernel_rfl) (by kernel_rfl) (by kernel_rfl) (by kernel_rfl) (by kernel_rfl) (by kernel_rfl) (fun _ _ => by kernel_rfl)
theorem seatTie2 : Tryz.prog.laidByTextLater [("unicode/utf8.acceptRanges", Rows.laid_unicode_utf8_acceptRanges), ("coffer/cofferref03.modes", Rows.laid_coffer_cofferref03_modes), ("coffer/rijndael.rcon", Rows.laid_coffer_rijndael_rcon), ("coffer/digest.cubes", Rows.laid_coffer_digest_cubes), ("coffer/digest.squares", Rows.laid_coffer_digest_squares), ("coffer/tweak.sizes", Rows.laid_coffer_tweak_sizes), ("coffer/ledger.units", Rows.laid_coffer_ledger_units)] [.data, .data, .data, .data, .data, .data, .widerDeep] true :=
  Program.laidByTextLater_by_one 69 8 81 (by kernel_rfl) (by kernel_rfl) (by kernel_rfl) (by kernel_rfl) (by kernel_rfl) (by kernel_rfl) (fun _ _ => by kernel_rfl)
theorem pin_laid_unicode_utf8_first : Tryz.pinned.checked.prog.pinnedFits "unicode/utf8.first" = true := by kernel_rfl
theorem noOwnUnsafe : Tryz.pinned.checked.prog.headLifts.contains "ownunsafe" = false := by kernel_rfl
theorem fits1 : Tryz.pinned.checked.prog.listedFits [("unicode/utf8.acceptRanges", Rows.laid_unicode_utf8_acceptRanges), ("coffer/rijndael.rcon", Rows.laid_coffer_rijndael_rcon), ("coffer/digest.cubes", Rows.laid_coffer_digest_cubes), ("coffer/digest.squares", Rows.laid_coffer_digest_squares), ("coffer/tweak.sizes", Rows.laid_coffer_tweak_sizes), ("coffer/ledger.units", Rows.laid_coffer_ledger_units), ("unicode/utf8.first", Rows.laid_unicode_utf8_first)] = true := by
  unfold Program.listedFits
  rw [noOwnUnsafe]
  kernel_rfl
theorem tie : Tryz.prog.laidByTextLater [("unicode/utf8.acceptRanges", Rows.laid_unicode_utf8_acceptRanges), ("coffer/rijndael.rcon", Rows.laid_coffer_rijndael_rcon), ("coffer/digest.cubes", Rows.laid_coffer_digest_cubes), ("coffer/digest.squares", Rows.laid_coffer_digest_squares), ("coffer/tweak.sizes", Rows.laid_coffer_tweak_sizes), ("coffer/ledger.units", Rows.laid_coffer_ledger_units)] [.data, .data, .data, .data, .data, .widerDeep] true :=
  Program.laidByTextLater.sub seatTie1 ["unicode/utf8.acceptRanges", "coffer/rijndael.rcon", "coffer/digest.cubes", "coffer/digest.squares", "coffer/tweak.sizes", "coffer/ledger.units"] (by kernel_rfl) (by kernel_rfl)
theorem probeCovers_row_tie : Rows.probeCoversRow.laidByTextAt .later Tryz.pinned [.data, .data, .data, .data, .data, .widerDeep, .pinned] true :=
  OpenClaim.laidByTextAt_pinned rfl rfl tie rfl rfl rfl rfl (fun y hy _e => by
    simp only [Rows.probeCoversRow, List.zip_cons_cons, List.zip_nil_right, List.mem_cons, List.mem_nil_iff, or_false] at hy
    rcases hy with rfl | rfl | rfl | rfl | rfl | rfl | rfl
    · cases _e
    · cases _e
    · cases _e
    · cases _e
    · cases _e
    · cases _e
    · exact ⟨pin_laid_unicode_utf8_first, by kernel_rfl⟩) fits1
theorem fits2 : Tryz.pinned.checked.prog.listedFits [("unicode/utf8.acceptRanges", Rows.laid_unicode_utf8_acceptRanges), ("coffer/cofferref03.modes", Rows.laid_coffer_cofferref03_modes), ("coffer/rijndael.rcon", Rows.laid_coffer_rijndael_rcon), ("coffer/digest.cubes", Rows.laid_coffer_digest_cubes), ("coffer/digest.squares", Rows.laid_coffer_digest_squares), ("coffer/tweak.sizes", Rows.laid_coffer_tweak_sizes), ("coffer/ledger.units", Rows.laid_coffer_ledger_units), ("unicode/utf8.first", Rows.laid_unicode_utf8_first)] = true := by
  unfold Program.listedFits
  rw [noOwnUnsafe]
  kernel_rfl
theorem tie2 : Tryz.prog.laidByTextLater [("unicode/utf8.acceptRanges", Rows.laid_unicode_utf8_acceptRanges), ("coffer/cofferref03.modes", Rows.laid_coffer_cofferref03_modes), ("coffer/rijndael.rcon", Rows.laid_coffer_rijndael_rcon), ("coffer/digest.cubes", Rows.laid_coffer_digest_cubes), ("coffer/digest.squares", Rows.laid_coffer_digest_squares), ("coffer/tweak.sizes", Rows.laid_coffer_tweak_sizes), ("coffer/ledger.units", Rows.laid_coffer_ledger_units)] [.data, .data, .data, .data, .data, .data, .widerDeep] true :=
  Program.laidByTextLater.sub seatTie2 ["unicode/utf8.acceptRanges", "coffer/cofferref03.modes", "coffer/rijndael.rcon", "coffer/digest.cubes", "coffer/digest.squares", "coffer/tweak.sizes", "coffer/ledger.units"] (by kernel_rfl) (by kernel_rfl)
theorem probeSpots_row_tie : Rows.probeSpotsRow.laidByTextAt .later Tryz.pinned [.data, .data, .data, .data, .data, .data, .widerDeep, .pinned] true :=
  OpenClaim.laidByTextAt_pinned rfl rfl tie2 rfl rfl rfl rfl (fun y hy _e => by
    simp only [Rows.probeSpotsRow, List.zip_cons_cons, List.zip_nil_right, List.mem_cons, List.mem_nil_iff, or_false] at hy
    rcases hy with rfl | rfl | rfl | rfl | rfl | rfl | rfl | rfl
    · cases _e
    · cases _e
    · cases _e
    · cases _e
    · cases _e
    · cases _e
    · cases _e
    · exact ⟨pin_laid_unicode_utf8_first, by kernel_rfl⟩) fits2
theorem probeCoversUpto_row_tie : Rows.probeCoversUptoRow.laidByTextAt .later Tryz.pinned [.data, .data, .data, .data, .data, .widerDeep, .pinned] true :=
  OpenClaim.laidByTextAt_pinned rfl rfl tie rfl rfl rfl rfl (fun y hy _e => by
    simp only [Rows.probeCoversUptoRow, List.zip_cons_cons, List.zip_nil_right, List.mem_cons, List.mem_nil_iff, or_false] at hy
    rcases hy with rfl | rfl | rfl | rfl | rfl | rfl | rfl
    · cases _e
    · cases _e
    · cases _e
    · cases _e
    · cases _e
    · cases _e
    · exact ⟨pin_laid_unicode_utf8_first, by kernel_rfl⟩) fits1
theorem probeSpotsUpto_row_tie : Rows.probeSpotsUptoRow.laidByTextAt .later Tryz.pinned [.data, .data, .data, .data, .data, .data, .widerDeep, .pinned] true :=
  OpenClaim.laidByTextAt_pinned rfl rfl tie2 rfl rfl rfl rfl (fun y hy _e => by
    simp only [Rows.probeSpotsUptoRow, List.zip_cons_cons, List.zip_nil_right, List.mem_cons, List.mem_nil_iff, or_false] at hy
    rcases hy with rfl | rfl | rfl | rfl | rfl | rfl | rfl | rfl
    · cases _e
    · cases _e
    · cases _e
    · cases _e
    · cases _e
    · cases _e
    · cases _e
    · exact ⟨pin_laid_unicode_utf8_first, by kernel_rfl⟩) fits2
end Go.Proofs.YtpmbfibjldnaiaaGreatDoor
