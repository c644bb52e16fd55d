/-
  DERIVED. GIVEN WITH THE SEED: THE CARDS: each row of YtgmojjdojcmnaaaDoorRows.lean that lists a variable, with what it lists TIED to the program's text (the seventh form; the later family's looks); each row that meets fmt, with fmt's text TOLD by the authors' own Lean function (tested against real Go, not proved from fmt's source: count such statements apart). THE CARD IS WHAT COUNTS. Prove the row's statement (the work); the ties are given (YtgmojjdojcmnaaaDoorTie.lean); close each card by the builder's one call (the guide's Derived/Test/ToyasCard.lean, 'card_holds'). Laid BY PROGRAM, IN A SANDBOX (cutbox-door.mjs). By AI agents, Wed Nov 11 2026. No macro, syntax, notation, axiom, sorry.
-/
import Derived.Test.YtgmojjdojcmnaaaDoorRows
import GoSem.ClaimSeven
namespace Go.Proofs.YtgmojjdojcmnaaaDoor
namespace Rows

/-- THE TIED CARD OF 'synchronylaw29.ImageGets'. -/
def imageGetsCard : Claim7 := { stood := { row := imageGetsRow, standIns := [], harness := (true, "24a796cba7734d9a30531f31f7fd43507035cc57b11c16ce8b40f3136b8906c4"), looks := false }, kinds := [], alts := [], laidByText := true, laidKinds := [.widerDeep], laidTests := true, laidLooks := .later }
def ImageGetsCardSaid : Prop := Claim7.holds Tryd.pinned (.plain (OpenSpec.ofChange imageGetsSpec)) imageGetsCard

/-- THE TIED CARD OF 'synchronylaw29.ImageSums'. -/
def imageSumsCard : Claim7 := { stood := { row := imageSumsRow, standIns := [], harness := (true, "24a796cba7734d9a30531f31f7fd43507035cc57b11c16ce8b40f3136b8906c4"), looks := false }, kinds := [], alts := [], laidByText := true, laidKinds := [.widerDeep], laidTests := true, laidLooks := .later }
def ImageSumsCardSaid : Prop := Claim7.holds Tryd.pinned (.plain (OpenSpec.ofChange imageSumsSpec)) imageSumsCard

/-- THE TIED CARD OF 'synchronylaw29.ImageFlips'. -/
def imageFlipsCard : Claim7 := { stood := { row := imageFlipsRow, standIns := [], harness := (true, "24a796cba7734d9a30531f31f7fd43507035cc57b11c16ce8b40f3136b8906c4"), looks := false }, kinds := [], alts := [], laidByText := true, laidKinds := [.widerDeep], laidTests := true, laidLooks := .later }
def ImageFlipsCardSaid : Prop := Claim7.holds Tryd.pinned (.plain (OpenSpec.ofChange imageFlipsSpec)) imageFlipsCard

/-- THE TIED CARD OF 'synchronylaw29.ImageEnds'. -/
def imageEndsCard : Claim7 := { stood := { row := imageEndsRow, standIns := [], harness := (true, "24a796cba7734d9a30531f31f7fd43507035cc57b11c16ce8b40f3136b8906c4"), looks := false }, kinds := [], alts := [], laidByText := true, laidKinds := [.widerDeep], laidTests := true, laidLooks := .later }
def ImageEndsCardSaid : Prop := Claim7.holds Tryd.pinned (.plain (OpenSpec.ofChange imageEndsSpec)) imageEndsCard

/-- THE TIED CARD OF 'synchronylaw29.ImagePuts'. -/
def imagePutsCard : Claim7 := { stood := { row := imagePutsRow, standIns := [], harness := (true, "24a796cba7734d9a30531f31f7fd43507035cc57b11c16ce8b40f3136b8906c4"), looks := false }, kinds := [], alts := [], laidByText := true, laidKinds := [.widerDeep], laidTests := true, laidLooks := .later }
def ImagePutsCardSaid : Prop := Claim7.holds Tryd.pinned (.plain (OpenSpec.ofChange imagePutsSpec)) imagePutsCard

/-- THE SECOND FORM's CARD OF 'synchronylaw29.ImageGets'. -/
def imageGetsUptoCard : Claim7 := { stood := { row := imageGetsUptoRow, standIns := [], harness := (true, "24a796cba7734d9a30531f31f7fd43507035cc57b11c16ce8b40f3136b8906c4"), looks := false }, kinds := [], alts := [], laidByText := true, laidKinds := [.widerDeep], laidTests := true, laidLooks := .later }
def ImageGetsUptoCardSaid : Prop := Claim7.holds Tryd.pinned (.plain (OpenSpec.upto imageGetsSpec)) imageGetsUptoCard

/-- THE SECOND FORM's CARD OF 'synchronylaw29.ImageSums'. -/
def imageSumsUptoCard : Claim7 := { stood := { row := imageSumsUptoRow, standIns := [], harness := (true, "24a796cba7734d9a30531f31f7fd43507035cc57b11c16ce8b40f3136b8906c4"), looks := false }, kinds := [], alts := [], laidByText := true, laidKinds := [.widerDeep], laidTests := true, laidLooks := .later }
def ImageSumsUptoCardSaid : Prop := Claim7.holds Tryd.pinned (.plain (OpenSpec.upto imageSumsSpec)) imageSumsUptoCard

/-- THE SECOND FORM's CARD OF 'synchronylaw29.ImageFlips'. -/
def imageFlipsUptoCard : Claim7 := { stood := { row := imageFlipsUptoRow, standIns := [], harness := (true, "24a796cba7734d9a30531f31f7fd43507035cc57b11c16ce8b40f3136b8906c4"), looks := false }, kinds := [], alts := [], laidByText := true, laidKinds := [.widerDeep], laidTests := true, laidLooks := .later }
def ImageFlipsUptoCardSaid : Prop := Claim7.holds Tryd.pinned (.plain (OpenSpec.upto imageFlipsSpec)) imageFlipsUptoCard

/-- THE SECOND FORM's CARD OF 'synchronylaw29.ImageEnds'. -/
def imageEndsUptoCard : Claim7 := { stood := { row := imageEndsUptoRow, standIns := [], harness := (true, "24a796cba7734d9a30531f31f7fd43507035cc57b11c16ce8b40f3136b8906c4"), looks := false }, kinds := [], alts := [], laidByText := true, laidKinds := [.widerDeep], laidTests := true, laidLooks := .later }
def ImageEndsUptoCardSaid : Prop := Claim7.holds Tryd.pinned (.plain (OpenSpec.upto imageEndsSpec)) imageEndsUptoCard

/-- THE SECOND FORM's CARD OF 'synchronylaw29.ImagePuts'. -/
def imagePutsUptoCard : Claim7 := { stood := { row := imagePutsUptoRow, standIns := [], harness := (true, "24a796cba7734d9a30531f31f7fd43507035cc57b11c16ce8b40f3136b8906c4"), looks := false }, kinds := [], alts := [], laidByText := true, laidKinds := [.widerDeep], laidTests := true, laidLooks := .later }
def ImagePutsUptoCardSaid : Prop := Claim7.holds Tryd.pinned (.plain (OpenSpec.upto imagePutsSpec)) imagePutsUptoCard
end Rows
end Go.Proofs.YtgmojjdojcmnaaaDoor
