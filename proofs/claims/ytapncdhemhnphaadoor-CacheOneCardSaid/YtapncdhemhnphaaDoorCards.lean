/-
  DERIVED. GIVEN WITH THE SEED: THE CARDS: each row of YtapncdhemhnphaaDoorRows.lean that lists a variable, with what it lists TIED to the program's text (the seventh form; the later family's looks); each row that meets fmt, with fmt's text TOLD by the authors' own Lean function (tested against real Go, not proved from fmt's source: count such statements apart). THE CARD IS WHAT COUNTS. Prove the row's statement (the work); the ties are given (YtapncdhemhnphaaDoorTie.lean); close each card by the builder's one call (the guide's Derived/Test/ToyasCard.lean, 'card_holds'). Laid BY PROGRAM, IN A SANDBOX (cutbox-door.mjs). By AI agents, Wed Nov 11 2026. No macro, syntax, notation, axiom, sorry.
-/
import Derived.Test.YtapncdhemhnphaaDoorRows
import GoSem.ClaimSeven
namespace Go.Proofs.YtapncdhemhnphaaDoor
namespace Rows

/-- THE TIED CARD OF 'taskmasterlaw23.ReadyAny'. -/
def readyAnyCard : Claim7 := { stood := { row := readyAnyRow, standIns := [], harness := (true, "15ce718f2131a00e1bd6b4f802400b1a0a789063698897bc9879a8a2586efea7"), looks := false }, kinds := [], alts := [], laidByText := true, laidKinds := [.data], laidTests := true, laidLooks := .later }
def ReadyAnyCardSaid : Prop := Claim7.holds Tryd.pinned (.plain (OpenSpec.ofChange readyAnySpec)) readyAnyCard

/-- THE TIED CARD OF 'taskmasterlaw23.ReadyPlays'. -/
def readyPlaysCard : Claim7 := { stood := { row := readyPlaysRow, standIns := [], harness := (true, "15ce718f2131a00e1bd6b4f802400b1a0a789063698897bc9879a8a2586efea7"), looks := false }, kinds := [], alts := [], laidByText := true, laidKinds := [.data], laidTests := true, laidLooks := .later }
def ReadyPlaysCardSaid : Prop := Claim7.holds Tryd.pinned (.plain (OpenSpec.ofChange readyPlaysSpec)) readyPlaysCard

/-- THE TIED CARD OF 'taskmasterlaw23.ReadyOrder'. -/
def readyOrderCard : Claim7 := { stood := { row := readyOrderRow, standIns := [], harness := (true, "15ce718f2131a00e1bd6b4f802400b1a0a789063698897bc9879a8a2586efea7"), looks := false }, kinds := [], alts := [], laidByText := true, laidKinds := [.data], laidTests := true, laidLooks := .later }
def ReadyOrderCardSaid : Prop := Claim7.holds Tryd.pinned (.plain (OpenSpec.ofChange readyOrderSpec)) readyOrderCard

/-- THE TIED CARD OF 'taskmasterlaw18.CachePlays'. -/
def cachePlaysCard : Claim7 := { stood := { row := cachePlaysRow, standIns := [], harness := (true, "15ce718f2131a00e1bd6b4f802400b1a0a789063698897bc9879a8a2586efea7"), looks := false }, kinds := [], alts := [], laidByText := true, laidKinds := [.data], laidTests := true, laidLooks := .later }
def CachePlaysCardSaid : Prop := Claim7.holds Tryd.pinned (.plain (OpenSpec.ofChange cachePlaysSpec)) cachePlaysCard

/-- THE TIED CARD OF 'taskmasterlaw18.CacheOne'. -/
def cacheOneCard : Claim7 := { stood := { row := cacheOneRow, standIns := [], harness := (true, "15ce718f2131a00e1bd6b4f802400b1a0a789063698897bc9879a8a2586efea7"), looks := false }, kinds := [], alts := [], laidByText := true, laidKinds := [.data], laidTests := true, laidLooks := .later }
def CacheOneCardSaid : Prop := Claim7.holds Tryd.pinned (.plain (OpenSpec.ofChange cacheOneSpec)) cacheOneCard

/-- THE TIED CARD OF 'taskmasterlaw18.CacheBack'. -/
def cacheBackCard : Claim7 := { stood := { row := cacheBackRow, standIns := [], harness := (true, "15ce718f2131a00e1bd6b4f802400b1a0a789063698897bc9879a8a2586efea7"), looks := false }, kinds := [], alts := [], laidByText := true, laidKinds := [.data], laidTests := true, laidLooks := .later }
def CacheBackCardSaid : Prop := Claim7.holds Tryd.pinned (.plain (OpenSpec.ofChange cacheBackSpec)) cacheBackCard

/-- THE SECOND FORM's CARD OF 'taskmasterlaw23.ReadyAny'. -/
def readyAnyUptoCard : Claim7 := { stood := { row := readyAnyUptoRow, standIns := [], harness := (true, "15ce718f2131a00e1bd6b4f802400b1a0a789063698897bc9879a8a2586efea7"), looks := false }, kinds := [], alts := [], laidByText := true, laidKinds := [.data], laidTests := true, laidLooks := .later }
def ReadyAnyUptoCardSaid : Prop := Claim7.holds Tryd.pinned (.plain (OpenSpec.upto readyAnySpec)) readyAnyUptoCard

/-- THE SECOND FORM's CARD OF 'taskmasterlaw23.ReadyPlays'. -/
def readyPlaysUptoCard : Claim7 := { stood := { row := readyPlaysUptoRow, standIns := [], harness := (true, "15ce718f2131a00e1bd6b4f802400b1a0a789063698897bc9879a8a2586efea7"), looks := false }, kinds := [], alts := [], laidByText := true, laidKinds := [.data], laidTests := true, laidLooks := .later }
def ReadyPlaysUptoCardSaid : Prop := Claim7.holds Tryd.pinned (.plain (OpenSpec.upto readyPlaysSpec)) readyPlaysUptoCard

/-- THE SECOND FORM's CARD OF 'taskmasterlaw23.ReadyOrder'. -/
def readyOrderUptoCard : Claim7 := { stood := { row := readyOrderUptoRow, standIns := [], harness := (true, "15ce718f2131a00e1bd6b4f802400b1a0a789063698897bc9879a8a2586efea7"), looks := false }, kinds := [], alts := [], laidByText := true, laidKinds := [.data], laidTests := true, laidLooks := .later }
def ReadyOrderUptoCardSaid : Prop := Claim7.holds Tryd.pinned (.plain (OpenSpec.upto readyOrderSpec)) readyOrderUptoCard

/-- THE SECOND FORM's CARD OF 'taskmasterlaw18.CachePlays'. -/
def cachePlaysUptoCard : Claim7 := { stood := { row := cachePlaysUptoRow, standIns := [], harness := (true, "15ce718f2131a00e1bd6b4f802400b1a0a789063698897bc9879a8a2586efea7"), looks := false }, kinds := [], alts := [], laidByText := true, laidKinds := [.data], laidTests := true, laidLooks := .later }
def CachePlaysUptoCardSaid : Prop := Claim7.holds Tryd.pinned (.plain (OpenSpec.upto cachePlaysSpec)) cachePlaysUptoCard

/-- THE SECOND FORM's CARD OF 'taskmasterlaw18.CacheOne'. -/
def cacheOneUptoCard : Claim7 := { stood := { row := cacheOneUptoRow, standIns := [], harness := (true, "15ce718f2131a00e1bd6b4f802400b1a0a789063698897bc9879a8a2586efea7"), looks := false }, kinds := [], alts := [], laidByText := true, laidKinds := [.data], laidTests := true, laidLooks := .later }
def CacheOneUptoCardSaid : Prop := Claim7.holds Tryd.pinned (.plain (OpenSpec.upto cacheOneSpec)) cacheOneUptoCard

/-- THE SECOND FORM's CARD OF 'taskmasterlaw18.CacheBack'. -/
def cacheBackUptoCard : Claim7 := { stood := { row := cacheBackUptoRow, standIns := [], harness := (true, "15ce718f2131a00e1bd6b4f802400b1a0a789063698897bc9879a8a2586efea7"), looks := false }, kinds := [], alts := [], laidByText := true, laidKinds := [.data], laidTests := true, laidLooks := .later }
def CacheBackUptoCardSaid : Prop := Claim7.holds Tryd.pinned (.plain (OpenSpec.upto cacheBackSpec)) cacheBackUptoCard
end Rows
end Go.Proofs.YtapncdhemhnphaaDoor
