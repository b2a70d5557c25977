-- Of the words that the kit's printer wrote for this seat those alone that its texts use.
import Derived.Test.YtceclodenhgoeaaGreatWApart
import Derived.Test.YtceclodenhgoeaaGreatWArr
/-! ### 43. What is read beside a state: it stays read whatever the state's calls turn ('∀ W', KeepBut w W' g none → d.C W' A n xs') -/
namespace Go.Proofs.YtceclodenhgoeaaGreatW.PrintWords
open Go.RowKit
namespace Kd
section
variable {α : Type} {d : Kd α} {e base g n c : Nat} {ok : Nat → Prop} {w w0 W : World} {A : Option Addr} {xs : List α}
end
end Kd
end Go.Proofs.YtceclodenhgoeaaGreatW.PrintWords
