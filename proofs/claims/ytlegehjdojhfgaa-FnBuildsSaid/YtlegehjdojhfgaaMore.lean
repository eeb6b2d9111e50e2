/- A few more small laws that the walks of this seat share. No statement of the program is proved here. -/
import Derived.Test.YtlegehjdojhfgaaLib
namespace Go.Proofs.Ytlegehjdojhfgaa
open Go.RowKit
theorem calls_is {P : Program} {f : FuncId} {args : Array Value} {w : World} {x b : Bool} (h : Calls P f args w fun e w' => e = .returned (.bool x) ∧ w = w') (hb : x = b) :
    Calls P f args w fun e w' => e = .returned (.bool b) ∧ w = w' := hb ▸ h
end Go.Proofs.Ytlegehjdojhfgaa
