/- More facts. -/
import Derived.Test.YtcojkkndmholaaaGreatDoorFacts
namespace Go.Proofs.YtcojkkndmholaaaGreatDoor
open Go.Sy

end Go.Proofs.YtcojkkndmholaaaGreatDoor
