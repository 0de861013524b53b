/- More facts. -/
import Derived.Test.YtajpakifkinadaaGreatDoorFacts
namespace Go.Proofs.YtajpakifkinadaaGreatDoor
open Go.Sy

end Go.Proofs.YtajpakifkinadaaGreatDoor
