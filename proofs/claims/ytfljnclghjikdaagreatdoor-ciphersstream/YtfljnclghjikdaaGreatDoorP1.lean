/- A part of a proof: the walk. -/
import Derived.Test.YtfljnclghjikdaaGreatDoorC5
import Derived.Test.YtfljnclghjikdaaGreatDoorR4
set_option maxRecDepth 1000000
namespace Go.Sl
theorem rTab_sTab : sTab = rTab := by decide +kernel
end Go.Sl
