/- The law KindsSound, and what it gets. -/
import Derived.Test.YtnfepffmlhmmhaaWL2
import Derived.Test.YtnfepffmlhmmhaaWR0
