/- The plain law of layer 4: which points there may be, their bytes, and which point bytes begin with; no program in sight. -/
import Derived.Test.YtejndebplkaadaaQV02
