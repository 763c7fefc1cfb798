/- The plain law of layer 3's reading: the frame that bytes begin with, and the frames that they begin with; no program in sight. -/
import Derived.Test.YtklpoeaoojgljaaQV03
