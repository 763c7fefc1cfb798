/- The plain law of layers 1 and 3: a sum of bytes, how many bytes a number has, a frame's bytes; no program in sight. -/
import Derived.Test.YtklpoeaoojgljaaQV04
