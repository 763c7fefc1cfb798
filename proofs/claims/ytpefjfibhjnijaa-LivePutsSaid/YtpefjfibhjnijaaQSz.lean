/- A second name for a word of the print, under which its rows look it up. -/
import Derived.Test.YtpefjfibhjnijaaZ0
