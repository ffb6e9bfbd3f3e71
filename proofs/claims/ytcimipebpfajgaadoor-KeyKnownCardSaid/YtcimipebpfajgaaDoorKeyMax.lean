/-
  The world's shape tells what the variable of the greatest length reads as: some number.
-/
import Derived.Test.YtcimipebpfajgaaDoorKeyPut
