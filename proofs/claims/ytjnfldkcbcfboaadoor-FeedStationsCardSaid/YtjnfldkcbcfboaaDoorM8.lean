/-
  (joins texts)
-/
import Derived.Test.YtjnfldkcbcfboaaDoorM6
