/-
  (joins texts)
-/
import Derived.Test.YtjnfldkcbcfboaaDoorM1
