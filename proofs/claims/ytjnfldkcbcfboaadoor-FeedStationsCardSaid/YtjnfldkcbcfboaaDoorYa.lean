/-
  (joins texts)
-/
import Derived.Test.YtjnfldkcbcfboaaDoorM9
