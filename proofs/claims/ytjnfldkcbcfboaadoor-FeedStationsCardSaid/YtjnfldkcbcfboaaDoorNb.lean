/-
  (joins texts)
-/
import Derived.Test.YtjnfldkcbcfboaaDoorFa
import Derived.Test.YtjnfldkcbcfboaaDoorFb
