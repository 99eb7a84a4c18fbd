/-
  (joins texts)
-/
import Derived.Test.YtjnfldkcbcfboaaGreatDoorFa
import Derived.Test.YtjnfldkcbcfboaaGreatDoorFb
