/-
  (joins texts)
-/
import Derived.Test.YtjnfldkcbcfboaaGreatDoorM1
