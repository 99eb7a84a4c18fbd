/-
  (joins texts)
-/
import Derived.Test.YtjnfldkcbcfboaaGreatDoorM6
