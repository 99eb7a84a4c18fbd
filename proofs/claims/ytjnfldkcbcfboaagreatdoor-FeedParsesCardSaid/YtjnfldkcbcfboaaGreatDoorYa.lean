/-
  (joins texts)
-/
import Derived.Test.YtjnfldkcbcfboaaGreatDoorM9
