/-
  (joins texts)
-/
import Derived.Test.YtjnfldkcbcfboaaGreatDoorFh
