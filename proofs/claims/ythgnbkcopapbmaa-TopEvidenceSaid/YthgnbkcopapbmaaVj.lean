/-
  A stub.
-/
import Derived.Test.YthgnbkcopapbmaaEj
