/-
  No rides here.
-/
import Derived.Test.YtjlhnlfalomenaaDoorSh
