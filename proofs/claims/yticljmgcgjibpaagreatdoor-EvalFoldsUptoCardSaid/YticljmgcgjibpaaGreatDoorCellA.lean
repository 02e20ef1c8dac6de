/-
  A stand-in for the seat of chapter 17: only the words on values. Conditions: none.
-/
import Derived.Test.YticljmgcgjibpaaGreatDoorBase
import Derived.Test.YticljmgcgjibpaaGreatDoorCellMath
