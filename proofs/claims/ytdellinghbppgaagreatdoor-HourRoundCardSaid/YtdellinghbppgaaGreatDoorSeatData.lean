/-
  THE DATA OF THIS SEAT'S LAYERS. Imports.
-/
import Derived.Test.YtdellinghbppgaaGreatDoorHrData

