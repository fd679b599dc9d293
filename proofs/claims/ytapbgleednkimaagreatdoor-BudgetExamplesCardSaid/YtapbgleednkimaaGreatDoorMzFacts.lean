/- Facts of the whole program, asked of the kernel once for all rows. -/
import Derived.Test.YtapbgleednkimaaGreatDoorRows
import Derived.KernelRfl
import Derived.JoinedOf
set_option maxRecDepth 100000
namespace Go.Proofs.YtapbgleednkimaaGreatDoor.Facts
open Go

/-- 'if c then k else false', forced. -/
noncomputable def kif (c : Bool) (k : Bool) : Bool := Bool.rec false k c
theorem kif_ok {c k : Bool} (h : kif c k = true) : c = true ∧ k = true := by
  cases c with
  | false => cases h
  | true => exact ⟨rfl, h⟩

theorem laid : laidOutB Tryz.prog = true := by kernel_rfl
theorem mapsR : mapsRowed Tryz.prog = true := by kernel_rfl
theorem plainK : Tryz.prog.plainKeys = true := by kernel_rfl
theorem heard : Tryz.prog.stopsHeard = true := by kernel_rfl
theorem stops : (Tryz.prog.stops == []) = true := by kernel_rfl
theorem stopKnobs : (Tryz.prog.stopKnobs == []) = true := by kernel_rfl
theorem own : ownKnob Tryz.prog.godebug = none := by kernel_rfl

/-- The signs of the dump's head. -/
def signs : List Char := [Char.ofNat 104, Char.ofNat 97, Char.ofNat 114, Char.ofNat 110, Char.ofNat 101, Char.ofNat 115, Char.ofNat 115, Char.ofNat 32, Char.ofNat 48, Char.ofNat 49, Char.ofNat 51, Char.ofNat 55, Char.ofNat 98, Char.ofNat 54, Char.ofNat 50, Char.ofNat 56, Char.ofNat 97, Char.ofNat 97, Char.ofNat 56, Char.ofNat 54, Char.ofNat 100, Char.ofNat 54, Char.ofNat 49, Char.ofNat 50, Char.ofNat 97, Char.ofNat 51, Char.ofNat 53, Char.ofNat 56, Char.ofNat 99, Char.ofNat 102, Char.ofNat 101, Char.ofNat 53, Char.ofNat 102, Char.ofNat 102, Char.ofNat 51, Char.ofNat 55, Char.ofNat 102, Char.ofNat 48, Char.ofNat 98, Char.ofNat 50, Char.ofNat 55, Char.ofNat 49, Char.ofNat 49, Char.ofNat 54, Char.ofNat 56, Char.ofNat 57, Char.ofNat 53, Char.ofNat 99, Char.ofNat 54, Char.ofNat 98, Char.ofNat 53, Char.ofNat 52, Char.ofNat 48, Char.ofNat 50, Char.ofNat 48, Char.ofNat 99, Char.ofNat 51, Char.ofNat 101, Char.ofNat 51, Char.ofNat 98, Char.ofNat 57, Char.ofNat 98, Char.ofNat 97, Char.ofNat 56, Char.ofNat 48, Char.ofNat 102, Char.ofNat 52, Char.ofNat 98, Char.ofNat 99, Char.ofNat 50, Char.ofNat 98, Char.ofNat 49, Char.ofNat 32, Char.ofNat 99, Char.ofNat 117, Char.ofNat 116, Char.ofNat 32, Char.ofNat 97, Char.ofNat 116, Char.ofNat 32, Char.ofNat 115, Char.ofNat 101, Char.ofNat 110, Char.ofNat 116, Char.ofNat 105, Char.ofNat 110, Char.ofNat 101, Char.ofNat 108, Char.ofNat 47, Char.ofNat 115, Char.ofNat 101, Char.ofNat 110, Char.ofNat 116, Char.ofNat 105, Char.ofNat 110, Char.ofNat 101, Char.ofNat 108, Char.ofNat 108, Char.ofNat 97, Char.ofNat 119, Char.ofNat 52, Char.ofNat 50, Char.ofNat 46, Char.ofNat 66, Char.ofNat 117, Char.ofNat 100, Char.ofNat 103, Char.ofNat 101, Char.ofNat 116, Char.ofNat 77, Char.ofNat 97, Char.ofNat 116, Char.ofNat 99, Char.ofNat 104, Char.ofNat 101, Char.ofNat 115, Char.ofNat 32, Char.ofNat 115, Char.ofNat 101, Char.ofNat 110, Char.ofNat 116, Char.ofNat 105, Char.ofNat 110, Char.ofNat 101, Char.ofNat 108, Char.ofNat 47, Char.ofNat 115, Char.ofNat 101, Char.ofNat 110, Char.ofNat 116, Char.ofNat 105, Char.ofNat 110, Char.ofNat 101, Char.ofNat 108, Char.ofNat 108, Char.ofNat 97, Char.ofNat 119, Char.ofNat 52, Char.ofNat 50, Char.ofNat 46, Char.ofNat 66, Char.ofNat 117, Char.ofNat 100, Char.ofNat 103, Char.ofNat 101, Char.ofNat 116, Char.ofNat 76, Char.ofNat 111, Char.ofNat 97, Char.ofNat 100, Char.ofNat 115, Char.ofNat 32, Char.ofNat 115, Char.ofNat 101, Char.ofNat 110, Char.ofNat 116, Char.ofNat 105, Char.ofNat 110, Char.ofNat 101, Char.ofNat 108, Char.ofNat 47, Char.ofNat 115, Char.ofNat 101, Char.ofNat 110, Char.ofNat 116, Char.ofNat 105, Char.ofNat 110, Char.ofNat 101, Char.ofNat 108, Char.ofNat 108, Char.ofNat 97, Char.ofNat 119, Char.ofNat 52, Char.ofNat 50, Char.ofNat 46, Char.ofNat 66, Char.ofNat 117, Char.ofNat 100, Char.ofNat 103, Char.ofNat 101, Char.ofNat 116, Char.ofNat 69, Char.ofNat 120, Char.ofNat 97, Char.ofNat 109, Char.ofNat 112, Char.ofNat 108, Char.ofNat 101, Char.ofNat 115, Char.ofNat 32, Char.ofNat 115, Char.ofNat 101, Char.ofNat 110, Char.ofNat 116, Char.ofNat 105, Char.ofNat 110, Char.ofNat 101, Char.ofNat 108, Char.ofNat 47, Char.ofNat 115, Char.ofNat 101, Char.ofNat 110, Char.ofNat 116, Char.ofNat 105, Char.ofNat 110, Char.ofNat 101, Char.ofNat 108, Char.ofNat 108, Char.ofNat 97, Char.ofNat 119, Char.ofNat 52, Char.ofNat 50, Char.ofNat 46, Char.ofNat 66, Char.ofNat 117, Char.ofNat 100, Char.ofNat 103, Char.ofNat 101, Char.ofNat 116, Char.ofNat 68, Char.ofNat 105, Char.ofNat 118, Char.ofNat 105, Char.ofNat 100, Char.ofNat 101, Char.ofNat 100, Char.ofNat 32, Char.ofNat 115, Char.ofNat 101, Char.ofNat 110, Char.ofNat 116, Char.ofNat 105, Char.ofNat 110, Char.ofNat 101, Char.ofNat 108, Char.ofNat 47, Char.ofNat 115, Char.ofNat 101, Char.ofNat 110, Char.ofNat 116, Char.ofNat 105, Char.ofNat 110, Char.ofNat 101, Char.ofNat 108, Char.ofNat 108, Char.ofNat 97, Char.ofNat 119, Char.ofNat 52, Char.ofNat 50, Char.ofNat 46, Char.ofNat 66, Char.ofNat 117, Char.ofNat 100, Char.ofNat 103, Char.ofNat 101, Char.ofNat 116, Char.ofNat 71, Char.ofNat 114, Char.ofNat 111, Char.ofNat 119, Char.ofNat 115, Char.ofNat 32, Char.ofNat 115, Char.ofNat 101, Char.ofNat 110, Char.ofNat 116, Char.ofNat 105, Char.ofNat 110, Char.ofNat 101, Char.ofNat 108, Char.ofNat 47, Char.ofNat 115, Char.ofNat 101, Char.ofNat 110, Char.ofNat 116, Char.ofNat 105, Char.ofNat 110, Char.ofNat 101, Char.ofNat 108, Char.ofNat 108, Char.ofNat 97, Char.ofNat 119, Char.ofNat 52, Char.ofNat 50, Char.ofNat 46, Char.ofNat 66, Char.ofNat 117, Char.ofNat 100, Char.ofNat 103, Char.ofNat 101, Char.ofNat 116, Char.ofNat 84, Char.ofNat 101, Char.ofNat 120, Char.ofNat 116, Char.ofNat 115, Char.ofNat 32, Char.ofNat 115, Char.ofNat 101, Char.ofNat 110, Char.ofNat 116, Char.ofNat 105, Char.ofNat 110, Char.ofNat 101, Char.ofNat 108, Char.ofNat 47, Char.ofNat 115, Char.ofNat 101, Char.ofNat 110, Char.ofNat 116, Char.ofNat 105, Char.ofNat 110, Char.ofNat 101, Char.ofNat 108, Char.ofNat 108, Char.ofNat 97, Char.ofNat 119, Char.ofNat 52, Char.ofNat 50, Char.ofNat 46, Char.ofNat 66, Char.ofNat 117, Char.ofNat 100, Char.ofNat 103, Char.ofNat 101, Char.ofNat 116, Char.ofNat 70, Char.ofNat 105, Char.ofNat 110, Char.ofNat 105, Char.ofNat 115, Char.ofNat 104, Char.ofNat 101, Char.ofNat 115]
theorem io : Tryz.prog.initOrder = String.ofList signs := by kernel_rfl
theorem tl : Tryz.prog.initOrder.toList = signs := by rw [io]; exact String.toList_ofList

theorem make_of (P : Program) (hl : P.initOrder.toList = signs) : P.make = some .cut := by
  delta Program.make Program.headLifts
  rw [hl]
  kernel_rfl
theorem lifts_of (P : Program) (hl : P.initOrder.toList = signs) : P.liftsFinal = false := by
  delta Program.liftsFinal Program.headLifts
  rw [hl]
  kernel_rfl
theorem may_of (P : Program) (hl : P.initOrder.toList = signs) (h1 : P.laysLater = false) (h2 : P.bearsReflect = false) (h3 : P.doorFits [] = true) : P.mayEnter = true := by
  have k1 : ((stripLifts liftWords (behindMainWord (wordsSigns signs))).2.head? == some "cut".toList) = true := (kif_ok (by kernel_rfl : kif _ true = true)).1
  have k2 : (stripLifts liftWords (behindMainWord (wordsSigns signs))).1 = [] := by kernel_rfl
  delta Program.mayEnter
  rw [hl]
  cases hw : behindMainWord (wordsSigns signs) with
  | nil => rw [hw] at k1; exact absurd k1 (by decide +kernel)
  | cons c r =>
    rw [hw] at k1 k2
    simp only [k1, k2, h1, h2, h3]
    simp
theorem lays : Tryz.prog.laysLater = false := by kernel_rfl
theorem bears : Tryz.prog.bearsReflect = false := by kernel_rfl
theorem door : Tryz.prog.doorFits [] = true := by kernel_rfl
theorem may : Tryz.prog.mayEnter = true := may_of _ tl lays bears door
theorem lifts : Tryz.prog.liftsFinal = false := lifts_of _ tl
theorem make : Tryz.prog.make = some .cut := make_of _ tl
end Go.Proofs.YtapbgleednkimaaGreatDoor.Facts
