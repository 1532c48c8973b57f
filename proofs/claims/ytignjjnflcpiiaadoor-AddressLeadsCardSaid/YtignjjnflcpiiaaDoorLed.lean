/-
  binderykeep.led, the fact of the document's example, is true. Condition: the library's variable MaxLen holds a number.
-/
import Derived.Test.YtignjjnflcpiiaaDoorResolve
import Derived.Test.YtignjjnflcpiiaaDoorAddrRead
import Derived.Test.YtignjjnflcpiiaaDoorAddrWrite
namespace Go.Proofs.YtignjjnflcpiiaaDoor
open Go Go.RowKit

def ledS : Bs := [104, 116, 116, 112, 58, 47, 47, 97, 47, 98, 47, 99, 47, 100, 63, 113, 35, 102]
def ledT : Bs := [46, 46, 47, 103]
def ledA : Addr := ⟨[104, 116, 116, 112], true, [97], [47, 98, 47, 99, 47, 100], true, [113], true, [102]⟩
def ledB : Addr := ⟨[], false, [], [46, 46, 47, 103], false, [], false, []⟩
def ledR : Addr := ⟨[104, 116, 116, 112], true, [97], [47, 98, 47, 103], false, [], false, []⟩
theorem led1 : readA ledS = some ledA := by decide +kernel
theorem led2 : readA ledT = some ledB := by decide +kernel
theorem led3 : resolveA ledA ledB = ledR := by decide +kernel
theorem led4 : writeA ledR = [104, 116, 116, 112, 58, 47, 47, 97, 47, 98, 47, 103] := by decide +kernel
theorem led5 : dotsA [47, 97, 47, 46, 47, 98, 47, 46, 46, 47, 99] = [47, 97, 47, 99] := by decide +kernel

set_option maxHeartbeats 1000000 in
set_option maxRecDepth 100000 in
theorem led_any (w : World) (hg : Ground w) :
    Calls Tryd.prog 5 #[] w fun e w' => e = .returned (.bool true) ∧ Below w.heap.size w w' := by
  have hA := fun W h => addrRead_yes ledS ledA W (by decide) h led1
  have hB := fun W h => addrRead_yes ledT ledB W (by decide) h led2
  have hC := fun W h => resolve_any ledA ledB W (by decide) (by decide) h
  rw [led3] at hC
  have hD := fun W => addrWrite_any ledR W (by decide)
  rw [led4] at hD
  have hE := fun W h => dots_any [47, 97, 47, 46, 47, 98, 47, 46, 46, 47, 99] W (by decide) h
  rw [led5] at hE
  obtain ⟨iE, hE1, hE2⟩ := Option.map_eq_some_iff.1 (show (Tryd.prog.info? 26).map (·.comparable) = some true by kernel_rfl)
  go_enter Tryd.func5, Tryd.ntmps5
  go_wp2_with fail
  refine (hA _ hg).mono ?_
  rintro e w1 ⟨rfl, hb1⟩
  go_wp2_with fail
  have B1 : Below w.heap.size w (w1.alloc (.cells ledA.cells 24)) := hb1.alloc hb1.size _
  have k1 := Blk.new w1 ledA.cells 24
  refine (hB _ (hg.next B1)).mono ?_
  rintro e w2 ⟨rfl, hb2⟩
  have B2 := B1.trans (hb2.mono B1.size)
  have k2 := k1.next hb2 k1.lt
  have B3 : Below w.heap.size w (w2.alloc (.cells ledB.cells 24)) := B2.alloc B2.size _
  have k3 := k2.alloc (.cells ledB.cells 24)
  have k3c := k3.cell
  go_wp2_with fail
  refine (hC _ (hg.next B3)).mono ?_
  rintro e w3 ⟨rfl, hb3⟩
  go_wp2_with fail
  refine (hD _).mono ?_
  rintro e w4 ⟨rfl, hb4⟩
  go_wp2_with fail
  have B4 := (B3.trans (hb3.mono B3.size))
  have B5 := B4.trans (hb4.mono B4.size)
  refine (hE _ (hg.next B5)).mono ?_
  rintro e w5 ⟨rfl, hb5⟩
  go_wp2_with fail
  go_ret
  exact ⟨rfl, B5.trans (hb5.mono B5.size)⟩
end Go.Proofs.YtignjjnflcpiiaaDoor
