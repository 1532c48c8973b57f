/-
  What == and != say of two addresses: whether they are the same. No condition.
-/
import Derived.Test.YtignjjnflcpiiaaDoorAddrP
namespace Go.Proofs.YtignjjnflcpiiaaDoor
open Go Go.RowKit

theorem bytes_beq (a b : Bs) : ((⟨a.toArray⟩ : ByteArray).toList == (⟨b.toArray⟩ : ByteArray).toList) = decide (a = b) := by
  rw [Lib.toList_data, Lib.toList_data]
  exact Bool.eq_iff_iff.2 (by simp)

set_option maxHeartbeats 1000000 in
theorem eqAddr (a b : Addr) (w : World) : (Op.equalIn 10000 24 (.agg a.cells) (.agg b.cells)).run Tryd.prog w = .ok (decide (a = b)) w := by
  obtain ⟨a1, a2, a3, a4, a5, a6, a7, a8⟩ := a
  obtain ⟨b1, b2, b3, b4, b5, b6, b7, b8⟩ := b
  have u4 := Tryd.underlying4; have t4 := Tryd.isAgg4; have z4 := Tryd.sizeOf4
  have u9 := Tryd.underlying9; have t9 := Tryd.isAgg9; have z9 := Tryd.sizeOf9
  have hS : Tryd.prog.underlying 24 = some (.struct (Tryd.prog.fieldsOf 24)) := by kernel_rfl
  have hp : Tryd.prog.stoodInHeld 24 = false := by kernel_rfl
  rw [show (10000 : Nat) = 9999 + 1 from rfl, run_equalIn_agg w 9999 24 _ _ hS hp]
  simp only [Program.fieldsOf, Tryd.underlying24]
  go_simp
  repeat' split
  all_goals simp [*]

@[go_sem high] theorem eqlAddr (a b : Addr) (w : World) : (binOp .eql 24 (.agg a.cells) (.agg b.cells)).run Tryd.prog w = .ok (.bool (decide (a = b))) w := by
  rw [run_eql_struct, eqAddr]; rfl
@[go_sem high] theorem neqAddr (a b : Addr) (w : World) : (binOp .neq 24 (.agg a.cells) (.agg b.cells)).run Tryd.prog w = .ok (.bool (!decide (a = b))) w := by
  rw [run_neq_struct, eqAddr]; rfl

theorem eqGuardAddr : Tryd.prog.eqGuardType Tryd.prog.depth 24 = false := by kernel_rfl
end Go.Proofs.YtignjjnflcpiiaaDoor
