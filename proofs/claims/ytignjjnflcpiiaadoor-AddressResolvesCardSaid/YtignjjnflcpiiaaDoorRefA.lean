/-
  Small functions of the document's answer: in, Bare, WriteAddress, and tiny of the law. Condition: an address's texts together take less than 2^47 bytes.
-/
import Derived.Test.YtignjjnflcpiiaaDoorAddrWrite
import Derived.Test.YtignjjnflcpiiaaDoorAddrWhole
namespace Go.Proofs.YtignjjnflcpiiaaDoor
open Go Go.RowKit

theorem in_any (n lo hi : Int) (w : World) :
    Calls Tryd.prog 29 #[.int .i64 n, .int .i64 lo, .int .i64 hi] w fun e w' => e = .returned (.bool (decide (lo ≤ n) && decide (n ≤ hi))) ∧ w' = w := by
  go_enter Tryd.func29, Tryd.ntmps29
  go_wp2
  all_goals
    go_ret
    exact ⟨ret_bool (by simp [*] <;> omega), rfl⟩

theorem refBare_any (e : Int) (w : World) :
    Calls Tryd.prog 34 #[.int .i64 e] w fun r w' => r = .returned (.agg #[.int .i64 e, .int .i64 (-1)]) ∧ Below w.heap.size w w' := by
  go_enter Tryd.func34, Tryd.ntmps34
  go_wp2
  refine bodyPost_ret (v := .agg #[.int .i64 e, .int .i64 (-1)]) (by simp [results, Tryd.results34, go_sem]) rfl ⟨rfl, by go_grown⟩

set_option maxHeartbeats 1000000 in
set_option maxRecDepth 100000 in
theorem tiny_any (a : Addr) (w : World) (hl : a.len ≤ 9223372036854775807) :
    Calls Tryd.prog 12 #[a.val] w fun e w' => e = .returned (.bool (decide (a.len ≤ 400))) ∧ Below w.heap.size w w' := by
  obtain ⟨s, ha, u, p, hq, q, hf, f⟩ := a
  unfold Addr.len at hl ⊢
  simp only at hl ⊢
  go_enter Tryd.func12, Tryd.ntmps12
  go_wp2
  all_goals
    go_ret
    exact ⟨ret_bool (by simp [*]; omega), by go_grown⟩

set_option maxHeartbeats 2000000 in
set_option maxRecDepth 100000 in
theorem refWrite_any (a : Addr) (w : World) (hl : a.len ≤ 140737488355000) :
    Calls Tryd.prog 16 #[a.val] w fun e w' => e = .returned (.string ⟨(writeA a).toArray⟩) ∧ Below w.heap.size w w' := by
  have hw := writeA_bits a
  obtain ⟨s, ha, u, p, hq, q, hf, f⟩ := a
  unfold Addr.len at hl
  simp only at hl hw
  rw [hw]
  clear hw
  go_enter Tryd.func16, Tryd.ntmps16
  have r0 := Blk.new w (Addr.cells ⟨s, ha, u, p, hq, q, hf, f⟩) 24
  have rc := r0.cell
  cases ha <;> cases hq <;> cases hf <;> cases hs : s.isEmpty
  all_goals
    go_wp2_with fail
    go_ret
    exact ⟨ret_str (by simp [bits]), by go_grown⟩
end Go.Proofs.YtignjjnflcpiiaaDoor
