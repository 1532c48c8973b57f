/-
  What an error tells, when it is none or an Errno: api.Tell, plain.Place, the law's is and bare. Condition: the library's variable errorType holds the type error.
-/
import Derived.Test.YtignjjnflcpiiaaDoorAs
import Derived.Test.YtignjjnflcpiiaaDoorRefA
namespace Go.Proofs.YtignjjnflcpiiaaDoor
open Go Go.RowKit Go.Extern.Stop Go.Stop Go.Extern

/-- The library's variable errorType holds the type error. -/
def ET (w : World) : Prop := w.cell? ⟨3, 0, none⟩ = some (.iface 119 (.agg #[.pointer (some ⟨4, 26, none⟩)]))
theorem ET.next {w w' : World} (h : ET w) (hb : Below w.heap.size w w') : ET w' := by
  have hlt : 3 < w.heap.size := World.block_lt_of_cell? w _ h
  unfold ET at h ⊢
  rw [← h]
  simp only [World.cell?]
  rw [hb.block 3 hlt]

set_option maxHeartbeats 4000000 in
set_option maxRecDepth 100000 in
theorem tell_nil (w : World) : Calls Tryd.prog 63 #[.nilIface] w fun e w' => e = .returned (.int .i64 0) ∧ w' = w := by
  go_enter Tryd.func63, Tryd.ntmps63
  go_wp2
  go_ret
  exact ⟨rfl, rfl⟩

set_option maxHeartbeats 4000000 in
set_option maxRecDepth 100000 in
theorem tell_hit (n : Int) (w : World) (h : ET w) : Calls Tryd.prog 63 #[.iface 36 (.int .i64 n)] w fun e w' => e = .returned (.int .i64 n) ∧ Below w.heap.size w w' := by
  have hA : ET (w.alloc (.cells #[.int .i64 0] 36)) := h.next ((Below.refl _ _).alloc (Nat.le_refl _) _)
  have hn := Blk.new w #[.int .i64 0] 36
  have H := as_hit n ⟨w.heap.size, 0, none⟩ (.int .i64 0) (w.alloc (.cells #[.int .i64 0] 36)) hA (hn.cell 0) (hn.free 0)
  go_enter Tryd.func63, Tryd.ntmps63
  go_wp2_with fail
  refine H.mono ?_
  rintro e w1 ⟨rfl, rfl⟩
  go_wp2_with fail
  go_ret
  exact ⟨rfl, by go_grown⟩

set_option maxHeartbeats 4000000 in
set_option maxRecDepth 100000 in
theorem place_nil (w : World) : Calls Tryd.prog 46 #[.nilIface] w fun e w' => e = .returned (.tuple #[.int .i64 0, .int .i64 (-1)]) ∧ w' = w := by
  go_enter Tryd.func46, Tryd.ntmps46
  go_wp2_with fail
  refine (tell_nil _).mono ?_
  rintro e w1 ⟨rfl, rfl⟩
  go_wp2_with fail
  refine wp_loop_rounds 1 ?_
  rw [rounds_succ]
  go_wp2_with fail
  refine bodyPost_ret (v := .tuple #[.int .i64 0, .int .i64 (-1)]) (by simp [results, Tryd.results46, go_sem]) rfl ⟨rfl, rfl⟩

theorem errno_noAt (v : Value) (xT : TypeId) (w : World) : (Instr.typeAssert (.iface 36 v) xT 87 true).run Tryd.prog w = .ok (.tuple #[.pointer none, .bool false]) w := by kernel_rfl
theorem errno_noUnwrap (v : Value) (xT : TypeId) (w : World) : (Instr.typeAssert (.iface 36 v) xT 90 true).run Tryd.prog w = .ok (.tuple #[.nilIface, .bool false]) w := run_typeAssert_lacksB Tryd.underlying90 (by kernel_rfl) (by kernel_rfl) v xT w

set_option maxHeartbeats 4000000 in
set_option maxRecDepth 100000 in
theorem place_hit (n : Int) (w : World) (h : ET w) : Calls Tryd.prog 46 #[.iface 36 (.int .i64 n)] w fun e w' => e = .returned (.tuple #[.int .i64 n, .int .i64 (-1)]) ∧ Below w.heap.size w w' := by
  go_enter Tryd.func46, Tryd.ntmps46
  go_wp2_with fail
  have a1 := errno_noAt
  have a2 := errno_noUnwrap
  refine (tell_hit _ _ h).mono ?_
  rintro e w1 ⟨rfl, hb⟩
  go_wp2_with fail
  refine wp_loop_rounds 1 ?_
  rw [rounds_succ]
  go_wp2_with fail
  refine bodyPost_ret (v := .tuple #[.int .i64 n, .int .i64 (-1)]) (by simp [results, Tryd.results46, go_sem]) rfl ⟨rfl, hb⟩

/-- What an error of address.Read tells. -/
def errNo : Value → Int → Prop := fun v n => (v = .nilIface ∧ n = 0) ∨ v = .iface 36 (.int .i64 n)

theorem place_any (v : Value) (n : Int) (hv : errNo v n) (w : World) (h : ET w) : Calls Tryd.prog 46 #[v] w fun e w' => e = .returned (.tuple #[.int .i64 n, .int .i64 (-1)]) ∧ Below w.heap.size w w' := by
  rcases hv with ⟨rfl, rfl⟩ | rfl
  · exact (place_nil w).mono fun e w' ⟨h1, h2⟩ => ⟨h1, by subst h2; exact Below.refl _ _⟩
  · exact place_hit n w h

set_option maxHeartbeats 4000000 in
set_option maxRecDepth 100000 in
theorem is_any (v : Value) (n m : Int) (hv : errNo v n) (w : World) (h : ET w) : Calls Tryd.prog 33 #[v, .agg #[.int .i64 m, .int .i64 (-1)]] w fun e w' => e = .returned (.bool (decide (n = m))) ∧ Below w.heap.size w w' := by
  have hn := Blk.new w #[.int .i64 m, .int .i64 (-1)] 63
  have hP := place_any v n hv (w.alloc (.cells #[.int .i64 m, .int .i64 (-1)] 63)) (h.next ((Below.refl _ _).alloc (Nat.le_refl _) _))
  clear hv
  go_enter Tryd.func33, Tryd.ntmps33
  go_wp2_with fail
  refine hP.mono ?_
  rintro e w1 ⟨rfl, hb⟩
  have hn := hn.next hb hn.lt
  have hc := hn.cell
  have B := ((Below.refl w.heap.size w).alloc (Nat.le_refl _) (.cells #[.int .i64 m, .int .i64 (-1)] 63)).trans (hb.mono (by go_size))
  clear hb
  by_cases e : n = m
  · subst e
    go_wp2_with fail
    go_ret
    exact ⟨ret_bool (by simp), by go_grown⟩
  · have eb : (n == m) = false := by rw [beq_eq_false_iff_ne]; exact e
    go_wp2_with fail
    go_ret
    exact ⟨ret_bool (by simp [e]), by go_grown⟩

set_option maxHeartbeats 4000000 in
set_option maxRecDepth 100000 in
theorem bare_any (v : Value) (n m : Int) (hv : errNo v n) (w : World) (h : ET w) : Calls Tryd.prog 14 #[v, .int .i64 m] w fun e w' => e = .returned (.bool (decide (n = m))) ∧ Below w.heap.size w w' := by
  have hI := fun W (hE : ET W) => is_any v n m hv W hE
  clear hv
  go_enter Tryd.func14, Tryd.ntmps14
  go_wp2_with fail
  refine (refBare_any _ _).mono ?_
  rintro e w1 ⟨rfl, hb⟩
  go_wp2_with fail
  refine (hI _ (h.next hb)).mono ?_
  rintro e w2 ⟨rfl, hb2⟩
  go_wp2_with fail
  go_ret
  exact ⟨rfl, hb.trans (hb2.mono hb.size)⟩
end Go.Proofs.YtignjjnflcpiiaaDoor
