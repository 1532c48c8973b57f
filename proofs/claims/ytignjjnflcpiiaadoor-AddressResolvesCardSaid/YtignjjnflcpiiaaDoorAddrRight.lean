/-
  address.Right says whether an address is the one that a text is. Condition: all its texts together take less than 2^31 bytes.
-/
import Derived.Test.YtignjjnflcpiiaaDoorAddrRead
import Derived.Test.YtignjjnflcpiiaaDoorAddrWrite
import Derived.Test.YtignjjnflcpiiaaDoorAddrEq
namespace Go.Proofs.YtignjjnflcpiiaaDoor
open Go Go.RowKit

def rightA (a : Addr) : Bool := decide (readA (writeA a) = some a)

theorem writeA_len (a : Addr) : (writeA a).length ≤ a.len + 5 := by
  rw [writeA_bits]
  have h1 := bits_le (!a.scheme.isEmpty) (a.scheme ++ [58])
  have h2 := bits_le a.hasAuth (47 :: 47 :: a.auth)
  have h3 := bits_le a.hasQuery (63 :: a.query)
  have h4 := bits_le a.hasFrag (35 :: a.frag)
  simp only [List.length_append, List.length_cons, List.length_nil] at *
  unfold Addr.len
  omega

set_option maxHeartbeats 1000000 in
set_option maxRecDepth 100000 in
theorem addrRight_any (a : Addr) (w : World) (hl : a.len ≤ 2147483648) (hg : Ground w) :
    Calls Tryd.prog 8 #[a.val] w fun e w' => e = .returned (.bool (rightA a)) ∧ Below w.heap.size w w' := by
  have hW := addrWrite_any a (w.alloc (.cells a.cells 24)) (by omega)
  have hlw := writeA_len a
  have hR := fun W h => addrRead_any (writeA a) W (by omega) h
  go_enter Tryd.func8, Tryd.ntmps8
  go_wp2_with fail
  refine hW.mono ?_
  rintro e w1 ⟨rfl, hb1⟩
  go_wp2_with fail
  have B1 := ((Below.refl w.heap.size w).alloc (Nat.le_refl _) (.cells a.cells 24)).trans (hb1.mono (by go_size))
  have r1 := (Blk.new w a.cells 24).next hb1 (by go_size)
  refine (hR _ (hg.next B1)).mono ?_
  rintro e w2 ⟨he, hb2⟩
  have r2 := r1.next hb2 r1.lt
  have B2 := B1.trans (hb2.mono B1.size)
  have rc := r2.cell
  have hlt2 := r2.lt
  have hgd := eqGuardAddr
  obtain ⟨iE, hE, hcE⟩ := Option.map_eq_some_iff.1 (show (Tryd.prog.info? 26).map (·.comparable) = some true by kernel_rfl)
  cases hr : readA (writeA a) with
  | none =>
    rw [hr] at he
    obtain rfl := he
    go_wp2_with fail
    go_ret
    exact ⟨ret_bool (by simp [rightA, hr]), by go_grown⟩
  | some b =>
    rw [hr] at he
    obtain rfl := he
    have hc2 : ∀ j, (w2.alloc (.cells b.cells 24)).cell? ⟨w.heap.size, j, none⟩ = a.cells[j]? := fun j => (r2.alloc _).cell j
    go_wp2_with fail
    go_ret
    exact ⟨ret_bool (by rw [rightA, hr]; simp [eq_comm]), by go_grown⟩
end Go.Proofs.YtignjjnflcpiiaaDoor
