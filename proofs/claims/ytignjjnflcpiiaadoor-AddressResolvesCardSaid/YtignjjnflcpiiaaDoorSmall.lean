/-
  api.Small gives the text with its letters A to Z in small; it makes memory of its own alone. Condition: the text takes at most 2^47 bytes.
-/
import Derived.Test.YtignjjnflcpiiaaDoorBase
import Derived.Test.YtignjjnflcpiiaaDoorProg
namespace Go.Proofs.YtignjjnflcpiiaaDoor
open Go.RowKit

/-- A letter A to Z in small. -/
def lowC (c : UInt8) : UInt8 := if 65 ≤ c ∧ c ≤ 90 then c + 32 else c
def lowS (l : List UInt8) : List UInt8 := l.map lowC
/-- The first k in small. -/
def lowUpto (l : List UInt8) (k : Nat) : List UInt8 := (l.take k).map lowC ++ l.drop k

theorem lowUpto_zero (l : List UInt8) : lowUpto l 0 = l := by simp [lowUpto]
theorem lowUpto_all (l : List UInt8) : lowUpto l l.length = lowS l := by simp [lowUpto, lowS]
theorem lowUpto_length (l : List UInt8) (k : Nat) : (lowUpto l k).length = l.length := by simp [lowUpto]; omega
theorem lowUpto_at (l : List UInt8) (k : Nat) (h : k < l.length) : (lowUpto l k)[k]'(by rw [lowUpto_length]; exact h) = l[k] := by
  simp [lowUpto, Nat.min_eq_left (Nat.le_of_lt h)]
theorem lowUpto_succ (l : List UInt8) (k : Nat) (h : k < l.length) : lowUpto l (k + 1) = (lowUpto l k).set k (lowC l[k]) := by
  unfold lowUpto
  rw [List.set_append, List.length_map, List.length_take, Nat.min_eq_left (Nat.le_of_lt h), if_neg (Nat.lt_irrefl k), Nat.sub_self, List.drop_eq_getElem_cons h, List.take_succ_eq_append_getElem h, List.set_cons_zero, List.map_append, List.append_assoc]
  rfl
theorem lowUpto_skip (l : List UInt8) (k : Nat) (h : k < l.length) (e : lowC l[k] = l[k]) : lowUpto l (k + 1) = lowUpto l k := by
  rw [lowUpto_succ l k h, e, ← lowUpto_at l k h, List.set_getElem_self]
theorem lowC_yes (c : UInt8) (h1 : (65 : Int) ≤ c.toNat) (h2 : (c.toNat : Int) ≤ 90) : ((c.toNat : Int) + 32) = ((lowC c).toNat : Int) := by
  have h3 : 65 ≤ c.toNat := by omega
  have h4 : c.toNat ≤ 90 := by omega
  unfold lowC
  rw [if_pos ⟨UInt8.le_iff_toNat_le.2 h3, UInt8.le_iff_toNat_le.2 h4⟩, UInt8.toNat_add]
  simp; omega
theorem lowC_no (c : UInt8) (h : ¬ ((65 : Int) ≤ c.toNat ∧ (c.toNat : Int) ≤ 90)) : lowC c = c := by
  unfold lowC
  rw [if_neg]
  rintro ⟨h1, h2⟩
  have := UInt8.le_iff_toNat_le.1 h1
  have := UInt8.le_iff_toNat_le.1 h2
  simp at *; omega

set_option maxHeartbeats 400000 in
theorem small_any (l : List UInt8) (w : World) (hl : l.length ≤ 140737488355328) :
    Calls Tryd.prog 28 #[.string ⟨l.toArray⟩] w fun e w' => e = .returned (.string ⟨(lowS l).toArray⟩) ∧ Below w.heap.size w w' := by
  have hcv := fun w => run_bytes_of_string (P := Tryd.prog) w 9 51 5 ⟨l.toArray⟩ Tryd.underlying9 Tryd.underlying51 Tryd.underlying5
  go_enter Tryd.func28, Tryd.ntmps28
  go_wp2
  go_loopw [10] (fun i wr => ∃ k : Nat, k ≤ l.length ∧ i = .int .i64 k ∧ ByteRow wr w.heap.size (lowUpto l k) ∧ Below w.heap.size w wr) (fun i _ => l.length - (intOf i).toNat)
  case atStart => exact ⟨0, Nat.zero_le _, rfl, by rw [lowUpto_zero]; exact byteRow_conv w l _ _, ((Below.refl _ _).alloc (Nat.le_refl _) _).drew⟩
  case round =>
    obtain ⟨k, hk, rfl, hrow, hbel⟩ := hrel
    by_cases hlt : k < l.length
    · have hc := hrow.cell (j := k) (by rw [lowUpto_length]; exact hlt)
      have hf := hrow.frozen (j := k) (by rw [lowUpto_length]; exact hlt)
      rw [lowUpto_at l k hlt] at hc
      go_wp2
      · have h1 : (65 : Int) ≤ l[k].toNat := by assumption
        have h2 : (l[k].toNat : Int) ≤ 90 := by assumption
        go_roundw
        case rel =>
          refine ⟨k + 1, by omega, by go_num, ?_, hbel.setCell (Nat.le_refl _) _⟩
          rw [lowC_yes _ h1 h2, lowUpto_succ l k hlt]
          exact hrow.set k _
        case measure => simp [intOf]; omega
      all_goals
        go_roundw
        case rel => exact ⟨k + 1, by omega, by go_num, by rw [lowUpto_skip l k hlt (lowC_no _ (by omega))]; exact hrow, hbel⟩
        case measure => simp [intOf]; omega
    · obtain rfl : k = l.length := by omega
      rw [lowUpto_all] at hrow
      have hcb := run_convert_bytes_back (P := Tryd.prog) wr 51 9 5 ⟨w.heap.size, 0, none⟩ (grownCap w l.length 0 5) (lowS l) Tryd.underlying51 Tryd.underlying5 Tryd.underlying9
        (fun j hj => by rw [addr_add0]; exact hrow.cell hj)
      rw [show (lowS l).length = l.length from by simp [lowS]] at hcb
      clear hrow
      go_wp2
      go_ret
      exact ⟨rfl, hbel⟩
end Go.Proofs.YtignjjnflcpiiaaDoor
