/-
  The document's low gives a text with its letters A to Z in small; its Whole an address without its fragment, scheme and authority in small. Condition: each text takes at most 2^47 bytes.
-/
import Derived.Test.YtignjjnflcpiiaaDoorRefA
import Derived.Outline
namespace Go.Proofs.YtignjjnflcpiiaaDoor
open Go Go.RowKit

theorem lowS_succ (l : Bs) (k : Nat) (h : k < l.length) : lowS (l.take (k + 1)) = lowS (l.take k) ++ [lowC l[k]] := by
  unfold lowS
  rw [List.take_succ_eq_append_getElem h, List.map_append]
  rfl
theorem lowS_length (l : Bs) : (lowS l).length = l.length := by simp [lowS]

set_option maxHeartbeats 1000000 in
set_option maxRecDepth 100000 in
theorem low_any (l : Bs) (w : World) (hl : l.length ≤ 140737488355328) :
    Calls Tryd.prog 31 #[.string ⟨l.toArray⟩] w fun e w' => e = .returned (.string ⟨(lowS l).toArray⟩) ∧ Below w.heap.size w w' := by
  go_enter Tryd.func31, Tryd.ntmps31
  go_wp2
  go_loopw [3, 8] (fun o i wr => ∃ k : Nat, k ≤ l.length ∧ i = .int .i64 k ∧ o = .string ⟨(lowS (l.take k)).toArray⟩ ∧ Below w.heap.size w wr) (fun _ i _ => l.length - (intOf i).toNat)
  case atStart => exact ⟨0, Nat.zero_le _, rfl, by simp [lowS], by go_grown⟩
  case round =>
    obtain ⟨k, hk, rfl, rfl, hb⟩ := hrel
    by_cases hlt : k < l.length
    · have hS := lowS_succ l k hlt
      have hlen : (lowS (l.take k)).length = k := by rw [lowS_length]; simp; omega
      generalize lowS (l.take k) = o at hS hlen
      have hcb : ∀ (c : UInt8) (v : Int) (_ : v = c.toNat), (convert 51 9 (.slice (some ⟨wr.heap.size, 0, none⟩) 1 1)).run Tryd.prog (wr.alloc (.cells #[.int .u8 v] 5)) = .ok (.string ⟨[c].toArray⟩) (wr.alloc (.cells #[.int .u8 v] 5)) := fun c v e =>
        run_convert_bytes_back (P := Tryd.prog) (wr.alloc (.cells #[.int .u8 v] 5)) 51 9 5 ⟨wr.heap.size, 0, none⟩ 1 [c] Tryd.underlying51 Tryd.underlying5 Tryd.underlying9
          (fun j hj => by
            obtain rfl : j = 0 := by simpa using hj
            rw [addr_add0, (Blk.new _ _ _).cell, e]; rfl)
      by_cases hc : (65 : Int) ≤ l[k].toNat ∧ (l[k].toNat : Int) ≤ 90
      · obtain ⟨h1, h2⟩ := hc
        have hcb := hcb (lowC l[k]) _ (lowC_yes _ h1 h2)
        generalize lowC l[k] = c at hS hcb
        go_wp2
        go_roundw
        case rel => exact ⟨k + 1, by omega, by go_num, by rw [hS], hb.alloc hb.size _⟩
        case measure => simp [intOf]; omega
      · have hcb := hcb l[k] _ rfl
        rw [lowC_no _ hc] at hS
        go_wp2
        all_goals first
          | omega
          | (go_roundw
             case rel => exact ⟨k + 1, by omega, by go_num, by rw [hS], hb.alloc hb.size _⟩
             case measure => simp [intOf]; omega)
    · obtain rfl : k = l.length := by omega
      rw [List.take_length]
      go_wp2
      go_ret
      exact ⟨rfl, hb⟩

set_option maxHeartbeats 1000000 in
set_option maxRecDepth 100000 in
theorem refWhole_any (a : Addr) (w : World) (h1 : a.scheme.length ≤ 140737488355328) (h2 : a.auth.length ≤ 140737488355328) :
    Calls Tryd.prog 17 #[a.val] w fun e w' => e = .returned (wholeA a).val ∧ Below w.heap.size w w' := by
  obtain ⟨s, ha, u, p, hq, q, hf, f⟩ := a
  simp only at h1 h2
  go_enter Tryd.func17, Tryd.ntmps17
  go_upto_region 1 with fail
  have r1 := (Blk.new w (Addr.cells ⟨s, ha, u, p, hq, q, hf, f⟩) 24).alloc (.cells zCells 24)
  have r2 := Blk.new (w.alloc (.cells (Addr.cells ⟨s, ha, u, p, hq, q, hf, f⟩) 24)) zCells 24
  rw [World.size_alloc] at r2
  have B : Below w.heap.size w _ := ((Below.refl w.heap.size w).alloc (Nat.le_refl _) (.cells (Addr.cells ⟨s, ha, u, p, hq, q, hf, f⟩) 24)).alloc (by go_size) (.cells zCells 24)
  generalize hw1 : (w.alloc (.cells (Addr.cells ⟨s, ha, u, p, hq, q, hf, f⟩) 24)).alloc (.cells zCells 24) = w1 at r1 r2 B ⊢
  clear hw1
  have rc := (Blk.drew r1).cell
  have K0 := (Below.refl w1.heap.size w1).drew
  have rf := (Blk.drew r2).free
  have r2c := (Blk.drew r2).cell
  have hB : w.heap.size + 1 ≤ w1.heap.size := by have := r2.lt; omega
  have K1 : Below (w.heap.size + 1) w1 w1.drew := K0.mono hB
  go_region_held3 (fun W => (∀ k, W.cell? ⟨w.heap.size, k, none⟩ = (Addr.cells ⟨s, ha, u, p, hq, q, hf, f⟩)[k]?) ∧ Below (w.heap.size + 1) w1 W)
    (first
      | with_reducible exact ⟨rc, K1⟩
      | with_reducible exact ⟨(r1.next K r1.lt).cell, K.mono hB⟩
      | (refine ⟨(r1.next (B := w.heap.size + 1) ?_ (by simp)).cell, ?_⟩ <;> (have KM := K.mono hB; repeat (first | with_reducible exact KM | refine Below.setCell ?_ (by simp) _))))
    ((go_at_call 31; go_split_ands; with_reducible refine (low_any _ _ (by assumption)).mono ?_; rintro e w10 ⟨rfl, hb⟩; have K := belowStep hb (w0 := w1) (by first | with_reducible exact K0 | with_reducible exact K); have rf := (r2.next K r2.lt).free; have r2c := (r2.next K r2.lt).cell; have KB := B.trans (K.mono B.size)))
  go_wp2_with fail
  refine bodyPost_ret (v := (wholeA ⟨s, ha, u, p, hq, q, hf, f⟩).val) (by simp [results, Tryd.results17, go_sem, wholeA, r2c]) rfl ⟨rfl, by go_grown⟩
end Go.Proofs.YtignjjnflcpiiaaDoor
