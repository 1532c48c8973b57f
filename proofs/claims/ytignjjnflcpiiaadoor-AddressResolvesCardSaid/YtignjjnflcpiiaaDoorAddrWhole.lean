/-
  address.Whole gives an address without its fragment, its scheme and authority in small letters. Condition: its texts take at most 2^47 bytes each.
-/
import Derived.Test.YtignjjnflcpiiaaDoorAddrP
import Derived.Test.YtignjjnflcpiiaaDoorSmall
import Derived.Deep.RegionHeld3
namespace Go.Proofs.YtignjjnflcpiiaaDoor
open Go Go.RowKit

def wholeA (a : Addr) : Addr := ⟨lowS a.scheme, a.hasAuth, lowS a.auth, a.path, a.hasQuery, a.query, false, []⟩

set_option maxHeartbeats 1000000 in
set_option maxRecDepth 100000 in
theorem addrWhole_any (a : Addr) (w : World) (h1 : a.scheme.length ≤ 140737488355328) (h2 : a.auth.length ≤ 140737488355328) :
    Calls Tryd.prog 11 #[a.val] w fun e w' => e = .returned (wholeA a).val ∧ Below w.heap.size w w' := by
  obtain ⟨s, ha, u, p, hq, q, hf, f⟩ := a
  simp only at h1 h2
  go_enter Tryd.func11, Tryd.ntmps11
  go_upto_region 1 with fail
  go_cut [2] (fun s2 wx => s2 = .pointer (some ⟨w.heap.size + 1, 0, none⟩) ∧ Blk wx w.heap.size (Addr.cells ⟨s, ha, u, p, hq, q, false, []⟩) 24 ∧ Blk wx (w.heap.size + 1) zCells 24 ∧ Below w.heap.size w wx)
  case first =>
    have r1 := ((((Blk.new w (Addr.cells ⟨s, ha, u, p, hq, q, hf, f⟩) 24).alloc (.cells zCells 24)).set 6 (.bool false)).set 7 (.string ⟨#[]⟩))
    go_wp2_with fail
    go_meet
    refine ⟨rfl, ?_, ?_, by go_grown⟩
    · exact (Blk.new w (Addr.cells ⟨s, ha, u, p, hq, q, false, []⟩) 24).alloc _
    · have h := Blk.new (w.alloc (.cells (Addr.cells ⟨s, ha, u, p, hq, q, false, []⟩) 24)) zCells 24
      rw [World.size_alloc] at h
      exact h
  case rest =>
    obtain ⟨rfl, r1, r2, B⟩ := hcut
    obtain ⟨w1, rfl⟩ : ∃ w1 : World, w1 = wc := ⟨_, rfl⟩
    go_upto_region 2 with fail
    go_cut [2] (fun s2 wx => s2 = .pointer (some ⟨w.heap.size + 1, 0, none⟩) ∧ Blk wx w.heap.size (Addr.cells ⟨lowS s, ha, lowS u, p, hq, q, false, []⟩) 24 ∧ Blk wx (w.heap.size + 1) zCells 24 ∧ Below w.heap.size w wx)
    case first =>
      have rc := r1.cell
      have rf := r1.free
      have hlt := r1.lt
      go_region_with ((refine (small_any _ _ (by assumption)).mono ?_); (rintro e w2 ⟨rfl, hb⟩); (have K := belowStep hb (w0 := w1) (by repeat (first | exact Below.refl _ _ | assumption | refine Below.drew ?_))); (have rc := (r1.next K hlt).cell); (have rf := (r1.next K hlt).free))
      all_goals go_wp2_with fail
      all_goals
        go_meet
        refine ⟨rfl, ((r1.next K hlt).set 0 (.string ⟨(lowS s).toArray⟩)).set 2 (.string ⟨(lowS u).toArray⟩), ((r2.next K r2.lt).setO (a := ⟨w.heap.size, 0, none⟩) (by simp) (.string ⟨(lowS s).toArray⟩)).setO (a := ⟨w.heap.size, 2, none⟩) (by simp) (.string ⟨(lowS u).toArray⟩), ?_⟩
        have KK := B.trans (K.mono B.size)
        go_grown
    case rest =>
      obtain ⟨rfl, r1, r2, B⟩ := hcut
      have rc := r1.cell
      have r2f := r2.free
      have r2c := r2.cell
      have hlt := r2.lt
      go_wp2_with fail
      refine bodyPost_ret (v := (wholeA ⟨s, ha, u, p, hq, q, hf, f⟩).val) (by simp [results, Tryd.results11, go_sem, wholeA, r2c]) rfl ⟨rfl, by go_grown⟩
end Go.Proofs.YtignjjnflcpiiaaDoor
