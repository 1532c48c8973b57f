/-
  address.Write gives what an address is written as. Condition: all its texts together take less than 2^47 bytes.
-/
import Derived.Test.YtignjjnflcpiiaaDoorAddrP
namespace Go.Proofs.YtignjjnflcpiiaaDoor
open Go Go.RowKit

def Addr.len (a : Addr) : Nat := a.scheme.length + a.auth.length + a.path.length + a.query.length + a.frag.length

/-- A step of the writing: what is written, if it is to be. -/
def bits (b : Bool) (l : Bs) : Bs := if b then l else []
theorem bits_le (b : Bool) (l : Bs) : (bits b l).length ≤ l.length := by cases b <;> simp [bits]
theorem writeA_bits (a : Addr) : writeA a = bits (!a.scheme.isEmpty) (a.scheme ++ [58]) ++ bits a.hasAuth (47 :: 47 :: a.auth) ++ a.path ++ bits a.hasQuery (63 :: a.query) ++ bits a.hasFrag (35 :: a.frag) := by
  unfold writeA bits
  cases h : a.scheme <;> simp

set_option maxHeartbeats 1000000 in
set_option maxRecDepth 100000 in
theorem addrWrite_any (a : Addr) (w : World) (hl : a.len ≤ 140737488355000) :
    Calls Tryd.prog 7 #[a.val] w fun e w' => e = .returned (.string ⟨(writeA a).toArray⟩) ∧ Below w.heap.size w w' := by
  obtain ⟨s, ha, u, p, hq, q, hf, f⟩ := a
  unfold Addr.len at hl
  simp only at hl
  go_enter Tryd.func7, Tryd.ntmps7
  go_upto_if 6 with fail
  go_cut [0, 2] (fun _s0 s2 wx => s2 = .string ⟨#[]⟩ ∧ Blk wx w.heap.size (Addr.cells ⟨s, ha, u, p, hq, q, hf, f⟩) 24 ∧ Bld (w.heap.size + 1) (w.heap.size + 1) (bits (!s.isEmpty) (s ++ [58])) wx ∧ Below w.heap.size w wx)
  case first =>
    have r0 := (Blk.new w (Addr.cells ⟨s, ha, u, p, hq, q, hf, f⟩) 24).alloc (.cells #[.pointer none, .slice none 0 0] 53)
    have b0 := (bldNew (w.alloc (.cells (Addr.cells ⟨s, ha, u, p, hq, q, hf, f⟩) 24)))
    rw [World.size_alloc] at b0
    have B0 : Below w.heap.size w _ := ((Below.refl _ w).alloc (Nat.le_refl _) (.cells (Addr.cells ⟨s, ha, u, p, hq, q, hf, f⟩) 24)).alloc (by go_size) (.cells #[.pointer none, .slice none 0 0] 53)
    have rc := r0.cell
    go_wp2_with fail
    · refine (wrStr (w.heap.size + 1) _ _ _ _ b0 (by simp; omega) r0.lt).mono ?_
      have hs : (!List.isEmpty s) = true := by assumption
      rintro e w1 ⟨rfl, b', hb'⟩
      go_wp2_with fail
      go_meet
      refine ⟨rfl, r0.next hb' (by omega), ?_, B0.trans (hb'.mono (by omega))⟩
      rw [hs]; simpa [bits] using b'
    · go_meet
      have hs : (!List.isEmpty s) = false := by assumption
      refine ⟨rfl, r0, ?_, B0⟩
      rw [hs]; simpa [bits] using b0
  case rest =>
    obtain ⟨rfl, r1, b1, B1⟩ := hcut
    have rc1 := r1.cell
    go_upto_if 12 with fail
    go_cut [0, 2] (fun _s0 s2 wx => s2 = .string ⟨#[]⟩ ∧ Blk wx w.heap.size (Addr.cells ⟨s, ha, u, p, hq, q, hf, f⟩) 24 ∧ Bld (w.heap.size + 1) (w.heap.size + 1) (bits (!s.isEmpty) (s ++ [58]) ++ bits ha (47 :: 47 :: u)) wx ∧ Below w.heap.size w wx)
    case first =>
      have rc := r1.cell
      go_wp2_with fail
      · refine (wrStr (w.heap.size + 1) _ _ _ _ b1 (by have := bits_le (!s.isEmpty) (s ++ [58]); simp at *; omega) r1.lt).mono ?_
        have hs : ha = true := by assumption
        rintro e w1 ⟨rfl, b', hb'⟩
        go_wp2_with fail
        go_meet
        refine ⟨rfl, r1.next hb' (by omega), ?_, B1.trans (hb'.mono (by omega))⟩
        simpa [bits, hs] using b'
      · go_meet
        have hs : ha = false := by assumption
        refine ⟨rfl, r1, ?_, B1⟩
        simpa [bits, hs] using b1
    case rest =>
      obtain ⟨rfl, r2, b2, B2⟩ := hcut
      have rc := r2.cell
      go_wp2_with fail
      refine (wrStr (w.heap.size + 1) _ _ _ _ b2 (by have := bits_le (!s.isEmpty) (s ++ [58]); have := bits_le ha (47 :: 47 :: u); simp at *; omega) r2.lt).mono ?_
      rintro e w3 ⟨rfl, b3, hb3⟩
      have r3 := r2.next hb3 (by omega)
      have B3 := B2.trans (hb3.mono (by omega))
      clear rc r2 B2 hb3 b2
      have rc := r3.cell
      go_upto_if 21 with fail
      go_cut [0, 2] (fun _s0 s2 wx => s2 = .string ⟨#[]⟩ ∧ Blk wx w.heap.size (Addr.cells ⟨s, ha, u, p, hq, q, hf, f⟩) 24 ∧ Bld (w.heap.size + 1) (w.heap.size + 1) (bits (!s.isEmpty) (s ++ [58]) ++ bits ha (47 :: 47 :: u) ++ p ++ bits hq (63 :: q)) wx ∧ Below w.heap.size w wx)
      case first =>
        have rc := r3.cell
        go_wp2_with fail
        · refine (wrStr (w.heap.size + 1) _ _ _ _ b3 (by have := bits_le (!s.isEmpty) (s ++ [58]); have := bits_le ha (47 :: 47 :: u); simp at *; omega) r3.lt).mono ?_
          have hs : hq = true := by assumption
          rintro e w1 ⟨rfl, b', hb'⟩
          go_wp2_with fail
          go_meet
          refine ⟨rfl, r3.next hb' (by omega), ?_, B3.trans (hb'.mono (by omega))⟩
          simpa [bits, hs] using b'
        · go_meet
          have hs : hq = false := by assumption
          refine ⟨rfl, r3, ?_, B3⟩
          simpa [bits, hs] using b3
      case rest =>
        obtain ⟨rfl, r4, b4, B4⟩ := hcut
        have rc4 := r4.cell
        go_upto_if 27 with fail
        go_cut [0, 2] (fun _s0 s2 wx => s2 = .string ⟨#[]⟩ ∧ Blk wx w.heap.size (Addr.cells ⟨s, ha, u, p, hq, q, hf, f⟩) 24 ∧ Bld (w.heap.size + 1) (w.heap.size + 1) (bits (!s.isEmpty) (s ++ [58]) ++ bits ha (47 :: 47 :: u) ++ p ++ bits hq (63 :: q) ++ bits hf (35 :: f)) wx ∧ Below w.heap.size w wx)
        case first =>
          have rc := r4.cell
          go_wp2_with fail
          · refine (wrStr (w.heap.size + 1) _ _ _ _ b4 (by have := bits_le (!s.isEmpty) (s ++ [58]); have := bits_le ha (47 :: 47 :: u); have := bits_le hq (63 :: q); simp at *; omega) r4.lt).mono ?_
            have hs : hf = true := by assumption
            rintro e w1 ⟨rfl, b', hb'⟩
            go_wp2_with fail
            go_meet
            refine ⟨rfl, r4.next hb' (by omega), ?_, B4.trans (hb'.mono (by omega))⟩
            simpa [bits, hs] using b'
          · go_meet
            have hs : hf = false := by assumption
            refine ⟨rfl, r4, ?_, B4⟩
            simpa [bits, hs] using b4
        case rest =>
          obtain ⟨rfl, r5, b5, B5⟩ := hcut
          go_wp2_with fail
          refine (bldStr (w.heap.size + 1) _ _ _ b5 r5.lt).mono ?_
          rintro e w6 ⟨rfl, hb6⟩
          go_wp2_with fail
          go_ret
          refine ⟨ret_str ?_, B5.trans (hb6.mono (by omega))⟩
          rw [writeA_bits]
          simp
end Go.Proofs.YtignjjnflcpiiaaDoor
