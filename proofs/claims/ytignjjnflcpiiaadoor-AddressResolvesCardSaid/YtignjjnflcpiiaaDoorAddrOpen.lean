/-
  An address that comes in as an argument: its eight cells, and that it reads the same in every world. No condition.
-/
import Derived.Test.YtignjjnflcpiiaaDoorAddrWrite
import Derived.ProofKit
import Derived.ChangeMaps5
import Derived.ChangeArms
import Derived.WideShapes
namespace Go.Proofs.YtignjjnflcpiiaaDoor
open Go Go.ChangeShapes Go.WideShapes Go.ChangeAt Go.RowKit Go.ChangeMaps

set_option maxRecDepth 100000 in
theorem open_addr {H : Type} {enc : TypeId × Value → H} {w : World} {base : Nat} {sp : Nat → Bool} {held : Bool} {r : Reach} {b0 : Nat} {v : Value} {d : DataW H} {ps : List MemPlace}
    (hval : Value.okWide Tryd.prog w r b0 24 v) (hd : DataW.Trod enc Tryd.prog w base sp held 24 v d ps) :
    ∃ x : Addr, v = x.val ∧ d = .agg [.lit (.string x.scheme), .lit (.bool x.hasAuth), .lit (.string x.auth), .lit (.string x.path), .lit (.bool x.hasQuery), .lit (.string x.query), .lit (.bool x.hasFrag), .lit (.string x.frag)] ∧ ps = [] := by
  obtain ⟨cs, rfl, hcs⟩ := okWide_struct Tryd.underlying24 hval
  obtain ⟨fuel, hf⟩ := hd
  obtain ⟨xs, n, rfl, hx, hl, hlen, hfs⟩ := DataW.trod_struct Tryd.underlying24 hf
  have c9 : Tryd.prog.cellsOf 9 = 1 := by kernel_rfl
  have c4 : Tryd.prog.cellsOf 4 = 1 := by kernel_rfl
  have c24 : Tryd.prog.cellsOf 24 = 8 := by kernel_rfl
  rw [c24] at hcs
  obtain ⟨l⟩ := cs
  match l, hcs with
  | [k0, k1, k2, k3, k4, k5, k6, k7], _ =>
    match xs, hlen with
    | [y0, y1, y2, y3, y4, y5, y6, y7], _ =>
      have h0 := hfs 0 _ rfl
      have h1 := hfs 1 _ rfl
      have h2 := hfs 2 _ rfl
      have h3 := hfs 3 _ rfl
      have h4 := hfs 4 _ rfl
      have h5 := hfs 5 _ rfl
      have h6 := hfs 6 _ rfl
      have h7 := hfs 7 _ rfl
      simp [c9, c4] at h0 h1 h2 h3 h4 h5 h6 h7
      obtain ⟨s0, e0, z0, m0⟩ := DataW.trod_string Tryd.underlying9 h0
      obtain ⟨s1, e1, z1⟩ := DataW.trod_bool Tryd.underlying4 h1
      obtain ⟨s2, e2, z2, m2⟩ := DataW.trod_string Tryd.underlying9 h2
      obtain ⟨s3, e3, z3, m3⟩ := DataW.trod_string Tryd.underlying9 h3
      obtain ⟨s4, e4, z4⟩ := DataW.trod_bool Tryd.underlying4 h4
      obtain ⟨s5, e5, z5, m5⟩ := DataW.trod_string Tryd.underlying9 h5
      obtain ⟨s6, e6, z6⟩ := DataW.trod_bool Tryd.underlying4 h6
      obtain ⟨s7, e7, z7, m7⟩ := DataW.trod_string Tryd.underlying9 h7
      have hp : ps = [] := by
        have := congrArg Prod.snd hx
        simp only at this
        rw [this]
        simp [z0, z1, z2, z3, z4, z5, z6, z7]
      have e0 : [k0] = [_] := e0
      have e1 : [k1] = [_] := e1
      have e2 : [k2] = [_] := e2
      have e3 : [k3] = [_] := e3
      have e4 : [k4] = [_] := e4
      have e5 : [k5] = [_] := e5
      have e6 : [k6] = [_] := e6
      have e7 : [k7] = [_] := e7
      cases e0; cases e1; cases e2; cases e3; cases e4; cases e5; cases e6; cases e7
      refine ⟨⟨s0.data.toList, s1, s2.data.toList, s3.data.toList, s4, s5.data.toList, s6, s7.data.toList⟩, ?_, ?_, hp⟩
      · unfold Addr.val Addr.cells
        simp only [Lib.mk_data]
      · have := congrArg Prod.fst hx
        simp only at this
        rw [this]
        simp [z0, z1, z2, z3, z4, z5, z6, z7]
end Go.Proofs.YtignjjnflcpiiaaDoor
