/-
  Where an address leads, as plain data. No program.
-/
import Derived.Test.YtignjjnflcpiiaaDoorDotsP
namespace Go.Proofs.YtignjjnflcpiiaaDoor
open Go

/-- What a path has up to its last slash. -/
def dirOf (p : Bs) : Bs := p.take (Lib.lastIndexByte ⟨p.toArray⟩ 47 + 1).toNat
/-- What stands ahead of a path that leads on from another one. -/
def ahead (b : Addr) : Bs := if b.hasAuth && b.path.isEmpty then [47] else dirOf b.path

def resolveA (b a : Addr) : Addr :=
  if a.scheme ≠ [] then { a with path := dotsA a.path }
  else if a.hasAuth then { a with scheme := b.scheme, path := dotsA a.path }
  else match a.path with
    | [] => ⟨b.scheme, b.hasAuth, b.auth, b.path, if a.hasQuery then true else b.hasQuery, if a.hasQuery then a.query else b.query, a.hasFrag, a.frag⟩
    | c :: l => if c = 47 then ⟨b.scheme, b.hasAuth, b.auth, dotsA (c :: l), a.hasQuery, a.query, a.hasFrag, a.frag⟩
      else ⟨b.scheme, b.hasAuth, b.auth, dotsA (ahead b ++ c :: l), a.hasQuery, a.query, a.hasFrag, a.frag⟩

theorem lastIdx_le (s : ByteArray) (c : Int) : ∀ k : Nat, -1 ≤ Lib.lastIdx s c k ∧ Lib.lastIdx s c k < k
  | 0 => by simp [Lib.lastIdx]
  | k + 1 => by
    unfold Lib.lastIdx
    have := lastIdx_le s c k
    split <;> omega

theorem lastIndexByte_le (l : Bs) (c : Int) : -1 ≤ Lib.lastIndexByte ⟨l.toArray⟩ c ∧ Lib.lastIndexByte ⟨l.toArray⟩ c < l.length := lastIdx_le _ c l.length

theorem ahead_len (b : Addr) : (ahead b).length ≤ b.path.length + 1 := by
  unfold ahead dirOf
  split
  · simp
  · simp; omega

end Go.Proofs.YtignjjnflcpiiaaDoor
