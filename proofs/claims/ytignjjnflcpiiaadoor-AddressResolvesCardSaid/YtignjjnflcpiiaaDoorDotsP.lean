/-
  The dots of a path, part by part, as plain data. No program.
-/
import Derived.Test.YtignjjnflcpiiaaDoorAddrP
import Derived.Lib.Join
namespace Go.Proofs.YtignjjnflcpiiaaDoor
open Go

/-- What one part does to those ahead of it. -/
def dotStep (first last : Bool) (out : List Bs) (s : Bs) : List Bs :=
  if s = [46] ∨ (s = [] ∧ first = false ∧ last = false) then (if last then out ++ [[]] else out)
  else if s = [46, 46] then (if last then (if 1 < out.length ∨ (out.length = 1 ∧ out ≠ [[]]) then out.dropLast else out) ++ [[]] else (if 1 < out.length ∨ (out.length = 1 ∧ out ≠ [[]]) then out.dropLast else out))
  else out ++ [s]

/-- What stands behind the first k parts. -/
def dotsUpto (l : List Bs) : Nat → List Bs
  | 0 => []
  | k + 1 => dotStep (k == 0) (k + 1 == l.length) (dotsUpto l k) (l.getD k [])

def dotsL (l : List Bs) : List Bs := dotsUpto l l.length
def dotsA (p : Bs) : Bs := Lib.join (dotsL (splitC 47 p)) [47]

theorem dotStep_len (f la : Bool) (o : List Bs) (s : Bs) : (dotStep f la o s).length ≤ o.length + 1 := by
  unfold dotStep
  repeat' split
  all_goals simp
  all_goals omega

theorem dotsUpto_len (l : List Bs) (k : Nat) : (dotsUpto l k).length ≤ k := by
  induction k with
  | zero => simp [dotsUpto]
  | succ k ih => have := dotStep_len (k == 0) (k + 1 == l.length) (dotsUpto l k) (l.getD k []); unfold dotsUpto; omega

theorem dotsUpto_succ {l : List Bs} {k : Nat} (h : k < l.length) : dotsUpto l (k + 1) = dotStep (k == 0) (k + 1 == l.length) (dotsUpto l k) l[k] := by
  show dotStep _ _ _ _ = _
  rw [List.getD_eq_getElem?_getD, List.getElem?_eq_getElem h]; rfl

/-- The four kinds of parts. -/
theorem dotStep_dot (f la : Bool) (o : List Bs) : dotStep f la o [46] = if la then o ++ [[]] else o := by simp [dotStep]
theorem dotStep_gap (o : List Bs) : dotStep false false o [] = o := by simp [dotStep]
theorem dotStep_end (f la : Bool) (o : List Bs) (h : f = true ∨ la = true) : dotStep f la o [] = o ++ [[]] := by
  rcases h with h | h <;> simp [dotStep, h]
/-- What .. leaves of the parts ahead of it. -/
def upOf (o : List Bs) : List Bs := if 1 < o.length ∨ (o.length = 1 ∧ o ≠ [[]]) then o.dropLast else o
theorem dotStep_up (f la : Bool) (o : List Bs) : dotStep f la o [46, 46] = if la then upOf o ++ [[]] else upOf o := by simp [dotStep, upOf]
theorem upOf_nil : upOf [] = [] := rfl
theorem upOf_one : upOf [[]] = [[]] := rfl
theorem upOf_pop {o : List Bs} {y : Bs} (h : o ≠ [] ∨ y ≠ []) : upOf (o ++ [y]) = o := by
  unfold upOf
  rw [if_pos, List.dropLast_concat]
  cases o with
  | nil => right; simpa using h
  | cons x o => left; simp
theorem dotStep_else (f la : Bool) (o : List Bs) (s : Bs) (h1 : s ≠ [46]) (h2 : s ≠ []) (h3 : s ≠ [46, 46]) : dotStep f la o s = o ++ [s] := by simp [dotStep, h1, h2, h3]

theorem dotStep_lens (f la : Bool) (o : List Bs) (s : Bs) : Lib.lens (dotStep f la o s) ≤ Lib.lens o + s.length := by
  have hd : Lib.lens o.dropLast ≤ Lib.lens o := by rw [List.dropLast_eq_take]; exact Lib.lens_take_le _ _
  have ha : ∀ (x y : List Bs), Lib.lens (x ++ y) = Lib.lens x + Lib.lens y := fun x y => by simp [Lib.lens]
  have h1 : Lib.lens [([] : Bs)] = 0 := rfl
  have h2 : ∀ s : Bs, Lib.lens [s] = s.length := fun s => by simp [Lib.lens]
  unfold dotStep
  repeat' split
  all_goals try simp only [ha, h1, h2]
  all_goals omega

theorem dotsUpto_lens (l : List Bs) (k : Nat) (hk : k ≤ l.length) : Lib.lens (dotsUpto l k) ≤ Lib.lens (l.take k) := by
  induction k with
  | zero => simp [dotsUpto, Lib.lens]
  | succ k ih =>
    have h := dotStep_lens (k == 0) (k + 1 == l.length) (dotsUpto l k) (l[k]'(by omega))
    rw [dotsUpto_succ (by omega), Lib.lens_take_succ l k (l[k]'(by omega)) (List.getElem?_eq_getElem (by omega))]
    have := ih (by omega)
    omega

theorem splitC_lens (c : UInt8) (l : Bs) : Lib.lens (splitC c l) + (splitC c l).length = l.length + 1 := by
  induction l with
  | nil => rfl
  | cons x l ih =>
    unfold splitC
    by_cases h : x = c
    · subst h; simp [Lib.lens] at *; omega
    · simp only [h, if_false]
      split
      · rename_i e; exact absurd e (splitC_ne c l)
      · rename_i hd t e; rw [e] at ih; simp [Lib.lens] at *; omega

theorem dotsA_len (p : Bs) : (dotsA p).length ≤ 2 * p.length + 2 := by
  unfold dotsA dotsL
  have h1 := dotsUpto_lens (splitC 47 p) _ (Nat.le_refl _)
  have h2 := splitC_lens 47 p
  have h3 := dotsUpto_len (splitC 47 p) (splitC 47 p).length
  rw [List.take_length] at h1
  cases h : dotsUpto (splitC 47 p) (splitC 47 p).length with
  | nil => simp [Lib.join_nil]
  | cons x r =>
    rw [h] at h1 h3
    rw [Lib.join_length]
    simp at *
    omega

end Go.Proofs.YtignjjnflcpiiaaDoor
