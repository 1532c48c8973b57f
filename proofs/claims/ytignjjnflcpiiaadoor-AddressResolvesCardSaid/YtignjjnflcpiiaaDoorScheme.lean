/-
  address.scheme says whether a text may be a scheme. Condition: the text takes at most 2^47 bytes.
-/
import Derived.Test.YtignjjnflcpiiaaDoorLib
namespace Go.Proofs.YtignjjnflcpiiaaDoor
open Go Go.RowKit

def alphaL : Bs := [65, 66, 67, 68, 69, 70, 71, 72, 73, 74, 75, 76, 77, 78, 79, 80, 81, 82, 83, 84, 85, 86, 87, 88, 89, 90, 97, 98, 99, 100, 101, 102, 103, 104, 105, 106, 107, 108, 109, 110, 111, 112, 113, 114, 115, 116, 117, 118, 119, 120, 121, 122]
def schemeL : Bs := alphaL ++ [48, 49, 50, 51, 52, 53, 54, 55, 56, 57, 43, 45, 46]

/-- A scheme: a letter, and then letters, digits, and three signs. -/
def schemeB : Bs → Bool
  | [] => false
  | c :: l => alphaL.contains c && (c :: l).all (schemeL.contains ·)

theorem idx_contains (l : Bs) (c : UInt8) : (0 ≤ Lib.indexByte l c) ↔ l.contains c = true := by
  rw [indexByte_cutP]
  cases h : cutP [c] l with
  | none => rw [cutC_none] at h; simp [h]
  | some x =>
    obtain ⟨a, b⟩ := x
    obtain ⟨e, _⟩ := cutC_some h
    simp [e]

theorem dropWhile_nil {p : UInt8 → Bool} : ∀ {l : Bs}, l.dropWhile p = [] ↔ l.all p = true
  | [] => by simp
  | x :: l => by
    rw [List.dropWhile_cons]
    by_cases h : p x = true
    · simp [h, dropWhile_nil (l := l)]
    · simp [h]

theorem dropWhile_head {p : UInt8 → Bool} : ∀ {l : Bs} {x : UInt8} {t : Bs}, l.dropWhile p = x :: t → p x = false
  | [], _, _, h => by simp at h
  | y :: l, x, t, h => by
    rw [List.dropWhile_cons] at h
    by_cases hy : p y = true
    · rw [if_pos hy] at h; exact dropWhile_head h
    · rw [if_neg hy] at h; injection h with h1 _; rw [← h1]; simpa using hy

theorem trimS_nil_iff (l cs : Bs) : Lib.trimS l cs = [] ↔ l.all (cs.contains ·) = true := by
  unfold Lib.trimS Lib.trimLeftS Lib.trimRightS
  rw [dropWhile_nil]
  constructor
  · intro h
    rw [← List.all_reverse]
    rw [List.all_reverse] at h
    rw [← dropWhile_nil]
    cases hd : List.dropWhile (fun x => cs.contains x) l.reverse with
    | nil => rfl
    | cons x t =>
      rw [hd] at h
      have := dropWhile_head hd
      simp only [List.all_cons, Bool.and_eq_true] at h
      rw [this] at h
      exact absurd h.1 (by simp)
  · intro h
    rw [← List.all_reverse, ← dropWhile_nil] at h
    rw [h]; rfl

theorem isEmpty_trimS (l cs : Bs) : (Lib.trimS l cs).isEmpty = l.all (cs.contains ·) := by
  rw [Bool.eq_iff_iff, List.isEmpty_iff, trimS_nil_iff]

set_option maxHeartbeats 400000 in
set_option maxRecDepth 100000 in
theorem scheme_any (l : Bs) (w : World) (hl : l.length ≤ 140737488355328) :
    Calls Tryd.prog 22 #[.string ⟨l.toArray⟩] w fun e w' => e = .returned (.bool (schemeB l)) ∧ Below w.heap.size w w' := by
  cases l with
  | nil =>
    go_enter Tryd.func22, Tryd.ntmps22
    go_wp2_with fail
    go_ret
    exact ⟨rfl, Below.refl _ _⟩
  | cons c l =>
    have hI := idxByte alphaL (c.toNat : Int) c (by simp) w
    have hT := trimStr (c :: l) schemeL w (by omega) (by decide) (by decide)
    by_cases hc : alphaL.contains c = true
    · have h0 : 0 ≤ Lib.indexByte alphaL c := (idx_contains _ _).2 hc
      go_enter Tryd.func22, Tryd.ntmps22
      go_wp2_with fail
      refine hI.mono ?_
      rintro e w' ⟨rfl, rfl⟩
      go_wp2_with fail
      refine hT.mono ?_
      rintro e w' ⟨rfl, hb⟩
      go_wp2_with fail
      go_ret
      exact ⟨ret_bool (by rw [isEmpty_trimS]; show _ = (alphaL.contains c && _); rw [hc, Bool.true_and]), hb⟩
    · have h0 : Lib.indexByte alphaL c < 0 := by
        rcases Int.lt_or_le (Lib.indexByte alphaL c) 0 with h | h
        · exact h
        · exact absurd ((idx_contains _ _).1 h) hc
      go_enter Tryd.func22, Tryd.ntmps22
      go_wp2_with fail
      refine hI.mono ?_
      rintro e w' ⟨rfl, rfl⟩
      go_wp2_with fail
      go_ret
      exact ⟨ret_bool (by show _ = (alphaL.contains c && _); rw [Bool.eq_false_iff.2 hc, Bool.false_and]), Below.refl _ _⟩
end Go.Proofs.YtignjjnflcpiiaaDoor
