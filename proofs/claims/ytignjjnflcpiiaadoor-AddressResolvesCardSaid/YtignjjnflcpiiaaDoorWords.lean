/-
  Plain words on lists of bytes: cutting at a text, cutting at all places of a byte; how they stand to the words of the shelf. No program, no condition.
-/
import Derived.Lib.IndexLaws
import Derived.Lib.IndexMore
import Derived.Lib.SplitLaws
import Derived.Lib.CutLaws
import Derived.Lib.LastIndexByte
import Derived.Lib.Strings
namespace Go.Proofs.YtignjjnflcpiiaaDoor
open Go

abbrev Bs := List UInt8

/-- What stands ahead of the first p, and behind it. -/
def cutP (p : Bs) : Bs → Option (Bs × Bs)
  | [] => if p = [] then some ([], []) else none
  | c :: l => if p.isPrefixOf (c :: l) then some ([], (c :: l).drop p.length) else (cutP p l).map fun x => (c :: x.1, x.2)

theorem isPrefixOf_append (p : Bs) (l : Bs) (h : p.isPrefixOf l = true) : l = p ++ l.drop p.length := by
  obtain ⟨t, rfl⟩ := List.isPrefixOf_iff_prefix.1 h
  simp

theorem cutP_some {p l a b : Bs} (h : cutP p l = some (a, b)) : l = a ++ p ++ b := by
  induction l generalizing a with
  | nil =>
    unfold cutP at h
    split at h
    · rename_i hp; simp at h; simp [h.1, ← h.2, hp]
    · cases h
  | cons c l ih =>
    unfold cutP at h
    split at h
    · rename_i hp
      simp at h
      obtain ⟨rfl, rfl⟩ := h
      simpa using isPrefixOf_append p _ hp
    · cases hc : cutP p l with
      | none => simp [hc] at h
      | some x =>
        obtain ⟨x1, x2⟩ := x
        simp [hc] at h
        obtain ⟨rfl, rfl⟩ := h
        simp [ih hc]

theorem index_cutP (p l : Bs) : Lib.index l p = match cutP p l with | none => -1 | some x => (x.1.length : Int) := by
  induction l with
  | nil => by_cases h : p = [] <;> simp [Lib.index, cutP, h]
  | cons c l ih =>
    unfold Lib.index cutP
    by_cases h : p.isPrefixOf (c :: l) = true
    · simp [h]
    · simp only [h, if_false, Bool.false_eq_true, ih]
      cases cutP p l with
      | none => simp
      | some x =>
        have : ¬ ((x.1.length : Int) = -1) := by omega
        simp [this]

theorem cut_cutP (p l : Bs) : Lib.cut l p = match cutP p l with | none => (l, [], false) | some x => (x.1, x.2, true) := by
  unfold Lib.cut
  rw [index_cutP]
  cases h : cutP p l with
  | none => simp
  | some x =>
    obtain ⟨a, b⟩ := x
    have := cutP_some h
    simp [this]

theorem indexByte_cutP (c : UInt8) (l : Bs) : Lib.indexByte l c = match cutP [c] l with | none => -1 | some x => (x.1.length : Int) := by
  induction l with
  | nil => simp [Lib.indexByte, cutP]
  | cons b l ih =>
    unfold Lib.indexByte cutP
    by_cases h : b = c
    · subst h; simp [List.isPrefixOf]
    · have h1 : (b == c) = false := by simpa using h
      have h2 : [c].isPrefixOf (b :: l) = false := by simp [List.isPrefixOf]; exact fun e => h e.symm
      simp only [h1, h2, if_false, Bool.false_eq_true, ih]
      cases cutP [c] l with
      | none => simp
      | some x =>
        have : ¬ ((x.1.length : Int) = -1) := by omega
        simp [this]

/-- No p at all: no place begins with one. -/
theorem cutP_none_cons {p : Bs} {c : UInt8} {l : Bs} (h : cutP p (c :: l) = none) : p.isPrefixOf (c :: l) = false ∧ cutP p l = none := by
  unfold cutP at h
  split at h
  · cases h
  · rename_i hp
    exact ⟨Bool.eq_false_iff.2 hp, by simpa using h⟩

theorem cutC_none {c : UInt8} {l : Bs} : cutP [c] l = none ↔ c ∉ l := by
  induction l with
  | nil => simp [cutP]
  | cons b l ih =>
    unfold cutP
    by_cases h : b = c
    · subst h; simp [List.isPrefixOf]
    · have h2 : [c].isPrefixOf (b :: l) = false := by simp [List.isPrefixOf]; exact fun e => h e.symm
      simp [h2, ih]
      exact fun _ e => h e.symm

theorem cutC_some {c : UInt8} {l a b : Bs} (h : cutP [c] l = some (a, b)) : l = a ++ c :: b ∧ c ∉ a := by
  refine ⟨by simpa using cutP_some h, ?_⟩
  induction l generalizing a with
  | nil => simp [cutP] at h
  | cons x l ih =>
    unfold cutP at h
    by_cases e : x = c
    · subst e; simp [List.isPrefixOf] at h; simp [h.1]
    · have h2 : [c].isPrefixOf (x :: l) = false := by simp [List.isPrefixOf]; exact fun e' => e e'.symm
      cases hc : cutP [c] l with
      | none => simp [h2, hc] at h
      | some y =>
        obtain ⟨y1, y2⟩ := y
        simp [h2, hc] at h
        obtain ⟨rfl, rfl⟩ := h
        simp only [List.mem_cons, not_or]
        exact ⟨fun e' => e e'.symm, ih hc⟩

theorem cutC_mk {c : UInt8} {a b : Bs} (h : c ∉ a) : cutP [c] (a ++ c :: b) = some (a, b) := by
  induction a with
  | nil => simp [cutP, List.isPrefixOf]
  | cons x a ih =>
    simp only [List.mem_cons, not_or] at h
    have h2 : [c].isPrefixOf (x :: (a ++ c :: b)) = false := by simp [List.isPrefixOf]; exact h.1
    simp [cutP, h2, ih h.2]

/-- A text cut at each place of a byte. -/
def splitC (c : UInt8) : Bs → List Bs
  | [] => [[]]
  | x :: l => if x = c then [] :: splitC c l else match splitC c l with | [] => [[x]] | h :: t => (x :: h) :: t

theorem splitC_ne (c : UInt8) (l : Bs) : splitC c l ≠ [] := by
  cases l with
  | nil => simp [splitC]
  | cons x l => unfold splitC; split; · simp
                · split <;> simp

theorem splitC_none {c : UInt8} {l : Bs} (h : c ∉ l) : splitC c l = [l] := by
  induction l with
  | nil => rfl
  | cons x l ih =>
    simp only [List.mem_cons, not_or] at h
    have hx : ¬ x = c := fun e => h.1 e.symm
    simp [splitC, hx, ih h.2]

theorem splitC_app {c : UInt8} {a b : Bs} (h : c ∉ a) : splitC c (a ++ c :: b) = a :: splitC c b := by
  induction a with
  | nil => simp [splitC]
  | cons x a ih =>
    simp only [List.mem_cons, not_or] at h
    have hx : ¬ x = c := fun e => h.1 e.symm
    simp [splitC, hx, ih h.2]

theorem splitC_count (c : UInt8) (l : Bs) : (splitC c l).length = l.count c + 1 := by
  induction l with
  | nil => rfl
  | cons x l ih =>
    unfold splitC
    by_cases h : x = c
    · subst h; simp [ih]
    · simp only [h, if_false]
      have hc : (x :: l).count c = l.count c := by rw [List.count_cons]; simp [h]
      rw [hc]
      split
      · rename_i e; exact absurd e (splitC_ne c l)
      · rename_i hd t e; rw [e] at ih; simpa using ih

theorem splitK_one (c : UInt8) : ∀ (n : Nat) (l : Bs), l.count c = n → Lib.splitK [c] 0 n l = splitC c l
  | 0, l, h => by
    rw [splitC_none (List.count_eq_zero.1 h)]; rfl
  | n + 1, l, h => by
    unfold Lib.splitK
    rw [index_cutP]
    cases hc : cutP [c] l with
    | none => rw [cutC_none] at hc; have := List.count_eq_zero.2 hc; omega
    | some x =>
      obtain ⟨a, b⟩ := x
      obtain ⟨e, hn⟩ := cutC_some hc
      have h1 : ((a.length : Int) == -1) = false := by rw [beq_eq_false_iff_ne]; omega
      simp only [h1, Bool.false_eq_true, if_false]
      have hb : b.count c = n := by
        rw [e, List.count_append, List.count_eq_zero.2 hn] at h
        simp at h; omega
      rw [e, splitC_app hn]
      simp
      have := splitK_one c n b hb
      simpa using this

theorem split_one (c : UInt8) (l : Bs) : Lib.splitB ⟨#[c]⟩ 0 (Lib.countB ⟨l.toArray⟩ ⟨#[c]⟩) ⟨l.toArray⟩ = (splitC c l).map fun x => (⟨x.toArray⟩ : ByteArray) := by
  have h := Lib.splitB_data ⟨#[c]⟩ 0 (Lib.countB ⟨l.toArray⟩ ⟨#[c]⟩) ⟨l.toArray⟩
  have hcount : Lib.countB ⟨l.toArray⟩ ⟨#[c]⟩ = l.count c := Lib.count_one c l
  rw [hcount] at h ⊢
  have h2 : Lib.splitK [c] 0 (l.count c) l = splitC c l := splitK_one c _ l rfl
  have h3 : (Lib.splitB ⟨#[c]⟩ 0 (l.count c) ⟨l.toArray⟩).map (·.data.toList) = splitC c l := h.trans h2
  rw [← h3, List.map_map]
  conv => lhs; rw [← List.map_id (Lib.splitB ⟨#[c]⟩ 0 (l.count c) ⟨l.toArray⟩)]
  apply List.map_congr_left
  intro x _
  exact (Lib.mk_data x).symm

theorem countB_one (c : UInt8) (l : Bs) : Lib.countB ⟨l.toArray⟩ ⟨#[c]⟩ + 1 = (splitC c l).length := by
  rw [splitC_count]
  congr 1
  exact Lib.count_one c l

/-- What stands up to the last place of a byte, that byte too; nothing, if it stands nowhere. -/
def uptoLast (c : UInt8) : Bs → Bs
  | [] => []
  | x :: l => if uptoLast c l ≠ [] then x :: uptoLast c l else if x = c then [c] else []

end Go.Proofs.YtignjjnflcpiiaaDoor
