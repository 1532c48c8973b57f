/-
  Addresses as plain data: what a text is read as, what one is written as. No program.
-/
import Derived.Test.YtignjjnflcpiiaaDoorScheme
namespace Go.Proofs.YtignjjnflcpiiaaDoor
open Go

structure Addr where
  scheme : Bs
  hasAuth : Bool
  auth : Bs
  path : Bs
  hasQuery : Bool
  query : Bs
  hasFrag : Bool
  frag : Bs
  deriving DecidableEq

def Addr.zero : Addr := ⟨[], false, [], [], false, [], false, []⟩
abbrev Addr.cells (a : Addr) : Array Value := #[.string ⟨a.scheme.toArray⟩, .bool a.hasAuth, .string ⟨a.auth.toArray⟩, .string ⟨a.path.toArray⟩, .bool a.hasQuery, .string ⟨a.query.toArray⟩, .bool a.hasFrag, .string ⟨a.frag.toArray⟩]
abbrev zCells : Array Value := #[.string ⟨#[]⟩, .bool false, .string ⟨#[]⟩, .string ⟨#[]⟩, .bool false, .string ⟨#[]⟩, .bool false, .string ⟨#[]⟩]
abbrev Addr.val (a : Addr) : Value := .agg a.cells

def okB (c : UInt8) : Bool := decide (33 ≤ c) && decide (c ≤ 126)

def parseScheme (l : Bs) : Bs × Bs := match cutP [58] l with
  | some (a, b) => if !a.isEmpty && schemeB a then (a, b) else ([], l)
  | none => ([], l)

def hasScheme (l : Bs) : Bool := match cutP [58] l with
  | some (a, _) => !a.isEmpty && schemeB a
  | none => false

def parseAuth (l : Bs) : Bool × Bs × Bs := if Lib.hasPrefix l [47, 47] then (match cutP [47] (l.drop 2) with
  | some (a, b) => (true, a, 47 :: b)
  | none => (true, l.drop 2, [])) else (false, [], l)

def parseA (l : Bs) : Addr :=
  let c1 := Lib.cut l [35]
  let c2 := Lib.cut c1.1 [63]
  let s := parseScheme c2.1
  let u := parseAuth s.2
  ⟨s.1, u.1, u.2.1, u.2.2, c2.2.2, c2.2.1, c1.2.2, c1.2.1⟩

def readA (l : Bs) : Option Addr := if l.all okB then some (parseA l) else none

def optB (b : Bool) (c : UInt8) (l : Bs) : Bs := if b then c :: l else []
/-- What an address is written as. -/
def writeA (a : Addr) : Bs :=
  (if a.scheme = [] then [] else a.scheme ++ [58]) ++ (if a.hasAuth then [47, 47] ++ a.auth else []) ++ a.path ++ (if a.hasQuery then [63] ++ a.query else []) ++ (if a.hasFrag then [35] ++ a.frag else [])

/-- k is where c stands first in l (below 0: nowhere). -/
def HasAt (l : Bs) (c : UInt8) (k : Int) : Prop := (k = -1 ∧ c ∉ l) ∨ ∃ a b, l = a ++ c :: b ∧ c ∉ a ∧ k = a.length

theorem hasAt_index (l : Bs) (c : UInt8) : HasAt l c (Lib.indexByte l c) := by
  rw [indexByte_cutP]
  cases h : cutP [c] l with
  | none => exact Or.inl ⟨rfl, cutC_none.1 h⟩
  | some x =>
    obtain ⟨a, b⟩ := x
    obtain ⟨e, hn⟩ := cutC_some h
    exact Or.inr ⟨a, b, e, hn, rfl⟩

theorem HasAt.le {l : Bs} {c : UInt8} {k : Int} (h : HasAt l c k) (h0 : 0 < k) : k + 1 ≤ l.length := by
  rcases h with ⟨rfl, _⟩ | ⟨a, b, rfl, _, rfl⟩
  · omega
  · simp; omega

theorem HasAt.yes {l : Bs} {k : Int} (h : HasAt l 58 k) (h0 : 0 < k) : hasScheme l = schemeB (l.take k.toNat) := by
  rcases h with ⟨rfl, _⟩ | ⟨a, b, rfl, hn, rfl⟩
  · omega
  · unfold hasScheme
    rw [cutC_mk hn]
    cases a with
    | nil => simp at h0
    | cons x a => simp

theorem HasAt.no {l : Bs} {k : Int} (h : HasAt l 58 k) (h0 : k ≤ 0) : hasScheme l = false := by
  rcases h with ⟨rfl, hn⟩ | ⟨a, b, rfl, hn, rfl⟩
  · unfold hasScheme; rw [cutC_none.2 hn]
  · unfold hasScheme
    rw [cutC_mk hn]
    cases a with
    | nil => rfl
    | cons x a => simp at h0; omega

theorem HasAt.pos {l : Bs} {k : Int} (h : HasAt l 58 k) (hb : hasScheme l = true) : 0 < k := by
  rcases Int.lt_or_le 0 k with h' | h'
  · exact h'
  · rw [h.no h'] at hb; cases hb

theorem HasAt.parse {l : Bs} {k : Int} (h : HasAt l 58 k) (hb : hasScheme l = true) : parseScheme l = (l.take k.toNat, l.drop (k + 1).toNat) := by
  have h0 := h.pos hb
  rcases h with ⟨rfl, hn⟩ | ⟨a, b, rfl, hn, rfl⟩
  · omega
  · unfold hasScheme at hb
    unfold parseScheme
    rw [cutC_mk hn] at hb ⊢
    simp only at hb ⊢
    rw [if_pos hb]
    have : ((a.length : Int) + 1).toNat = a.length + 1 := by omega
    rw [this]
    simp

theorem parseScheme_no {l : Bs} (hb : hasScheme l = false) : parseScheme l = ([], l) := by
  unfold hasScheme at hb
  unfold parseScheme
  cases hc : cutP [58] l with
  | none => rfl
  | some x => rw [hc] at hb; simp only at hb ⊢; rw [if_neg (by rw [hb]; simp)]

theorem HasAt.le' {l : Bs} {c : UInt8} {k : Int} (h : HasAt l c k) (h0 : 0 ≤ k) : k + 1 ≤ l.length := by
  rcases h with ⟨rfl, _⟩ | ⟨a, b, rfl, _, rfl⟩
  · omega
  · simp; omega

/-- What stands behind the two slashes. -/
def authRest (r : Bs) : Bool × Bs × Bs := match cutP [47] r with
  | some (a, b) => (true, a, 47 :: b)
  | none => (true, r, [])

theorem parseAuth_yes {l : Bs} (h : Lib.hasPrefix l [47, 47] = true) : parseAuth l = authRest (Lib.trimPrefix l [47, 47]) := by
  unfold parseAuth Lib.trimPrefix
  rw [if_pos h, if_pos h]; rfl
theorem parseAuth_no {l : Bs} (h : ¬ Lib.hasPrefix l [47, 47] = true) : parseAuth l = (false, [], l) := by
  unfold parseAuth
  rw [if_neg h]
theorem HasAt.auth_no {l : Bs} {k : Int} (h : HasAt l 47 k) (h0 : k < 0) : authRest l = (true, l, []) := by
  rcases h with ⟨rfl, hn⟩ | ⟨a, b, rfl, hn, rfl⟩
  · unfold authRest; rw [cutC_none.2 hn]
  · omega
theorem HasAt.auth_yes {l : Bs} {k : Int} (h : HasAt l 47 k) (h0 : 0 ≤ k) : authRest l = (true, l.take k.toNat, l.drop k.toNat) := by
  rcases h with ⟨rfl, hn⟩ | ⟨a, b, rfl, hn, rfl⟩
  · omega
  · unfold authRest; rw [cutC_mk hn]; simp
theorem parseA_eq {l s1 f s2 q sch s3 au p : Bs} {hf hq ha : Bool} (h1 : Lib.cut l [35] = (s1, f, hf)) (h2 : Lib.cut s1 [63] = (s2, q, hq)) (h3 : parseScheme s2 = (sch, s3)) (h4 : parseAuth s3 = (ha, au, p)) : parseA l = ⟨sch, ha, au, p, hq, q, hf, f⟩ := by
  simp only [parseA, h1, h2, h3, h4]

theorem okB_no {c : UInt8} (h : ¬ ((33 : Int) ≤ c.toNat ∧ (c.toNat : Int) ≤ 126)) : okB c = false := by
  unfold okB
  rw [Bool.and_eq_false_iff]
  simp only [decide_eq_false_iff_not, UInt8.le_iff_toNat_le]
  simp
  omega
theorem okB_yes {c : UInt8} (h1 : (33 : Int) ≤ c.toNat) (h2 : (c.toNat : Int) ≤ 126) : okB c = true := by
  unfold okB
  rw [Bool.and_eq_true]
  simp only [decide_eq_true_eq, UInt8.le_iff_toNat_le]
  simp
  omega
theorem okB_iff {c : UInt8} : okB c = true ↔ (33 : Int) ≤ c.toNat ∧ (c.toNat : Int) ≤ 126 := by
  constructor
  · intro h
    rcases Classical.em ((33 : Int) ≤ c.toNat ∧ (c.toNat : Int) ≤ 126) with h' | h'
    · exact h'
    · rw [okB_no h'] at h; cases h
  · exact fun h => okB_yes h.1 h.2

theorem cut_le (l p : Bs) : (Lib.cut l p).1.length ≤ l.length ∧ (Lib.cut l p).2.1.length ≤ l.length := by
  rw [cut_cutP]
  cases h : cutP p l with
  | none => simp
  | some x =>
    obtain ⟨a, b⟩ := x
    have := cutP_some h
    rw [this]
    simp; omega

theorem all_take_succ {l : Bs} {k : Nat} (p : UInt8 → Bool) (h : k < l.length) (h1 : (l.take k).all p = true) (h2 : p l[k] = true) : (l.take (k + 1)).all p = true := by
  rw [List.take_succ_eq_append_getElem h, List.all_append, h1]
  simp [h2]
theorem all_at_false {l : Bs} {k : Nat} (p : UInt8 → Bool) (h : k < l.length) (h2 : p l[k] = false) : l.all p = false := by
  rw [Bool.eq_false_iff]
  intro h'
  have := List.all_eq_true.1 h' l[k] (List.getElem_mem h)
  rw [this] at h2; cases h2

end Go.Proofs.YtignjjnflcpiiaaDoor
