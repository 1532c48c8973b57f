/- Plain words on lists of bytes: cutting at a text, cutting at all places of a byte; how they stand to the words of the shelf. No program, no condition; What package text computes, as plain data: base64 and quoted-printable. No program, no condition; Small laws on worlds that the walks of this seat sh. -/
import Derived.Deep.DeepCutAuto
import Derived.Handy
import Derived.Laws.IdiomStrings
import Derived.Lib.CutLaws
import Derived.Lib.Hide
import Derived.Lib.IndexAny
import Derived.Lib.IndexLaws
import Derived.Lib.IndexMore
import Derived.Lib.LastIndexByte
import Derived.Lib.SlTrimSet
import Derived.Lib.SplitLaws
import Derived.Lib.Strings
import Derived.RowKit
import Derived.WalkKit
import Derived.WalkLawsBesides
import Derived.WalkSpells
import Derived.Test.YtignjjnflcpiiaaGreatDoorProg
namespace Go.Proofs.YtignjjnflcpiiaaGreatDoor
open Go
abbrev Bs := List UInt8
def cutP (p : Bs) : Bs → Option (Bs × Bs)
  | [] => if p = [] then some ([], []) else none
  | c :: l => if p.isPrefixOf (c :: l) then some ([], (c :: l).drop p.length) else (cutP p l).map fun x => (c :: x.1, x.2)
theorem isPrefixOf_append (p : Bs) (l : Bs) (h : p.isPrefixOf l = true) : l = p ++ l.drop p.length := by
  obtain ⟨t, rfl⟩ := List.isPrefixOf_iff_prefix.1 h
  simp
theorem cutP_some {p l a b : Bs} (h : cutP p l = some (a, b)) : l = a ++ p ++ b := by
  induction l generalizing a with
  | nil =>
    unfold cutP at h
    split at h
    · rename_i hp; simp at h; simp [h.1, ← h.2, hp]
    · cases h
  | cons c l ih =>
    unfold cutP at h
    split at h
    · rename_i hp
      simp at h
      obtain ⟨rfl, rfl⟩ := h
      simpa using isPrefixOf_append p _ hp
    · cases hc : cutP p l with
      | none => simp [hc] at h
      | some x =>
        obtain ⟨x1, x2⟩ := x
        simp [hc] at h
        obtain ⟨rfl, rfl⟩ := h
        simp [ih hc]
theorem index_cutP (p l : Bs) : Lib.index l p = match cutP p l with | none => -1 | some x => (x.1.length : Int) := by
  induction l with
  | nil => by_cases h : p = [] <;> simp [Lib.index, cutP, h]
  | cons c l ih =>
    unfold Lib.index cutP
    by_cases h : p.isPrefixOf (c :: l) = true
    · simp [h]
    · simp only [h, if_false, Bool.false_eq_true, ih]
      cases cutP p l with
      | none => simp
      | some x =>
        have : ¬ ((x.1.length : Int) = -1) := by omega
        simp [this]
theorem cut_cutP (p l : Bs) : Lib.cut l p = match cutP p l with | none => (l, [], false) | some x => (x.1, x.2, true) := by
  unfold Lib.cut
  rw [index_cutP]
  cases h : cutP p l with
  | none => simp
  | some x =>
    obtain ⟨a, b⟩ := x
    have := cutP_some h
    simp [this]
theorem indexByte_cutP (c : UInt8) (l : Bs) : Lib.indexByte l c = match cutP [c] l with | none => -1 | some x => (x.1.length : Int) := by
  induction l with
  | nil => simp [Lib.indexByte, cutP]
  | cons b l ih =>
    unfold Lib.indexByte cutP
    by_cases h : b = c
    · subst h; simp [List.isPrefixOf]
    · have h1 : (b == c) = false := by simpa using h
      have h2 : [c].isPrefixOf (b :: l) = false := by simp [List.isPrefixOf]; exact fun e => h e.symm
      simp only [h1, h2, if_false, Bool.false_eq_true, ih]
      cases cutP [c] l with
      | none => simp
      | some x =>
        have : ¬ ((x.1.length : Int) = -1) := by omega
        simp [this]
theorem cutC_none {c : UInt8} {l : Bs} : cutP [c] l = none ↔ c ∉ l := by
  induction l with
  | nil => simp [cutP]
  | cons b l ih =>
    unfold cutP
    by_cases h : b = c
    · subst h; simp [List.isPrefixOf]
    · have h2 : [c].isPrefixOf (b :: l) = false := by simp [List.isPrefixOf]; exact fun e => h e.symm
      simp [h2, ih]
      exact fun _ e => h e.symm
theorem cutC_some {c : UInt8} {l a b : Bs} (h : cutP [c] l = some (a, b)) : l = a ++ c :: b ∧ c ∉ a := by
  refine ⟨by simpa using cutP_some h, ?_⟩
  induction l generalizing a with
  | nil => simp [cutP] at h
  | cons x l ih =>
    unfold cutP at h
    by_cases e : x = c
    · subst e; simp [List.isPrefixOf] at h; simp [h.1]
    · have h2 : [c].isPrefixOf (x :: l) = false := by simp [List.isPrefixOf]; exact fun e' => e e'.symm
      cases hc : cutP [c] l with
      | none => simp [h2, hc] at h
      | some y =>
        obtain ⟨y1, y2⟩ := y
        simp [h2, hc] at h
        obtain ⟨rfl, rfl⟩ := h
        simp only [List.mem_cons, not_or]
        exact ⟨fun e' => e e'.symm, ih hc⟩
theorem cutC_mk {c : UInt8} {a b : Bs} (h : c ∉ a) : cutP [c] (a ++ c :: b) = some (a, b) := by
  induction a with
  | nil => simp [cutP, List.isPrefixOf]
  | cons x a ih =>
    simp only [List.mem_cons, not_or] at h
    have h2 : [c].isPrefixOf (x :: (a ++ c :: b)) = false := by simp [List.isPrefixOf]; exact h.1
    simp [cutP, h2, ih h.2]
def splitC (c : UInt8) : Bs → List Bs
  | [] => [[]]
  | x :: l => if x = c then [] :: splitC c l else match splitC c l with | [] => [[x]] | h :: t => (x :: h) :: t
theorem splitC_ne (c : UInt8) (l : Bs) : splitC c l ≠ [] := by
  cases l with
  | nil => simp [splitC]
  | cons x l => unfold splitC; split; · simp
                · split <;> simp
theorem splitC_none {c : UInt8} {l : Bs} (h : c ∉ l) : splitC c l = [l] := by
  induction l with
  | nil => rfl
  | cons x l ih =>
    simp only [List.mem_cons, not_or] at h
    have hx : ¬ x = c := fun e => h.1 e.symm
    simp [splitC, hx, ih h.2]
theorem splitC_app {c : UInt8} {a b : Bs} (h : c ∉ a) : splitC c (a ++ c :: b) = a :: splitC c b := by
  induction a with
  | nil => simp [splitC]
  | cons x a ih =>
    simp only [List.mem_cons, not_or] at h
    have hx : ¬ x = c := fun e => h.1 e.symm
    simp [splitC, hx, ih h.2]
theorem splitC_count (c : UInt8) (l : Bs) : (splitC c l).length = l.count c + 1 := by
  induction l with
  | nil => rfl
  | cons x l ih =>
    unfold splitC
    by_cases h : x = c
    · subst h; simp [ih]
    · simp only [h, if_false]
      have hc : (x :: l).count c = l.count c := by rw [List.count_cons]; simp [h]
      rw [hc]
      split
      · rename_i e; exact absurd e (splitC_ne c l)
      · rename_i hd t e; rw [e] at ih; simpa using ih
theorem splitK_one (c : UInt8) : ∀ (n : Nat) (l : Bs), l.count c = n → Lib.splitK [c] 0 n l = splitC c l
  | 0, l, h => by
    rw [splitC_none (List.count_eq_zero.1 h)]; rfl
  | n + 1, l, h => by
    unfold Lib.splitK
    rw [index_cutP]
    cases hc : cutP [c] l with
    | none => rw [cutC_none] at hc; have := List.count_eq_zero.2 hc; omega
    | some x =>
      obtain ⟨a, b⟩ := x
      obtain ⟨e, hn⟩ := cutC_some hc
      have h1 : ((a.length : Int) == -1) = false := by rw [beq_eq_false_iff_ne]; omega
      simp only [h1, Bool.false_eq_true, if_false]
      have hb : b.count c = n := by
        rw [e, List.count_append, List.count_eq_zero.2 hn] at h
        simp at h; omega
      rw [e, splitC_app hn]
      simp
      have := splitK_one c n b hb
      simpa using this
theorem split_one (c : UInt8) (l : Bs) : Lib.splitB ⟨#[c]⟩ 0 (Lib.countB ⟨l.toArray⟩ ⟨#[c]⟩) ⟨l.toArray⟩ = (splitC c l).map fun x => (⟨x.toArray⟩ : ByteArray) := by
  have h := Lib.splitB_data ⟨#[c]⟩ 0 (Lib.countB ⟨l.toArray⟩ ⟨#[c]⟩) ⟨l.toArray⟩
  have hcount : Lib.countB ⟨l.toArray⟩ ⟨#[c]⟩ = l.count c := Lib.count_one c l
  rw [hcount] at h ⊢
  have h2 : Lib.splitK [c] 0 (l.count c) l = splitC c l := splitK_one c _ l rfl
  have h3 : (Lib.splitB ⟨#[c]⟩ 0 (l.count c) ⟨l.toArray⟩).map (·.data.toList) = splitC c l := h.trans h2
  rw [← h3, List.map_map]
  conv => lhs; rw [← List.map_id (Lib.splitB ⟨#[c]⟩ 0 (l.count c) ⟨l.toArray⟩)]
  apply List.map_congr_left
  intro x _
  exact (Lib.mk_data x).symm
theorem countB_one (c : UInt8) (l : Bs) : Lib.countB ⟨l.toArray⟩ ⟨#[c]⟩ + 1 = (splitC c l).length := by
  rw [splitC_count]
  congr 1
  exact Lib.count_one c l
def b64 : Bs := [65, 66, 67, 68, 69, 70, 71, 72, 73, 74, 75, 76, 77, 78, 79, 80, 81, 82, 83, 84, 85, 86, 87, 88, 89, 90, 97, 98, 99, 100, 101, 102, 103, 104, 105, 106, 107, 108, 109, 110, 111, 112, 113, 114, 115, 116, 117, 118, 119, 120, 121, 122, 48, 49, 50, 51, 52, 53, 54, 55, 56, 57, 43, 47]
def L64 (n : Nat) : UInt8 := b64.getD n 0
def quad (v : Nat) (n : Nat) : Bs := [L64 (v / 262144 % 64), L64 (v / 4096 % 64), if 2 ≤ n then L64 (v / 64 % 64) else 61, if 3 ≤ n then L64 (v % 64) else 61]
def packL : Bs → Nat → Bs
  | [], _ => []
  | [a], _ => quad (a.toNat * 65536) 1 ++ [13, 10]
  | [a, b], _ => quad (a.toNat * 65536 + b.toNat * 256) 2 ++ [13, 10]
  | a :: b :: c :: l, n => quad (a.toNat * 65536 + b.toNat * 256 + c.toNat) 3 ++ (if n + 4 = 76 ∨ l = [] then [13, 10] ++ packL l 0 else packL l (n + 4))
def packT (b : Bs) : Bs := packL b 0
theorem quad_length (v n : Nat) : (quad v n).length = 4 := rfl
theorem packL_length : ∀ (b : Bs) (n : Nat), (packL b n).length ≤ 6 * b.length
  | [], _ => by simp [packL]
  | [a], _ => by simp [packL, quad_length]
  | [a, b], _ => by simp [packL, quad_length]
  | a :: b :: c :: l, n => by
    unfold packL
    split
    · have := packL_length l 0; simp [quad_length]; omega
    · have := packL_length l (n + 4); simp [quad_length]; omega
theorem packT_length (b : Bs) : (packT b).length ≤ 6 * b.length := packL_length b 0
def gapB (c : UInt8) : Bool := c == 13 || c == 10 || c == 32 || c == 9
def idx64 (c : UInt8) : Int := Lib.indexByte b64 c
def unpackK (c : UInt8) (n pads : Nat) : Option (Nat × Nat) :=
  if c = 61 ∧ 2 ≤ n % 4 then some (0, pads + 1) else if idx64 c < 0 ∨ 0 < pads then none else some ((idx64 c).toNat, pads)
def unpackE (v n p : Nat) : Option (Bs × Nat × Nat × Nat) :=
  if 0 < n % 4 then some ([], v, n, p)
  else if p = 1 ∧ v % 256 ≠ 0 ∨ p = 2 ∧ v % 65536 ≠ 0 then none
  else some ([(v / 65536).toUInt8, (v / 256).toUInt8, v.toUInt8].take (3 - p), 0, n, p)
def unpackS (c : UInt8) (v n pads : Nat) : Option (Bs × Nat × Nat × Nat) :=
  if gapB c then some ([], v, n, pads) else match unpackK c n pads with
    | none => none
    | some (k, p) => unpackE (v * 64 + k) (n + 1) p
def unpackL : Bs → Nat → Nat → Nat → Option Bs
  | [], _, n, _ => if 0 < n % 4 then none else some []
  | c :: l, v, n, p => match unpackS c v n p with
    | none => none
    | some (o, v', n', p') => (unpackL l v' n' p').map (o ++ ·)
def unpackT (s : Bs) : Option Bs := unpackL s 0 0 0
def PadOk (v n p : Nat) : Prop := p ≤ 2 ∧ (n % 4 = 1 → p = 0) ∧ (n % 4 = 2 → p = 0) ∧ (n % 4 = 3 → p ≤ 1) ∧ v < 262144 ∧ (n % 4 = 0 → v = 0) ∧ (n % 4 = 1 → v < 64) ∧ (n % 4 = 2 → v < 4096)
theorem idx64_all : ((List.range 256).all fun n => decide (-1 ≤ idx64 n.toUInt8) && decide (idx64 n.toUInt8 < 64)) = true := by kernel_rfl
theorem idx64_bd (c : UInt8) : -1 ≤ idx64 c ∧ idx64 c < 64 := by
  have := List.all_eq_true.1 idx64_all c.toNat (List.mem_range.2 c.toNat_lt)
  rw [show c.toNat.toUInt8 = c by simp] at this
  simpa using this
def plainQ (c : UInt8) : Bool := decide (33 ≤ c) && decide (c ≤ 126) && c != 61
def hexU (n : Nat) : UInt8 := ([48, 49, 50, 51, 52, 53, 54, 55, 56, 57, 65, 66, 67, 68, 69, 70] : Bs).getD n 0
def pieceQ (c : UInt8) (last : Bool) : Bs := if plainQ c || (c == 32 || c == 9) && !last then [c] else [61, hexU (c.toNat / 16), hexU (c.toNat % 16)]
def escQ (c : UInt8) (last : Bool) : Bool := !(plainQ c) && ((c != 32 && c != 9) || last)
theorem pieceQ_esc (c : UInt8) (last : Bool) : pieceQ c last = if escQ c last then [61, hexU (c.toNat / 16), hexU (c.toNat % 16)] else [c] := by
  unfold pieceQ escQ
  cases plainQ c <;> cases h1 : (c == 32) <;> cases h2 : (c == 9) <;> cases last <;> simp [bne, h1, h2]
def quoteL : Bs → Nat → Bs
  | [], _ => []
  | c :: l, n => if n + (pieceQ c l.isEmpty).length > (if l.isEmpty then 76 else 75) then [61, 13, 10] ++ pieceQ c l.isEmpty ++ quoteL l (pieceQ c l.isEmpty).length
    else pieceQ c l.isEmpty ++ quoteL l (n + (pieceQ c l.isEmpty).length)
def quoteT (b : Bs) : Bs := quoteL b 0
theorem pieceQ_length (c : UInt8) (b : Bool) : 1 ≤ (pieceQ c b).length ∧ (pieceQ c b).length ≤ 3 := by
  unfold pieceQ; split <;> simp
theorem quoteL_length : ∀ (b : Bs) (n : Nat), (quoteL b n).length ≤ 6 * b.length
  | [], _ => by simp [quoteL]
  | c :: l, n => by
    have h := pieceQ_length c l.isEmpty
    unfold quoteL
    generalize (if l.isEmpty = true then 76 else 75) = room
    split
    · have := quoteL_length l (pieceQ c l.isEmpty).length; simp; omega
    · have := quoteL_length l (n + (pieceQ c l.isEmpty).length); simp; omega
theorem quoteT_length (b : Bs) : (quoteT b).length ≤ 6 * b.length := quoteL_length b 0
def digitV (c : UInt8) : Int := if 48 ≤ c ∧ c ≤ 57 then (c.toNat : Int) - 48 else if 65 ≤ c ∧ c ≤ 70 then (c.toNat : Int) - 65 + 10 else if 97 ≤ c ∧ c ≤ 102 then (c.toNat : Int) - 97 + 10 else -1
theorem digitV_all : ((List.range 256).all fun n => decide (-1 ≤ digitV n.toUInt8) && decide (digitV n.toUInt8 < 16)) = true := by kernel_rfl
theorem digitV_bd (c : UInt8) : -1 ≤ digitV c ∧ digitV c < 16 := by
  have := List.all_eq_true.1 digitV_all c.toNat (List.mem_range.2 c.toNat_lt)
  rw [show c.toNat.toUInt8 = c by simp] at this
  simpa using this
def stands (c : UInt8) : Bool := plainQ c || c == 32 || c == 9
def unqS : Bs → Option (UInt8 × Bs)
  | 61 :: a :: b :: l => if 0 ≤ digitV a ∧ 0 ≤ digitV b then some ((digitV a * 16 + digitV b).toNat.toUInt8, l) else none
  | c :: l => if stands c then some (c, l) else none
  | [] => none
theorem unqS_lt {x y : Bs} {c : UInt8} (h : unqS x = some (c, y)) : y.length < x.length := by
  unfold unqS at h
  split at h
  · split at h
    · simp at h; simp [← h.2]; omega
    · cases h
  · split at h
    · simp at h; simp [← h.2]
    · cases h
  · cases h
def unqF : Nat → Bs → Option Bs
  | _, [] => some []
  | 0, _ => none
  | k + 1, x => match unqS x with
    | none => none
    | some (c, y) => (unqF k y).map (c :: ·)
def unqL (x : Bs) : Option Bs := unqF x.length x
theorem unqF_more : ∀ (k m : Nat) (x : Bs), x.length ≤ k → x.length ≤ m → unqF k x = unqF m x
  | _, _, [], _, _ => by simp [unqF]
  | 0, _, c :: l, h, _ => by simp at h
  | _, 0, c :: l, _, h => by simp at h
  | k + 1, m + 1, c :: l, h1, h2 => by
    unfold unqF
    cases hs : unqS (c :: l) with
    | none => rfl
    | some r =>
      obtain ⟨d, y⟩ := r
      have := unqS_lt hs
      simp only
      rw [unqF_more k m y (by simp at *; omega) (by simp at *; omega)]
theorem unqL_cons {x : Bs} (h : x ≠ []) : unqL x = match unqS x with | none => none | some (c, y) => (unqL y).map (c :: ·) := by
  cases x with
  | nil => exact absurd rfl h
  | cons a l =>
    unfold unqL
    rw [show (a :: l).length = l.length + 1 from rfl]
    conv => lhs; unfold unqF
    cases hs : unqS (a :: l) with
    | none => rfl
    | some r =>
      obtain ⟨d, y⟩ := r
      have := unqS_lt hs
      simp only
      rw [unqF_more l.length y.length y (by simp at this; omega) (Nat.le_refl _)]
def softOf (x : Bs) : Bool := Lib.hasSuffix (Lib.trimRightS x [32, 9]) [61]
def bareOf (x : Bs) : Bs := Lib.trimSuffix (Lib.trimRightS x [32, 9]) [61]
def unqLines : List Bs → Option Bs
  | [] => some []
  | x :: xs => match unqL (bareOf x) with
    | none => none
    | some a => (unqLines xs).map (a ++ (if softOf x || xs.isEmpty then [] else [13, 10]) ++ ·)
def unquoteT (s : Bs) : Option Bs := unqLines (Lib.split s [13, 10])
theorem splitK_mem (p : Bs) : ∀ (n : Nat) (s x : Bs), x ∈ Lib.splitK p 0 n s → x.length ≤ s.length
  | 0, s, x, h => by simp [Lib.splitK] at h; rw [h]; exact Nat.le_refl _
  | n + 1, s, x, h => by
    unfold Lib.splitK at h
    split at h
    · simp at h; rw [h]; exact Nat.le_refl _
    · rcases List.mem_cons.1 h with h | h
      · rw [h]; simp; omega
      · have := splitK_mem p n _ x h
        simp at this; omega
theorem trimR_le (x cs : Bs) : (Lib.trimRightS x cs).length ≤ x.length := by
  unfold Lib.trimRightS
  rw [List.length_reverse]
  have := (List.dropWhile_sublist (fun c => cs.contains c) (l := x.reverse)).length_le
  simpa using this
theorem bareOf_le (x : Bs) : (bareOf x).length ≤ x.length := by
  have h1 : (Lib.trimRightS x [32, 9]).length ≤ x.length := by
    unfold Lib.trimRightS
    rw [List.length_reverse]
    have := (List.dropWhile_sublist (fun c => ([32, 9] : Bs).contains c) (l := x.reverse)).length_le
    simpa using this
  unfold bareOf Lib.trimSuffix
  split
  · simp; omega
  · exact h1
end Go.Proofs.YtignjjnflcpiiaaGreatDoor
namespace Go.Proofs.YtignjjnflcpiiaaGreatDoor
open Go.RowKit
theorem ret_bool {a b : Bool} (h : a = b) : Ending.returned (.bool a) = .returned (.bool b) := by rw [h]
theorem ret_int {k : IntKind} {a b : Int} (h : a = b) : Ending.returned (.int k a) = .returned (.int k b) := by rw [h]
theorem ret_str {a b : List UInt8} (h : a = b) : Ending.returned (.string ⟨a.toArray⟩) = .returned (.string ⟨b.toArray⟩) := by rw [h]
@[go_sem] theorem ba_get (l : List UInt8) (k : Nat) (h : k < (⟨l.toArray⟩ : ByteArray).size) : (⟨l.toArray⟩ : ByteArray)[k]'h = l[k]'h := rfl
@[go_sem] theorem ba_extract (l : List UInt8) (a b : Nat) : (⟨l.toArray⟩ : ByteArray).extract a b = ⟨((l.drop a).take (b - a)).toArray⟩ := Lib.extract_eq _ _ _
@[go_sem] theorem take_rest (l : List UInt8) (a : Nat) : (l.drop a).take (l.length - a) = l.drop a := List.take_of_length_le (by simp)
@[go_sem] theorem ba_append (a b : List UInt8) : (⟨a.toArray⟩ : ByteArray) ++ ⟨b.toArray⟩ = ⟨(a ++ b).toArray⟩ := by
  apply ByteArray.ext
  rw [ByteArray.data_append]
  simp
theorem addr_add0 (b j : Nat) : (⟨b, 0, none⟩ : Addr).add j = ⟨b, j, none⟩ := by
  unfold Addr.add
  split
  · rename_i h; rw [h]
  · simp
theorem belowStep {w0 W w1 : World} (hb : Below W.heap.size W w1) (K : Below w0.heap.size w0 W) : Below w0.heap.size w0 w1 := K.trans (hb.mono K.size)
def Blk (w : World) (b : Nat) (c : Array Value) (t : TypeId) : Prop := w.heap[b]? = some (.cells c t (0, 0))
theorem Blk.cell {w : World} {b : Nat} {c : Array Value} {t : TypeId} (h : Blk w b c t) (j : Nat) : w.cell? ⟨b, j, none⟩ = c[j]? := by
  unfold Blk at h; simp [World.cell?, h]
theorem Blk.free {w : World} {b : Nat} {c : Array Value} {t : TypeId} (h : Blk w b c t) (j : Nat) : w.frozen? ⟨b, j, none⟩ = false := by
  unfold Blk at h; simp [World.frozen?, h]
theorem Blk.lt {w : World} {b : Nat} {c : Array Value} {t : TypeId} (h : Blk w b c t) : b < w.heap.size := by
  unfold Blk at h
  rcases Nat.lt_or_ge b w.heap.size with h' | h'
  · exact h'
  · simp [Array.getElem?_eq_none h'] at h
theorem Blk.next {w w' : World} {b B : Nat} {c : Array Value} {t : TypeId} (h : Blk w b c t) (hb : Below B w w') (hlt : b < B) : Blk w' b c t := (hb.block b hlt).trans h
theorem Blk.set {w : World} {b : Nat} {c : Array Value} {t : TypeId} (h : Blk w b c t) (j : Nat) (v : Value) : Blk (w.setCell ⟨b, j, none⟩ v) b (c.setIfInBounds j v) t := by
  unfold Blk at h ⊢; simp [World.setCell, Array.getElem?_modify, h]
theorem Blk.setO {w : World} {b : Nat} {c : Array Value} {t : TypeId} (h : Blk w b c t) {a : Addr} (ha : b ≠ a.block) (v : Value) : Blk (w.setCell a v) b c t := (Below.heap_setCell w a v b ha).trans h
theorem Blk.alloc {w : World} {b : Nat} {c : Array Value} {t : TypeId} (h : Blk w b c t) (o : Obj) : Blk (w.alloc o) b c t := (Below.heap_alloc w o b h.lt).trans h
theorem Blk.drew {w : World} {b : Nat} {c : Array Value} {t : TypeId} (h : Blk w b c t) : Blk w.drew b c t := h
theorem Blk.new (w : World) (c : Array Value) (t : TypeId) : Blk (w.alloc (.cells c t)) w.heap.size c t := heap_alloc_new w _
def ByteRow (w : World) (b : Nat) (l : List UInt8) : Prop :=
  ∃ C t lo hi, w.heap[b]? = some (.cells C t (lo, hi)) ∧ l.length ≤ lo ∧ ∀ j (h : j < l.length), C[j]? = some (.int .u8 (l[j].toNat : Int))
theorem ByteRow.cell {w : World} {b : Nat} {l : List UInt8} (h : ByteRow w b l) {j : Nat} (hj : j < l.length) : w.cell? ⟨b, j, none⟩ = some (.int .u8 (l[j].toNat : Int)) := by
  obtain ⟨C, t, lo, hi, hb, hlo, hc⟩ := h
  simp [World.cell?, hb, hc j hj]
theorem ByteRow.frozen {w : World} {b : Nat} {l : List UInt8} (h : ByteRow w b l) {j : Nat} (hj : j < l.length) : w.frozen? ⟨b, j, none⟩ = false := by
  obtain ⟨C, t, lo, hi, hb, hlo, hc⟩ := h
  simp only [World.frozen?, hb]
  simp; omega
theorem ByteRow.lt {w : World} {b : Nat} {l : List UInt8} (h : ByteRow w b l) : b < w.heap.size := by
  obtain ⟨C, t, lo, hi, hb, _⟩ := h
  rcases Nat.lt_or_ge b w.heap.size with h' | h'
  · exact h'
  · simp [Array.getElem?_eq_none h'] at hb
theorem ByteRow.of_block {w w' : World} {b : Nat} {l : List UInt8} (h : ByteRow w b l) (e : w'.heap[b]? = w.heap[b]?) : ByteRow w' b l := by
  unfold ByteRow at h ⊢
  rw [e]; exact h
theorem ByteRow.below {w w' : World} {b B : Nat} {l : List UInt8} (h : ByteRow w b l) (hb : Below B w w') (hlt : b < B) : ByteRow w' b l := h.of_block (hb.block b hlt)
theorem ByteRow.set {w : World} {b : Nat} {l : List UInt8} (h : ByteRow w b l) (j : Nat) (c : UInt8) : ByteRow (w.setCell ⟨b, j, none⟩ (.int .u8 (c.toNat : Int))) b (l.set j c) := by
  obtain ⟨C, t, lo, hi, hb, hlo, hc⟩ := h
  refine ⟨C.setIfInBounds j (.int .u8 (c.toNat : Int)), t, lo, hi, ?_, by simpa using hlo, ?_⟩
  · simp [World.setCell, Array.getElem?_modify, hb]
  · intro i hi'
    have hi2 : i < l.length := by simpa using hi'
    rw [Array.getElem?_setIfInBounds]
    by_cases e : j = i
    · subst e
      have : j < C.size := by
        rcases Nat.lt_or_ge j C.size with h' | h'
        · exact h'
        · have := hc j hi2; rw [Array.getElem?_eq_none h'] at this; cases this
      simp [this]
    · simp [e, hc i hi2, List.getElem_set_ne e]
theorem byteRow_conv (w : World) (l : List UInt8) (cap e : Nat) : ByteRow (w.alloc (.cells (bytesRow ⟨l.toArray⟩ cap) e ((bytesRow ⟨l.toArray⟩ cap).size, (bytesRow ⟨l.toArray⟩ cap).size + 1))) w.heap.size l := by
  refine ⟨_, e, _, _, heap_alloc_new w _, ?_, ?_⟩
  · simp [bytesRow]
  · intro j hj
    rw [bytesRow_at _ _ _ (by simpa using hj)]
    simp
def lowC (c : UInt8) : UInt8 := if 65 ≤ c ∧ c ≤ 90 then c + 32 else c
def lowS (l : List UInt8) : List UInt8 := l.map lowC
def lowUpto (l : List UInt8) (k : Nat) : List UInt8 := (l.take k).map lowC ++ l.drop k
theorem lowUpto_zero (l : List UInt8) : lowUpto l 0 = l := by simp [lowUpto]
theorem lowUpto_all (l : List UInt8) : lowUpto l l.length = lowS l := by simp [lowUpto, lowS]
theorem lowUpto_length (l : List UInt8) (k : Nat) : (lowUpto l k).length = l.length := by simp [lowUpto]; omega
theorem lowUpto_at (l : List UInt8) (k : Nat) (h : k < l.length) : (lowUpto l k)[k]'(by rw [lowUpto_length]; exact h) = l[k] := by
  simp [lowUpto, Nat.min_eq_left (Nat.le_of_lt h)]
theorem lowUpto_succ (l : List UInt8) (k : Nat) (h : k < l.length) : lowUpto l (k + 1) = (lowUpto l k).set k (lowC l[k]) := by
  unfold lowUpto
  rw [List.set_append, List.length_map, List.length_take, Nat.min_eq_left (Nat.le_of_lt h), if_neg (Nat.lt_irrefl k), Nat.sub_self, List.drop_eq_getElem_cons h, List.take_succ_eq_append_getElem h, List.set_cons_zero, List.map_append, List.append_assoc]
  rfl
theorem lowUpto_skip (l : List UInt8) (k : Nat) (h : k < l.length) (e : lowC l[k] = l[k]) : lowUpto l (k + 1) = lowUpto l k := by
  rw [lowUpto_succ l k h, e, ← lowUpto_at l k h, List.set_getElem_self]
theorem lowC_yes (c : UInt8) (h1 : (65 : Int) ≤ c.toNat) (h2 : (c.toNat : Int) ≤ 90) : ((c.toNat : Int) + 32) = ((lowC c).toNat : Int) := by
  have h3 : 65 ≤ c.toNat := by omega
  have h4 : c.toNat ≤ 90 := by omega
  unfold lowC
  rw [if_pos ⟨UInt8.le_iff_toNat_le.2 h3, UInt8.le_iff_toNat_le.2 h4⟩, UInt8.toNat_add]
  simp; omega
theorem lowC_no (c : UInt8) (h : ¬ ((65 : Int) ≤ c.toNat ∧ (c.toNat : Int) ≤ 90)) : lowC c = c := by
  unfold lowC
  rw [if_neg]
  rintro ⟨h1, h2⟩
  have := UInt8.le_iff_toNat_le.1 h1
  have := UInt8.le_iff_toNat_le.1 h2
  simp at *; omega
set_option maxHeartbeats 400000 in
theorem small_any (l : List UInt8) (w : World) (hl : l.length ≤ 140737488355328) :
    Calls Tryz.prog 42 #[.string ⟨l.toArray⟩] w fun e w' => e = .returned (.string ⟨(lowS l).toArray⟩) ∧ Below w.heap.size w w' := by
  have hcv := fun w => run_bytes_of_string (P := Tryz.prog) w 9 126 5 ⟨l.toArray⟩ Tryz.underlying9 Tryz.underlying126 Tryz.underlying5
  go_enter Tryz.func42, Tryz.ntmps42
  go_wp2
  go_loopw [10] (fun i wr => ∃ k : Nat, k ≤ l.length ∧ i = .int .i64 k ∧ ByteRow wr w.heap.size (lowUpto l k) ∧ Below w.heap.size w wr) (fun i _ => l.length - (intOf i).toNat)
  case atStart => exact ⟨0, Nat.zero_le _, rfl, by rw [lowUpto_zero]; exact byteRow_conv w l _ _, ((Below.refl _ _).alloc (Nat.le_refl _) _).drew⟩
  case round =>
    obtain ⟨k, hk, rfl, hrow, hbel⟩ := hrel
    by_cases hlt : k < l.length
    · have hc := hrow.cell (j := k) (by rw [lowUpto_length]; exact hlt)
      have hf := hrow.frozen (j := k) (by rw [lowUpto_length]; exact hlt)
      rw [lowUpto_at l k hlt] at hc
      go_wp2
      · have h1 : (65 : Int) ≤ l[k].toNat := by assumption
        have h2 : (l[k].toNat : Int) ≤ 90 := by assumption
        go_roundw
        case rel =>
          refine ⟨k + 1, by omega, by go_num, ?_, hbel.setCell (Nat.le_refl _) _⟩
          rw [lowC_yes _ h1 h2, lowUpto_succ l k hlt]
          exact hrow.set k _
        case measure => simp [intOf]; omega
      all_goals
        go_roundw
        case rel => exact ⟨k + 1, by omega, by go_num, by rw [lowUpto_skip l k hlt (lowC_no _ (by omega))]; exact hrow, hbel⟩
        case measure => simp [intOf]; omega
    · obtain rfl : k = l.length := by omega
      rw [lowUpto_all] at hrow
      have hcb := run_convert_bytes_back (P := Tryz.prog) wr 126 9 5 ⟨w.heap.size, 0, none⟩ (grownCap w l.length 0 5) (lowS l) Tryz.underlying126 Tryz.underlying5 Tryz.underlying9
        (fun j hj => by rw [addr_add0]; exact hrow.cell hj)
      rw [show (lowS l).length = l.length from by simp [lowS]] at hcb
      clear hrow
      go_wp2
      go_ret
      exact ⟨rfl, hbel⟩
end Go.Proofs.YtignjjnflcpiiaaGreatDoor
namespace Go.Proofs.YtignjjnflcpiiaaGreatDoor
open Go
abbrev Fld := Bs × Bs
def nameC (c : UInt8) : Bool := decide (33 ≤ c) && decide (c ≤ 126) && c != 58
def nameB (s : Bs) : Bool := s.all nameC && !s.isEmpty
def saysC (c : UInt8) : Bool := (decide (32 ≤ c) || c == 9) && c != 127
def valueB (s : Bs) : Bool := s.all saysC && (Lib.trimS s [32, 9] == s)
def goesOn : Bs → Bool
  | c :: _ => c == 32 || c == 9
  | [] => false
def lineOf (out : List Fld) (l : Bs) : Option (List Fld) :=
  if goesOn l then match out.getLast? with
    | none => none
    | some f => some (out.dropLast ++ [(f.1, f.2 ++ l)])
  else match cutP [58] l with
    | none => none
    | some (a, b) => if nameB a then some (out ++ [(a, b)]) else none
def readHF : Nat → List Fld → Bs → Option (List Fld × Bs)
  | 0, _, _ => none
  | k + 1, out, s =>
    if s = [] then some (out, []) else
    let c := Lib.cut s [13, 10]
    if c.1 = [] ∧ c.2.2 = true then some (out, c.2.1)
    else match lineOf out c.1 with
      | none => none
      | some o => readHF k o c.2.1
def readH (s : Bs) : Option (List Fld × Bs) := readHF (s.length + 1) [] s
def cleanF : List Fld → Option (List Fld)
  | [] => some []
  | f :: l => if valueB (Lib.trimS f.2 [32, 9]) then (cleanF l).map ((f.1, Lib.trimS f.2 [32, 9]) :: ·) else none
def rightF (l : List Fld) : Bool := l.all fun f => nameB f.1 && valueB f.2
def getF : List Fld → Bs → Option Bs
  | [], _ => none
  | f :: l, s => if lowS f.1 = lowS s then some f.2 else getF l s
theorem trimS_le (x cs : Bs) : (Lib.trimS x cs).length ≤ x.length := by
  unfold Lib.trimS Lib.trimLeftS
  have h1 := (List.dropWhile_sublist (fun c => cs.contains c) (l := Lib.trimRightS x cs)).length_le
  have h2 := trimR_le x cs
  omega
def tspec : Bs := [40, 41, 60, 62, 64, 44, 59, 58, 92, 34, 47, 91, 93, 63, 61]
def badR (r : Nat) : Bool := decide (r < 33) || (decide (126 < r) || tspec.contains r.toUInt8)
theorem badR_hi (r : Nat) (h : 128 ≤ r) : badR r = true := by
  unfold badR
  rw [decide_eq_true (show 126 < r by omega)]; simp
def tokB (s : Bs) : Bool := !s.isEmpty && !(s.any fun c => badR c.toNat)
def okQ (c : UInt8) : Bool := decide (32 ≤ c) && decide (c ≤ 126)
def saidQ : Bs → Option (Bs × Bs)
  | [] => none
  | [c] => if c = 34 then some ([], []) else none
  | c :: d :: l =>
    if c = 34 then some ([], d :: l)
    else if c = 92 then (if okQ d then (saidQ l).map fun x => (d :: x.1, x.2) else none)
    else if okQ c then (saidQ (d :: l)).map fun x => (c :: x.1, x.2) else none
def endK (c : UInt8) : Bool := ([59, 32, 9] : Bs).contains c
def saidT (s : Bs) : Bs × Bs × Bool :=
  if Lib.hasPrefix s [34] then match saidQ (s.drop 1) with
    | none => ([], [], false)
    | some x => (x.1, x.2, true)
  else (s.takeWhile (fun c => !endK c), s.dropWhile (fun c => !endK c), tokB (s.takeWhile fun c => !endK c))
def paramOf (rest : Bs) : Option (Fld × Bs) :=
  let c := Lib.cut (Lib.trimLeftS rest [32, 9]) [61]
  let name := Lib.trimRightS c.1 [32, 9]
  let v := saidT (Lib.trimLeftS c.2.1 [32, 9])
  if c.2.2 && tokB name then (if v.2.2 then some ((lowS name, v.1), Lib.trimLeftS v.2.1 [32, 9]) else none) else none
def paramsF : Nat → Bs → Option (List Fld)
  | 0, _ => none
  | k + 1, rest => match paramOf rest with
    | none => none
    | some (f, r) => match r with
      | [] => some [f]
      | c :: r' => if c = 59 then (paramsF k r').map (f :: ·) else none
def readK (s : Bs) : Option (Bs × List Fld) :=
  let c := Lib.cut s [59]
  let m := lowS (Lib.trimS c.1 [32, 9])
  let d := Lib.cut m [47]
  if tokB d.1 && (!d.2.2 || tokB d.2.1) then (if c.2.2 then paramsF (c.2.1.length + 1) c.2.1 else some []).map fun l => (m, l) else none
def getP : List Fld → Bs → Option Bs
  | [], _ => none
  | f :: l, s => if f.1 = s then some f.2 else getP l s
def escV (c : UInt8) : Bs := if c = 92 then [92, 92] else if c = 34 then [92, 34] else [c]
def quoV (v : Bs) : Bs := if tokB v then v else 34 :: (v.flatMap escV ++ [34])
def paramW (p : Fld) : Option Bs :=
  if tokB p.1 && (lowS p.1 == p.1) && !(p.2.any fun c => !okQ c) then some (59 :: 32 :: (p.1 ++ 61 :: quoV p.2)) else none
def paramsW : List Fld → Option Bs
  | [] => some []
  | p :: l => match paramW p with
    | none => none
    | some x => (paramsW l).map (x ++ ·)
def writeK (m : Bs) (l : List Fld) : Option Bs :=
  let d := Lib.cut m [47]
  if tokB d.1 && (!d.2.2 || tokB d.2.1) && (lowS m == m) then (paramsW l).map (m ++ ·) else none
theorem dropWhile_le (p : UInt8 → Bool) (l : Bs) : (l.dropWhile p).length ≤ l.length := (List.dropWhile_sublist p).length_le
theorem takeWhile_le (p : UInt8 → Bool) (l : Bs) : (l.takeWhile p).length ≤ l.length := (List.takeWhile_sublist p).length_le
theorem trimL_le (x cs : Bs) : (Lib.trimLeftS x cs).length ≤ x.length := by
  unfold Lib.trimLeftS; exact dropWhile_le _ _
theorem cut_le (s p : Bs) : (Lib.cut s p).1.length + (Lib.cut s p).2.1.length ≤ s.length := by
  rw [cut_cutP]
  cases hc : cutP p s with
  | none => simp
  | some x =>
    obtain ⟨a, b⟩ := x
    have e := congrArg List.length (cutP_some hc)
    simp at e ⊢; omega
theorem cut_lt (s p : Bs) (hp : p ≠ []) (h : (Lib.cut s p).2.2 = true) : (Lib.cut s p).1.length + (Lib.cut s p).2.1.length < s.length := by
  rw [cut_cutP] at h ⊢
  cases hc : cutP p s with
  | none => rw [hc] at h; simp at h
  | some x =>
    obtain ⟨a, b⟩ := x
    have e := congrArg List.length (cutP_some hc)
    have := List.length_pos_iff.2 hp
    simp at e ⊢; omega
theorem cut_contains (s p : Bs) : Lib.contains s p = (Lib.cut s p).2.2 := by
  rw [cut_cutP]
  unfold Lib.contains
  rw [index_cutP]
  cases cutP p s with
  | none => rfl
  | some x => simp
theorem saidQ_le : ∀ (s v r : Bs), saidQ s = some (v, r) → v.length + r.length < s.length
  | [], _, _, h => by simp [saidQ] at h
  | [c], v, r, h => by
    unfold saidQ at h
    split at h
    · simp at h; rw [h.1, h.2]; simp
    · cases h
  | c :: d :: l, v, r, h => by
    unfold saidQ at h
    split at h
    · simp at h; rw [h.1, ← h.2]; simp
    · split at h
      · split at h
        · simp only [Option.map_eq_some_iff] at h
          obtain ⟨⟨a, b⟩, h1, h2⟩ := h
          have := saidQ_le l a b h1
          simp at h2; simp [← h2.1, ← h2.2]; omega
        · cases h
      · split at h
        · simp only [Option.map_eq_some_iff] at h
          obtain ⟨⟨a, b⟩, h1, h2⟩ := h
          have := saidQ_le (d :: l) a b h1
          simp at h2 this; simp [← h2.1, ← h2.2]; omega
        · cases h
theorem saidT_le (s : Bs) : (saidT s).1.length + (saidT s).2.1.length ≤ s.length := by
  unfold saidT
  split
  · cases hq : saidQ (s.drop 1) with
    | none => simp
    | some x =>
      obtain ⟨v, r⟩ := x
      have := saidQ_le _ _ _ hq
      simp at this ⊢; omega
  · have := congrArg List.length (List.takeWhile_append_dropWhile (p := fun c => !endK c) (l := s))
    simp only [List.length_append] at this
    simp only; omega
theorem paramOf_le {rest r : Bs} {f : Fld} (h : paramOf rest = some (f, r)) : f.1.length + f.2.length + r.length < rest.length := by
  unfold paramOf at h
  simp only at h
  split at h
  · rename_i hc
    split at h
    · simp at h
      obtain ⟨h1, h2⟩ := h
      have hc2 : (Lib.cut (Lib.trimLeftS rest [32, 9]) [61]).2.2 = true := by simp at hc; exact hc.1
      have a1 := cut_lt _ _ (by decide) hc2
      have a2 := trimL_le rest [32, 9]
      have a3 := trimL_le (Lib.cut (Lib.trimLeftS rest [32, 9]) [61]).2.1 [32, 9]
      have a4 := saidT_le (Lib.trimLeftS (Lib.cut (Lib.trimLeftS rest [32, 9]) [61]).2.1 [32, 9])
      have a5 := trimL_le (saidT (Lib.trimLeftS (Lib.cut (Lib.trimLeftS rest [32, 9]) [61]).2.1 [32, 9])).2.1 [32, 9]
      have a6 := trimR_le (Lib.cut (Lib.trimLeftS rest [32, 9]) [61]).1 [32, 9]
      rw [← h1, ← h2]
      simp only [lowS, List.length_map]
      omega
    · cases h
  · cases h
theorem paramsF_bd : ∀ (k : Nat) (rest : Bs) (l : List Fld), paramsF k rest = some l → l.length ≤ rest.length ∧ ∀ f ∈ l, f.1.length ≤ rest.length ∧ f.2.length ≤ rest.length
  | 0, _, _, h => by simp [paramsF] at h
  | k + 1, rest, l, h => by
    unfold paramsF at h
    cases hp : paramOf rest with
    | none => rw [hp] at h; cases h
    | some x =>
      obtain ⟨f, r⟩ := x
      have hle := paramOf_le hp
      rw [hp] at h
      simp only at h
      cases r with
      | nil => simp at h; subst h; exact ⟨by simp at hle ⊢; omega, fun g hg => by simp at hg; subst hg; simp at hle; omega⟩
      | cons c r' =>
        simp only at h
        split at h
        · simp only [Option.map_eq_some_iff] at h
          obtain ⟨l', h1, rfl⟩ := h
          obtain ⟨b1, b2⟩ := paramsF_bd k r' l' h1
          simp at hle
          refine ⟨by simp; omega, fun g hg => ?_⟩
          rcases List.mem_cons.1 hg with rfl | hg
          · omega
          · have := b2 g hg; omega
        · cases h
theorem readK_bd {s m : Bs} {l : List Fld} (h : readK s = some (m, l)) : m.length ≤ s.length ∧ l.length ≤ s.length ∧ ∀ f ∈ l, f.1.length ≤ s.length ∧ f.2.length ≤ s.length := by
  unfold readK at h
  simp only at h
  have hc := cut_le s [59]
  split at h
  · simp only [Option.map_eq_some_iff] at h
    obtain ⟨l', h1, h2⟩ := h
    simp at h2
    obtain ⟨rfl, rfl⟩ := h2
    have h3 := trimS_le (Lib.cut s [59]).1 [32, 9]
    refine ⟨by simp [lowS]; omega, ?_⟩
    split at h1
    · obtain ⟨b1, b2⟩ := paramsF_bd _ _ _ h1
      exact ⟨by omega, fun f hf => by have := b2 f hf; omega⟩
    · simp at h1; subst h1; simp
  · cases h
theorem saidQ_step (s : Bs) (k : Nat) (hk : k < s.length) (h34 : s[k] ≠ 34) : ∃ (j : Nat) (hj : j < s.length), k ≤ j ∧ (s[k] = 92 ∧ k + 1 < s.length → j = k + 1) ∧ (¬ (s[k] = 92 ∧ k + 1 < s.length) → j = k) ∧
    saidQ (s.drop k) = if okQ s[j] then (saidQ (s.drop (j + 1))).map fun x => (s[j] :: x.1, x.2) else none := by
  by_cases h : s[k] = 92 ∧ k + 1 < s.length
  · refine ⟨k + 1, h.2, by omega, fun _ => rfl, fun n => absurd h n, ?_⟩
    rw [List.drop_eq_getElem_cons hk, List.drop_eq_getElem_cons h.2]
    conv => lhs; unfold saidQ
    rw [if_neg h34, if_pos h.1]
  · refine ⟨k, hk, Nat.le_refl _, fun n => absurd n h, fun _ => rfl, ?_⟩
    rw [List.drop_eq_getElem_cons hk]
    by_cases h1 : k + 1 < s.length
    · have h92 : s[k] ≠ 92 := fun e => h ⟨e, h1⟩
      rw [List.drop_eq_getElem_cons h1]
      conv => lhs; unfold saidQ
      rw [if_neg h34, if_neg h92]
    · rw [List.drop_of_length_le (show s.length ≤ k + 1 by omega)]
      conv => lhs; unfold saidQ
      rw [if_neg h34]
      split <;> simp [saidQ]
theorem indexAny_take (cs : Bs) : ∀ l : Bs, (Lib.indexAny l cs = if (l.takeWhile fun c => !cs.contains c).length = l.length then -1 else ((l.takeWhile fun c => !cs.contains c).length : Int))
  | [] => rfl
  | c :: l => by
    unfold Lib.indexAny
    rw [indexAny_take cs l, List.takeWhile_cons]
    have hle := takeWhile_le (fun c => !cs.contains c) l
    generalize (l.takeWhile fun c => !cs.contains c) = t at hle ⊢
    cases hc : cs.contains c with
    | true =>
      simp only [if_true, Bool.not_true, Bool.false_eq_true, if_false, List.length_nil, List.length_cons]
      rw [if_neg (by omega)]; rfl
    | false =>
      simp only [Bool.not_false, if_true, List.length_cons, Bool.false_eq_true, if_false]
      by_cases h : t.length = l.length
      · rw [if_pos h, if_pos (show t.length + 1 = l.length + 1 by omega)]; rfl
      · rw [if_neg h, if_neg (show ¬ t.length + 1 = l.length + 1 by omega)]
        have h2 : ((t.length : Int) == -1) = false := by rw [beq_eq_false_iff_ne]; omega
        rw [h2]; simp
theorem take_takeWhile (p : UInt8 → Bool) (l : Bs) : l.take (l.takeWhile p).length = l.takeWhile p := by
  have h := List.takeWhile_append_dropWhile (p := p) (l := l)
  generalize l.takeWhile p = a at h ⊢
  rw [← h]; simp
theorem drop_takeWhile (p : UInt8 → Bool) (l : Bs) : l.drop (l.takeWhile p).length = l.dropWhile p := by
  have h := List.takeWhile_append_dropWhile (p := p) (l := l)
  generalize l.takeWhile p = a at h ⊢
  generalize l.dropWhile p = b at h ⊢
  rw [← h]; simp
end Go.Proofs.YtignjjnflcpiiaaGreatDoor
