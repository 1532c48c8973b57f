/- What quoted-printable quotes comes back whole: unquoteT (quoteT b) = some b. No program, no condition; address.scheme says whether a text may be a scheme. Condition: the text takes at most 2^47 bytes; Addresses as plain data: what a text is read as, what one is written as. No program; What a whole w. -/
import Derived.Test.YtignjjnflcpiiaaGreatDoorR11
namespace Go.Proofs.YtignjjnflcpiiaaGreatDoor
open Go
theorem hexU_all : ((List.range 256).all fun n => decide (0 ≤ digitV (hexU (n / 16))) && decide (0 ≤ digitV (hexU (n % 16))) && (digitV (hexU (n / 16)) * 16 + digitV (hexU (n % 16))).toNat == n && (hexU (n / 16) != 13 && hexU (n % 16) != 13 && hexU (n % 16) != 32 && hexU (n % 16) != 9 && hexU (n % 16) != 61)) = true := by kernel_rfl
theorem hexU_ok (c : UInt8) : 0 ≤ digitV (hexU (c.toNat / 16)) ∧ 0 ≤ digitV (hexU (c.toNat % 16)) ∧ (digitV (hexU (c.toNat / 16)) * 16 + digitV (hexU (c.toNat % 16))).toNat = c.toNat ∧ hexU (c.toNat / 16) ≠ 13 ∧ hexU (c.toNat % 16) ≠ 13 ∧ hexU (c.toNat % 16) ≠ 32 ∧ hexU (c.toNat % 16) ≠ 9 ∧ hexU (c.toNat % 16) ≠ 61 := by
  have := List.all_eq_true.1 hexU_all c.toNat (List.mem_range.2 c.toNat_lt)
  simp at this
  obtain ⟨⟨⟨a, b⟩, c⟩, ⟨⟨⟨d, e⟩, f⟩, g⟩, h⟩ := this
  exact ⟨a, b, by omega, d, e, f, g, h⟩
def Enc (x y : Bs) : Prop := (∀ r, unqL (x ++ r) = (unqL r).map (y ++ ·)) ∧ (13 : UInt8) ∉ x
theorem unqL_nil : unqL [] = some [] := rfl
theorem Enc.nil : Enc [] [] := ⟨fun r => by cases h : unqL r <;> simp [h], by simp⟩
theorem Enc.app {x y x' y' : Bs} (h : Enc x y) (h' : Enc x' y') : Enc (x ++ x') (y ++ y') := by
  refine ⟨fun r => ?_, fun hm => ?_⟩
  · rw [List.append_assoc, h.1, h'.1]
    cases unqL r <;> simp
  · rcases List.mem_append.1 hm with hm | hm
    · exact h.2 hm
    · exact h'.2 hm
theorem Enc.self {x y : Bs} (h : Enc x y) : unqL x = some y := by
  have := h.1 []
  rw [List.append_nil, unqL_nil] at this
  simpa using this
theorem Enc.piece (c : UInt8) (last : Bool) : Enc (pieceQ c last) [c] := by
  unfold pieceQ
  split
  · rename_i h
    have hs : stands c = true := by
      unfold stands
      simp at h ⊢
      rcases h with h | ⟨h, _⟩
      · exact Or.inl (Or.inl h)
      · rcases h with h | h
        · exact Or.inl (Or.inr h)
        · exact Or.inr h
    have h61 : c ≠ 61 := fun e => by subst e; revert h; cases last <;> decide
    have h13 : c ≠ 13 := fun e => by subst e; revert h; cases last <;> decide
    refine ⟨fun r => ?_, by simp [Ne.symm h13]⟩
    rw [List.cons_append, List.nil_append, unqL_cons (List.cons_ne_nil _ _)]
    have : unqS (c :: r) = some (c, r) := by
      unfold unqS
      split
      · rename_i h; cases h; exact absurd rfl h61
      · rename_i h; cases h; rw [if_pos hs]
      · rename_i h; cases h
    rw [this]
    rfl
  · obtain ⟨a, b, e, h1, h2, _⟩ := hexU_ok c
    refine ⟨fun r => ?_, by simp [Ne.symm h1, Ne.symm h2]⟩
    rw [List.cons_append, List.cons_append, List.cons_append, List.nil_append, unqL_cons (List.cons_ne_nil _ _)]
    have : unqS (61 :: hexU (c.toNat / 16) :: hexU (c.toNat % 16) :: r) = some (c, r) := by
      show (if 0 ≤ digitV (hexU (c.toNat / 16)) ∧ 0 ≤ digitV (hexU (c.toNat % 16)) then some ((digitV (hexU (c.toNat / 16)) * 16 + digitV (hexU (c.toNat % 16))).toNat.toUInt8, r) else none) = some (c, r)
      rw [if_pos ⟨a, b⟩, e]; simp
    rw [this]
    rfl
def EndOk (x : Bs) : Prop := ∀ c, x.getLast? = some c → c ≠ 32 ∧ c ≠ 9 ∧ c ≠ 61
theorem EndOk.piece (c : UInt8) (x : Bs) : EndOk (x ++ pieceQ c true) := by
  intro d hd
  unfold pieceQ at hd
  split at hd
  · rename_i h
    rw [List.getLast?_append] at hd
    simp at hd
    subst hd
    refine ⟨fun e => ?_, fun e => ?_, fun e => ?_⟩ <;> (subst e; revert h; decide)
  · obtain ⟨_, _, _, _, _, h3, h4, h5⟩ := hexU_ok c
    rw [List.getLast?_append] at hd
    simp at hd
    subst hd
    exact ⟨h3, h4, h5⟩
theorem bare_soft (x : Bs) : bareOf (x ++ [61]) = x ∧ softOf (x ++ [61]) = true := by
  have ht : Lib.trimRightS (x ++ [61]) [32, 9] = x ++ [61] := trimR_keep fun c hc => by
    rw [List.getLast?_append] at hc
    simp at hc
    subst hc; decide
  have hs : Lib.hasSuffix (x ++ [61]) [61] = true := by
    unfold Lib.hasSuffix
    simp
  unfold bareOf softOf
  rw [ht]
  refine ⟨?_, hs⟩
  unfold Lib.trimSuffix
  rw [if_pos hs]
  simp
theorem bare_hard {x : Bs} (h : EndOk x) : bareOf x = x ∧ softOf x = false := by
  have ht : Lib.trimRightS x [32, 9] = x := trimR_keep fun c hc => by
    obtain ⟨h1, h2, _⟩ := h c hc
    simp [h1, h2]
  have hs : Lib.hasSuffix x [61] = false := by
    rw [Bool.eq_false_iff]
    intro hh
    unfold Lib.hasSuffix at hh
    obtain ⟨y, hy⟩ := List.isSuffixOf_iff_suffix.1 hh
    have := h 61 (by rw [← hy, List.getLast?_append]; rfl)
    exact this.2.2 rfl
  unfold bareOf softOf
  rw [ht]
  refine ⟨?_, hs⟩
  unfold Lib.trimSuffix
  rw [if_neg (by rw [hs]; decide)]
theorem cutP_nocr : ∀ {a : Bs}, (13 : UInt8) ∉ a → cutP [13, 10] a = none
  | [], _ => rfl
  | c :: a, h => by
    have hc : (13 : UInt8) ≠ c := fun e => h (by rw [e]; exact List.mem_cons_self ..)
    have ih := cutP_nocr (a := a) (fun hm => h (List.mem_cons_of_mem _ hm))
    unfold cutP
    rw [ih]
    simp [List.isPrefixOf, hc]
theorem countFrom_more (p : Bs) (hp : p ≠ []) : ∀ (f g : Nat) (s : Bs), s.length < f → s.length < g → Lib.countFrom p f s = Lib.countFrom p g s
  | 0, _, s, h, _ => absurd h (Nat.not_lt_zero _)
  | _ + 1, 0, s, _, h => absurd h (Nat.not_lt_zero _)
  | f + 1, g + 1, s, h1, h2 => by
    unfold Lib.countFrom
    by_cases h : (Lib.index s p == -1) = true
    · rw [if_pos h, if_pos h]
    · rw [if_neg h, if_neg h]
      have hpl := List.length_pos_iff.2 hp
      have h0 : 0 ≤ Lib.index s p := by
        rw [index_cutP]
        cases hc : cutP p s with
        | none => rw [index_cutP, hc] at h; exact absurd rfl h
        | some x => simp
      have := Lib.index_room s p h0
      rw [countFrom_more p hp f g _ (by rw [List.length_drop]; omega) (by rw [List.length_drop]; omega)]
theorem split_line {a : Bs} (b : Bs) (h : (13 : UInt8) ∉ a) : Lib.split (a ++ 13 :: 10 :: b) [13, 10] = a :: Lib.split b [13, 10] := by
  have hi : Lib.index (a ++ 13 :: 10 :: b) [13, 10] = a.length := by rw [index_cutP, cutP_crlf b h]
  have hd : (a ++ 13 :: 10 :: b).drop ((a.length : Int).toNat + ([13, 10] : Bs).length) = b := by
    rw [Int.toNat_natCast]; simp
  have hne : ¬ ((a.length : Int) == -1) = true := by rw [beq_iff_eq]; omega
  have hc : Lib.count (a ++ 13 :: 10 :: b) [13, 10] = Lib.count b [13, 10] + 1 := by
    unfold Lib.count
    conv => lhs; unfold Lib.countFrom
    rw [hi, if_neg hne, hd, Nat.add_comm, countFrom_more [13, 10] (by decide) _ (b.length + 1) b (by simp; omega) (by omega)]
  unfold Lib.split
  rw [hc]
  conv => lhs; unfold Lib.splitK
  rw [hi, if_neg hne, hd, Int.toNat_natCast, Nat.add_zero, List.take_left']
  rfl
theorem split_last {a : Bs} (h : (13 : UInt8) ∉ a) : Lib.split a [13, 10] = [a] := by
  have hi : Lib.index a [13, 10] = -1 := by rw [index_cutP, cutP_nocr h]
  unfold Lib.split Lib.count Lib.countFrom
  rw [hi]; rfl
theorem unq_quote : ∀ (b : Bs) (n : Nat) (x y : Bs), Enc x y → (b = [] → EndOk x) → unqLines (Lib.split (x ++ quoteL b n) [13, 10]) = some (y ++ b)
  | [], n, x, y, hE, hx => by
    obtain ⟨h1, h2⟩ := bare_hard (hx rfl)
    unfold quoteL
    rw [List.append_nil, split_last hE.2]
    unfold unqLines
    rw [h1, hE.self, h2]
    simp [unqLines]
  | c :: l, n, x, y, hE, hx => by
    have hp := Enc.piece c l.isEmpty
    have hend : ∀ z, l = [] → EndOk (z ++ pieceQ c l.isEmpty) := fun z e => by subst e; exact EndOk.piece c z
    unfold quoteL
    generalize (if l.isEmpty = true then 76 else 75) = room
    split
    · obtain ⟨h1, h2⟩ := bare_soft x
      have ih := unq_quote l (pieceQ c l.isEmpty).length (pieceQ c l.isEmpty) [c] hp (fun e => by simpa using hend [] e)
      have e : x ++ ([61, 13, 10] ++ pieceQ c l.isEmpty ++ quoteL l (pieceQ c l.isEmpty).length) = (x ++ [61]) ++ 13 :: 10 :: (pieceQ c l.isEmpty ++ quoteL l (pieceQ c l.isEmpty).length) := by simp
      rw [e, split_line _ (by
        intro hm
        rcases List.mem_append.1 hm with hm | hm
        · exact hE.2 hm
        · simp at hm)]
      unfold unqLines
      rw [h1, hE.self, h2, ih]
      simp
    · have ih := unq_quote l (n + (pieceQ c l.isEmpty).length) (x ++ pieceQ c l.isEmpty) (y ++ [c]) (hE.app hp) (hend x)
      rw [← List.append_assoc, ih]
      simp
theorem unquoteT_quoteT (b : Bs) : unquoteT (quoteT b) = some b := by
  have := unq_quote b 0 [] [] Enc.nil (fun _ c h => by cases h)
  simpa [unquoteT, quoteT] using this
end Go.Proofs.YtignjjnflcpiiaaGreatDoor
namespace Go.Proofs.YtignjjnflcpiiaaGreatDoor
open Go Go.RowKit
def alphaL : Bs := [65, 66, 67, 68, 69, 70, 71, 72, 73, 74, 75, 76, 77, 78, 79, 80, 81, 82, 83, 84, 85, 86, 87, 88, 89, 90, 97, 98, 99, 100, 101, 102, 103, 104, 105, 106, 107, 108, 109, 110, 111, 112, 113, 114, 115, 116, 117, 118, 119, 120, 121, 122]
def schemeL : Bs := alphaL ++ [48, 49, 50, 51, 52, 53, 54, 55, 56, 57, 43, 45, 46]
def schemeB : Bs → Bool
  | [] => false
  | c :: l => alphaL.contains c && (c :: l).all (schemeL.contains ·)
theorem idx_contains (l : Bs) (c : UInt8) : (0 ≤ Lib.indexByte l c) ↔ l.contains c = true := by
  rw [indexByte_cutP]
  cases h : cutP [c] l with
  | none => rw [cutC_none] at h; simp [h]
  | some x =>
    obtain ⟨a, b⟩ := x
    obtain ⟨e, _⟩ := cutC_some h
    simp [e]
theorem dropWhile_nil {p : UInt8 → Bool} : ∀ {l : Bs}, l.dropWhile p = [] ↔ l.all p = true
  | [] => by simp
  | x :: l => by
    rw [List.dropWhile_cons]
    by_cases h : p x = true
    · simp [h, dropWhile_nil (l := l)]
    · simp [h]
theorem dropWhile_head {p : UInt8 → Bool} : ∀ {l : Bs} {x : UInt8} {t : Bs}, l.dropWhile p = x :: t → p x = false
  | [], _, _, h => by simp at h
  | y :: l, x, t, h => by
    rw [List.dropWhile_cons] at h
    by_cases hy : p y = true
    · rw [if_pos hy] at h; exact dropWhile_head h
    · rw [if_neg hy] at h; injection h with h1 _; rw [← h1]; simpa using hy
theorem trimS_nil_iff (l cs : Bs) : Lib.trimS l cs = [] ↔ l.all (cs.contains ·) = true := by
  unfold Lib.trimS Lib.trimLeftS Lib.trimRightS
  rw [dropWhile_nil]
  constructor
  · intro h
    rw [← List.all_reverse]
    rw [List.all_reverse] at h
    rw [← dropWhile_nil]
    cases hd : List.dropWhile (fun x => cs.contains x) l.reverse with
    | nil => rfl
    | cons x t =>
      rw [hd] at h
      have := dropWhile_head hd
      simp only [List.all_cons, Bool.and_eq_true] at h
      rw [this] at h
      exact absurd h.1 (by simp)
  · intro h
    rw [← List.all_reverse, ← dropWhile_nil] at h
    rw [h]; rfl
theorem isEmpty_trimS (l cs : Bs) : (Lib.trimS l cs).isEmpty = l.all (cs.contains ·) := by
  rw [Bool.eq_iff_iff, List.isEmpty_iff, trimS_nil_iff]
set_option maxHeartbeats 400000 in
set_option maxRecDepth 100000 in
theorem scheme_any (l : Bs) (w : World) (hl : l.length ≤ 140737488355328) :
    Calls Tryz.prog 102 #[.string ⟨l.toArray⟩] w fun e w' => e = .returned (.bool (schemeB l)) ∧ Below w.heap.size w w' := by
  cases l with
  | nil =>
    go_enter Tryz.func102, Tryz.ntmps102
    go_wp2_with fail
    go_ret
    exact ⟨rfl, Below.refl _ _⟩
  | cons c l =>
    have hI := idxByte alphaL (c.toNat : Int) c (by simp) w
    have hT := trimStr (c :: l) schemeL w (by omega) (by decide) (by decide)
    by_cases hc : alphaL.contains c = true
    · have h0 : 0 ≤ Lib.indexByte alphaL c := (idx_contains _ _).2 hc
      go_enter Tryz.func102, Tryz.ntmps102
      go_wp2_with fail
      refine hI.mono ?_
      rintro e w' ⟨rfl, rfl⟩
      go_wp2_with fail
      refine hT.mono ?_
      rintro e w' ⟨rfl, hb⟩
      go_wp2_with fail
      go_ret
      exact ⟨ret_bool (by rw [isEmpty_trimS]; show _ = (alphaL.contains c && _); rw [hc, Bool.true_and]), hb⟩
    · have h0 : Lib.indexByte alphaL c < 0 := by
        rcases Int.lt_or_le (Lib.indexByte alphaL c) 0 with h | h
        · exact h
        · exact absurd ((idx_contains _ _).1 h) hc
      go_enter Tryz.func102, Tryz.ntmps102
      go_wp2_with fail
      refine hI.mono ?_
      rintro e w' ⟨rfl, rfl⟩
      go_wp2_with fail
      go_ret
      exact ⟨ret_bool (by show _ = (alphaL.contains c && _); rw [Bool.eq_false_iff.2 hc, Bool.false_and]), Below.refl _ _⟩
end Go.Proofs.YtignjjnflcpiiaaGreatDoor
namespace Go.Proofs.YtignjjnflcpiiaaGreatDoor
open Go
structure Addr where
  scheme : Bs
  hasAuth : Bool
  auth : Bs
  path : Bs
  hasQuery : Bool
  query : Bs
  hasFrag : Bool
  frag : Bs
  deriving DecidableEq
def Addr.zero : Addr := ⟨[], false, [], [], false, [], false, []⟩
abbrev Addr.cells (a : Addr) : Array Value := #[.string ⟨a.scheme.toArray⟩, .bool a.hasAuth, .string ⟨a.auth.toArray⟩, .string ⟨a.path.toArray⟩, .bool a.hasQuery, .string ⟨a.query.toArray⟩, .bool a.hasFrag, .string ⟨a.frag.toArray⟩]
abbrev zCells : Array Value := #[.string ⟨#[]⟩, .bool false, .string ⟨#[]⟩, .string ⟨#[]⟩, .bool false, .string ⟨#[]⟩, .bool false, .string ⟨#[]⟩]
abbrev Addr.val (a : Addr) : Value := .agg a.cells
def okB (c : UInt8) : Bool := decide (33 ≤ c) && decide (c ≤ 126)
def parseScheme (l : Bs) : Bs × Bs := match cutP [58] l with
  | some (a, b) => if !a.isEmpty && schemeB a then (a, b) else ([], l)
  | none => ([], l)
def hasScheme (l : Bs) : Bool := match cutP [58] l with
  | some (a, _) => !a.isEmpty && schemeB a
  | none => false
def parseAuth (l : Bs) : Bool × Bs × Bs := if Lib.hasPrefix l [47, 47] then (match cutP [47] (l.drop 2) with
  | some (a, b) => (true, a, 47 :: b)
  | none => (true, l.drop 2, [])) else (false, [], l)
def parseA (l : Bs) : Addr :=
  let c1 := Lib.cut l [35]
  let c2 := Lib.cut c1.1 [63]
  let s := parseScheme c2.1
  let u := parseAuth s.2
  ⟨s.1, u.1, u.2.1, u.2.2, c2.2.2, c2.2.1, c1.2.2, c1.2.1⟩
def readA (l : Bs) : Option Addr := if l.all okB then some (parseA l) else none
def writeA (a : Addr) : Bs :=
  (if a.scheme = [] then [] else a.scheme ++ [58]) ++ (if a.hasAuth then [47, 47] ++ a.auth else []) ++ a.path ++ (if a.hasQuery then [63] ++ a.query else []) ++ (if a.hasFrag then [35] ++ a.frag else [])
def HasAt (l : Bs) (c : UInt8) (k : Int) : Prop := (k = -1 ∧ c ∉ l) ∨ ∃ a b, l = a ++ c :: b ∧ c ∉ a ∧ k = a.length
theorem hasAt_index (l : Bs) (c : UInt8) : HasAt l c (Lib.indexByte l c) := by
  rw [indexByte_cutP]
  cases h : cutP [c] l with
  | none => exact Or.inl ⟨rfl, cutC_none.1 h⟩
  | some x =>
    obtain ⟨a, b⟩ := x
    obtain ⟨e, hn⟩ := cutC_some h
    exact Or.inr ⟨a, b, e, hn, rfl⟩
theorem HasAt.le {l : Bs} {c : UInt8} {k : Int} (h : HasAt l c k) (h0 : 0 < k) : k + 1 ≤ l.length := by
  rcases h with ⟨rfl, _⟩ | ⟨a, b, rfl, _, rfl⟩
  · omega
  · simp; omega
theorem HasAt.yes {l : Bs} {k : Int} (h : HasAt l 58 k) (h0 : 0 < k) : hasScheme l = schemeB (l.take k.toNat) := by
  rcases h with ⟨rfl, _⟩ | ⟨a, b, rfl, hn, rfl⟩
  · omega
  · unfold hasScheme
    rw [cutC_mk hn]
    cases a with
    | nil => simp at h0
    | cons x a => simp
theorem HasAt.no {l : Bs} {k : Int} (h : HasAt l 58 k) (h0 : k ≤ 0) : hasScheme l = false := by
  rcases h with ⟨rfl, hn⟩ | ⟨a, b, rfl, hn, rfl⟩
  · unfold hasScheme; rw [cutC_none.2 hn]
  · unfold hasScheme
    rw [cutC_mk hn]
    cases a with
    | nil => rfl
    | cons x a => simp at h0; omega
theorem HasAt.pos {l : Bs} {k : Int} (h : HasAt l 58 k) (hb : hasScheme l = true) : 0 < k := by
  rcases Int.lt_or_le 0 k with h' | h'
  · exact h'
  · rw [h.no h'] at hb; cases hb
theorem HasAt.parse {l : Bs} {k : Int} (h : HasAt l 58 k) (hb : hasScheme l = true) : parseScheme l = (l.take k.toNat, l.drop (k + 1).toNat) := by
  have h0 := h.pos hb
  rcases h with ⟨rfl, hn⟩ | ⟨a, b, rfl, hn, rfl⟩
  · omega
  · unfold hasScheme at hb
    unfold parseScheme
    rw [cutC_mk hn] at hb ⊢
    simp only at hb ⊢
    rw [if_pos hb]
    have : ((a.length : Int) + 1).toNat = a.length + 1 := by omega
    rw [this]
    simp
theorem parseScheme_no {l : Bs} (hb : hasScheme l = false) : parseScheme l = ([], l) := by
  unfold hasScheme at hb
  unfold parseScheme
  cases hc : cutP [58] l with
  | none => rfl
  | some x => rw [hc] at hb; simp only at hb ⊢; rw [if_neg (by rw [hb]; simp)]
theorem HasAt.le' {l : Bs} {c : UInt8} {k : Int} (h : HasAt l c k) (h0 : 0 ≤ k) : k + 1 ≤ l.length := by
  rcases h with ⟨rfl, _⟩ | ⟨a, b, rfl, _, rfl⟩
  · omega
  · simp; omega
def authRest (r : Bs) : Bool × Bs × Bs := match cutP [47] r with
  | some (a, b) => (true, a, 47 :: b)
  | none => (true, r, [])
theorem parseAuth_yes {l : Bs} (h : Lib.hasPrefix l [47, 47] = true) : parseAuth l = authRest (Lib.trimPrefix l [47, 47]) := by
  unfold parseAuth Lib.trimPrefix
  rw [if_pos h, if_pos h]; rfl
theorem parseAuth_no {l : Bs} (h : ¬ Lib.hasPrefix l [47, 47] = true) : parseAuth l = (false, [], l) := by
  unfold parseAuth
  rw [if_neg h]
theorem HasAt.auth_no {l : Bs} {k : Int} (h : HasAt l 47 k) (h0 : k < 0) : authRest l = (true, l, []) := by
  rcases h with ⟨rfl, hn⟩ | ⟨a, b, rfl, hn, rfl⟩
  · unfold authRest; rw [cutC_none.2 hn]
  · omega
theorem HasAt.auth_yes {l : Bs} {k : Int} (h : HasAt l 47 k) (h0 : 0 ≤ k) : authRest l = (true, l.take k.toNat, l.drop k.toNat) := by
  rcases h with ⟨rfl, hn⟩ | ⟨a, b, rfl, hn, rfl⟩
  · omega
  · unfold authRest; rw [cutC_mk hn]; simp
theorem parseA_eq {l s1 f s2 q sch s3 au p : Bs} {hf hq ha : Bool} (h1 : Lib.cut l [35] = (s1, f, hf)) (h2 : Lib.cut s1 [63] = (s2, q, hq)) (h3 : parseScheme s2 = (sch, s3)) (h4 : parseAuth s3 = (ha, au, p)) : parseA l = ⟨sch, ha, au, p, hq, q, hf, f⟩ := by
  simp only [parseA, h1, h2, h3, h4]
theorem okB_no {c : UInt8} (h : ¬ ((33 : Int) ≤ c.toNat ∧ (c.toNat : Int) ≤ 126)) : okB c = false := by
  unfold okB
  rw [Bool.and_eq_false_iff]
  simp only [decide_eq_false_iff_not, UInt8.le_iff_toNat_le]
  simp
  omega
theorem okB_yes {c : UInt8} (h1 : (33 : Int) ≤ c.toNat) (h2 : (c.toNat : Int) ≤ 126) : okB c = true := by
  unfold okB
  rw [Bool.and_eq_true]
  simp only [decide_eq_true_eq, UInt8.le_iff_toNat_le]
  simp
  omega
theorem cut_le2 (l p : Bs) : (Lib.cut l p).1.length ≤ l.length ∧ (Lib.cut l p).2.1.length ≤ l.length := by
  rw [cut_cutP]
  cases h : cutP p l with
  | none => simp
  | some x =>
    obtain ⟨a, b⟩ := x
    have := cutP_some h
    rw [this]
    simp; omega
theorem all_take_succ {l : Bs} {k : Nat} (p : UInt8 → Bool) (h : k < l.length) (h1 : (l.take k).all p = true) (h2 : p l[k] = true) : (l.take (k + 1)).all p = true := by
  rw [List.take_succ_eq_append_getElem h, List.all_append, h1]
  simp [h2]
theorem all_at_false {l : Bs} {k : Nat} (p : UInt8 → Bool) (h : k < l.length) (h2 : p l[k] = false) : l.all p = false := by
  rw [Bool.eq_false_iff]
  intro h'
  have := List.all_eq_true.1 h' l[k] (List.getElem_mem h)
  rw [this] at h2; cases h2
theorem getF_yes {f : Fld} {s : Bs} (h : lowS f.1 = lowS s) (l : List Fld) : getF (f :: l) s = some f.2 := by unfold getF; rw [if_pos h]
theorem getF_no {f : Fld} {s : Bs} (h : lowS f.1 ≠ lowS s) (l : List Fld) : getF (f :: l) s = getF l s := by conv => lhs; unfold getF; rw [if_neg h]
theorem getF_filter {q : Fld → Bool} {s : Bs} (h : ∀ f : Fld, lowS f.1 = lowS s → q f = true) : ∀ l : List Fld, getF (l.filter q) s = getF l s
  | [] => rfl
  | f :: l => by
    rw [List.filter_cons]
    by_cases hf : lowS f.1 = lowS s
    · rw [if_pos (h f hf), getF_yes hf, getF_yes hf]
    · rw [getF_no hf]
      split
      · rw [getF_no hf, getF_filter h l]
      · exact getF_filter h l
theorem getF_out {q : Fld → Bool} {s : Bs} (h : ∀ f : Fld, lowS f.1 = lowS s → q f = false) : ∀ l : List Fld, getF (l.filter q) s = none
  | [] => rfl
  | f :: l => by
    rw [List.filter_cons]
    split
    · rename_i hq
      rw [getF_no (fun e => by rw [h f e] at hq; cases hq), getF_out h l]
    · exact getF_out h l
theorem getF_app (l : List Fld) (n v s : Bs) : getF (l ++ [(n, v)]) s = match getF l s with | some x => some x | none => if lowS n = lowS s then some v else none := by
  induction l with
  | nil => simp [getF]
  | cons f l ih =>
    rw [List.cons_append]
    unfold getF
    split
    · rfl
    · exact ih
theorem ct_cte : lowS cteN ≠ lowS ctN := by decide
theorem delF_ct (h : List Fld) {s : Bs} (hs : lowS s ≠ lowS cteN) : getF (delF h) s = getF h s :=
  getF_filter (fun f hf => by rw [hf]; simpa using hs) h
theorem delF_cte (h : List Fld) : getF (delF h) cteN = none := getF_out (fun f hf => by rw [hf]; simp) h
theorem rightF_mem {l : List Fld} : rightF l = true ↔ ∀ f ∈ l, nameB f.1 = true ∧ valueB f.2 = true := by
  unfold rightF
  rw [List.all_eq_true]
  constructor
  · intro h f hf; have := h f hf; rw [Bool.and_eq_true] at this; exact this
  · intro h f hf; rw [Bool.and_eq_true]; exact h f hf
theorem rightF_filter {l : List Fld} (q : Fld → Bool) (h : rightF l = true) : rightF (l.filter q) = true :=
  rightF_mem.2 fun f hf => rightF_mem.1 h f (List.mem_filter.1 hf).1
theorem rightF_app {l m : List Fld} (h : rightF l = true) (h2 : rightF m = true) : rightF (l ++ m) = true :=
  rightF_mem.2 fun f hf => (List.mem_append.1 hf).elim (rightF_mem.1 h f) (rightF_mem.1 h2 f)
theorem shortestF_how (b : Bs) : (shortestF b).1 = w7bit ∨ (shortestF b).1 = wQuoted ∨ (shortestF b).1 = wBase64 := by
  unfold shortestF
  split
  · exact Or.inl rfl
  split
  · exact Or.inr (Or.inl rfl)
  · exact Or.inr (Or.inr rfl)
theorem how_right (b : Bs) : rightF [(cteN, (shortestF b).1)] = true := by
  rcases shortestF_how b with h | h | h <;> rw [h] <;> decide
theorem decode_back (h : List Fld) (b : Bs) : decodeF (delF h ++ [(cteN, (shortestF b).1)]) (shortestF b).2 = .ok b := by
  have e : getF (delF h ++ [(cteN, (shortestF b).1)]) cteN = some (shortestF b).1 := by rw [getF_app, delF_cte]; simp
  unfold decodeF
  rw [e]
  simp only
  unfold shortestF
  by_cases h1 : plainB b = true
  · rw [if_pos h1]
    simp only
    rw [if_pos (by decide)]
  · rw [if_neg h1]
    by_cases h2 : (quoteT b).length ≤ (packT b).length
    · rw [if_pos h2]
      simp only
      rw [if_neg (by decide), if_neg (by decide), if_pos (by decide), unquoteT_quoteT]
    · rw [if_neg h2]
      simp only
      rw [if_neg (by decide), if_pos (by decide), unpackT_packT]
theorem boundF_same {h h' : List Fld} (e : getF h' ctN = getF h ctN) : boundF h' = boundF h := by unfold boundF; rw [e]
def backL (q : Prt) : Prt := .mk (delF q.head ++ [(cteN, (shortestF q.body).1)]) q.body false []
def LeafOk (q : Prt) : Prop := rightF q.head = true ∧ boundF q.head = some none ∧ q.many = false ∧ q.parts = []
theorem backL_ct (q : Prt) {s : Bs} (hs : lowS s ≠ lowS cteN) : getF (backL q).head s = getF q.head s := by
  show getF (delF q.head ++ [(cteN, (shortestF q.body).1)]) s = _
  rw [getF_app, delF_ct _ hs, if_neg (fun h => hs h.symm)]
  cases getF q.head s <;> rfl
theorem leaf_back {h : List Fld} {body : Bs} (hr : rightF h = true) (hb : boundF h = some none) : ∃ t, leafW h body = some t ∧ ∀ d left, partR (d + 1) (left + 1) t = .ok (.mk (delF h ++ [(cteN, (shortestF body).1)]) body false [], left) := by
  have hr2 : rightF (delF h ++ [(cteN, (shortestF body).1)]) = true := rightF_app (rightF_filter _ hr) (how_right body)
  obtain ⟨t, ht, hrd⟩ := head_back hr2
  refine ⟨t ++ (shortestF body).2, by unfold leafW; rw [ht]; rfl, fun d left => ?_⟩
  obtain ⟨m, h1, h2⟩ := hrd (shortestF body).2
  have h3 : boundF (delF h ++ [(cteN, (shortestF body).1)]) = some none := by
    rw [← hb]
    exact boundF_same (backL_ct (.mk h body false []) (s := ctN) (fun h => ct_cte h.symm))
  unfold partR
  rw [h1]
  simp only
  rw [h2]
  simp only
  rw [h3]
  simp only
  rw [decode_back]
theorem leafs_back (d : Nat) : ∀ (ps : List Prt) (left : Nat), (∀ q ∈ ps, LeafOk q) → eachR (partW (d + 1)) left ps = .error 4 ∨ ∃ l n, eachR (partW (d + 1)) left ps = .ok (l, n) ∧ eachR (partR (d + 1)) left l = .ok (ps.map backL, n) ∧ l.length = ps.length
  | [], left, _ => Or.inr ⟨[], left, rfl, rfl, rfl⟩
  | q :: ps, 0, _ => Or.inl (by unfold eachR; rfl)
  | q :: ps, left + 1, hq => by
    obtain ⟨h1, h2, h3, h4⟩ := hq q (List.mem_cons_self ..)
    obtain ⟨hd, body, many, parts⟩ := q
    simp only [Prt.head, Prt.many, Prt.parts] at h1 h2 h3 h4
    subst h3 h4
    obtain ⟨t, ht, hback⟩ := leaf_back (body := body) h1 h2
    have hw : partW (d + 1) (left + 1) (.mk hd body false []) = .ok (t, left) := by
      unfold partW
      rw [if_neg (by rw [h1]; decide), h2]
      simp only
      rw [if_neg (by decide), if_neg (by decide), if_neg (by simp), ht]
    rcases leafs_back d ps left (fun q hq' => hq q (List.mem_cons_of_mem _ hq')) with h | ⟨l, n, e1, e2, e3⟩
    · left
      unfold eachR
      rw [hw]
      simp only
      rw [h]
    · right
      refine ⟨t :: l, n, ?_, ?_, by simp [e3]⟩
      · unfold eachR
        rw [hw]
        simp only
        rw [e1]
      · unfold eachR
        rw [hback]
        simp only
        rw [e2]
        rfl
theorem getP_set {b b0 : Bs} {s : Bs} : ∀ {l : List Fld}, getP l s = some b0 → getP (setP l s b) s = some b
  | [], h => by cases h
  | f :: l, h => by
    unfold getP at h
    unfold setP
    split
    · rename_i hf
      unfold getP
      rw [if_pos hf]
    · rename_i hf
      rw [if_neg hf] at h
      unfold getP
      rw [if_neg hf, getP_set h]
theorem getP_set_ne {b n s : Bs} (hne : n ≠ s) : ∀ (l : List Fld), getP (setP l n b) s = getP l s
  | [] => rfl
  | f :: l => by
    unfold setP
    split
    · rename_i hf
      unfold getP
      rw [if_neg (by rw [hf]; exact hne), if_neg (by rw [hf]; exact hne)]
    · unfold getP
      rw [getP_set_ne hne l]
theorem setP_ok {n b : Bs} (hb : ∀ c ∈ b, okQ c = true) : ∀ {l : List Fld}, (∀ p ∈ l, ParOk p) → ∀ p ∈ setP l n b, ParOk p
  | [], _, p, hp => by cases hp
  | f :: l, h, p, hp => by
    unfold setP at hp
    have hf := h f (List.mem_cons_self ..)
    split at hp
    · rcases List.mem_cons.1 hp with rfl | hp
      · exact ⟨hf.1, hf.2.1, hb⟩
      · exact h p (List.mem_cons_of_mem _ hp)
    · rcases List.mem_cons.1 hp with rfl | hp
      · exact hf
      · exact setP_ok hb (fun q hq => h q (List.mem_cons_of_mem _ hq)) p hp
theorem renF_get (b : Bs) {v : Bs} : ∀ {h : List Fld}, getF h ctN = some v → getF (renF h b) ctN = some (renameF v b)
  | [], h => by cases h
  | f :: l, h => by
    unfold getF at h
    unfold renF
    split
    · rename_i hf
      rw [if_pos hf] at h
      unfold getF
      rw [if_pos hf]
      simp at h
      rw [h]
    · rename_i hf
      rw [if_neg hf] at h
      unfold getF
      rw [if_neg hf, renF_get b h]
theorem renF_ne (b : Bs) {s : Bs} (hs : lowS s ≠ lowS ctN) : ∀ (h : List Fld), getF (renF h b) s = getF h s
  | [] => rfl
  | f :: l => by
    unfold renF
    split
    · rename_i hf
      unfold getF
      rw [if_neg (by rw [hf]; exact fun e => hs e.symm), if_neg (by rw [hf]; exact fun e => hs e.symm)]
    · unfold getF
      rw [renF_ne b hs l]
theorem renF_right {b v : Bs} (hv : valueB (renameF v b) = true) : ∀ {h : List Fld}, rightF h = true → getF h ctN = some v → rightF (renF h b) = true
  | [], _, h => by cases h
  | f :: l, hr, h => by
    have hm := rightF_mem.1 hr
    unfold getF at h
    unfold renF
    split
    · rename_i hf
      rw [if_pos hf] at h
      simp at h
      refine rightF_mem.2 fun g hg => ?_
      rcases List.mem_cons.1 hg with rfl | hg
      · exact ⟨(hm f (List.mem_cons_self ..)).1, by rw [h]; exact hv⟩
      · exact hm g (List.mem_cons_of_mem _ hg)
    · rename_i hf
      rw [if_neg hf] at h
      have ih := rightF_mem.1 (renF_right hv (h := l) (rightF_mem.2 fun g hg => hm g (List.mem_cons_of_mem _ hg)) h)
      refine rightF_mem.2 fun g hg => ?_
      rcases List.mem_cons.1 hg with rfl | hg
      · exact hm g (List.mem_cons_self ..)
      · exact ih g hg
theorem decDigits_mem (u : Nat) : ∀ c ∈ Lib.decDigits u, 48 ≤ c.toNat ∧ c.toNat ≤ 57 := by
  induction u using Nat.strongRecOn with
  | _ u ih =>
    intro c hc
    by_cases h : u < 10
    · rw [Lib.decDigits, dif_pos h] at hc
      rw [List.mem_singleton.1 hc, UInt8.toNat_ofNat']; omega
    · rw [Lib.decDigits, dif_neg h] at hc
      rcases List.mem_append.1 hc with hc | hc
      · exact ih (u / 10) (by omega) c hc
      · rw [List.mem_singleton.1 hc, UInt8.toNat_ofNat']; omega
theorem digit_ok {c : UInt8} (h : 48 ≤ c.toNat ∧ c.toNat ≤ 57) : okQ c = true ∧ c ≠ 13 ∧ c ≠ 32 ∧ c ≠ 64 ∧ c ≠ 47 ∧ c ≠ 46 ∧ c ≠ 35 ∧ c ≠ 63 ∧ c ≠ 58 ∧ okB c = true := by
  have key : ((List.range 256).all fun n => !(decide (48 ≤ n) && decide (n ≤ 57)) || (okQ n.toUInt8 && n.toUInt8 != 13 && n.toUInt8 != 32 && n.toUInt8 != 64 && n.toUInt8 != 47 && n.toUInt8 != 46 && n.toUInt8 != 35 && n.toUInt8 != 63 && n.toUInt8 != 58 && okB n.toUInt8)) = true := by kernel_rfl
  have := List.all_eq_true.1 key c.toNat (List.mem_range.2 c.toNat_lt)
  rw [show c.toNat.toUInt8 = c by simp, decide_eq_true h.1, decide_eq_true h.2] at this
  simpa [and_assoc] using this
theorem chooseT_ok (l : List Bs) : (∀ c ∈ chooseT l, okQ c = true) ∧ (13 : UInt8) ∉ chooseT l ∧ Lib.hasSuffix (chooseT l) [32] = false := by
  have hm : ∀ c ∈ chooseT l, c = 98 ∨ (48 ≤ c.toNat ∧ c.toNat ≤ 57) := by
    intro c hc
    unfold chooseT at hc
    rw [Lib.itoa_nonneg] at hc
    rcases List.mem_cons.1 hc with rfl | hc
    · exact Or.inl rfl
    · exact Or.inr (decDigits_mem _ c hc)
  refine ⟨fun c hc => ?_, fun hc => ?_, ?_⟩
  · rcases hm c hc with rfl | h
    · decide
    · exact (digit_ok h).1
  · rcases hm _ hc with h | h
    · revert h; decide
    · exact (digit_ok h).2.1 rfl
  · rw [Bool.eq_false_iff]
    intro h
    unfold Lib.hasSuffix at h
    obtain ⟨y, hy⟩ := List.isSuffixOf_iff_suffix.1 h
    have hc : (32 : UInt8) ∈ chooseT l := by rw [← hy]; simp
    rcases hm _ hc with h | h
    · revert h; decide
    · exact (digit_ok h).2.2.1 rfl
theorem sumLen_cons (x : Bs) (l : List Bs) : sumLen (x :: l) = x.length + sumLen l := by simp [sumLen]
theorem pieces_len (b : Bs) : ∀ l : List Bs, sumLen l + l.length ≤ (piecesT b l).length
  | [] => by simp [sumLen, piecesT]
  | x :: l => by
    have ih := pieces_len b l
    have e : piecesT b (x :: l) = 45 :: 45 :: (b ++ 13 :: 10 :: (x ++ [13, 10])) ++ piecesT b l := by simp [piecesT]
    rw [e, sumLen_cons]
    simp; omega
theorem chooseT_bd {l : List Bs} (h : sumLen l + l.length ≤ 20000) : (chooseT l).length ≤ 70 := by
  have := chooseN_lt [45, 45, 98] l
  have := Lib.itoa_length_le (chooseN [45, 45, 98] l : Nat) (by omega) (by omega)
  unfold chooseT
  simp; omega
theorem whole_back {H : List Fld} {b0 : Bs} {ps : List Prt} (hr : rightF H = true) (hb : boundF H = some (some b0)) (hps : ∀ q ∈ ps, LeafOk q) :
    writeP (.mk H [] true ps) = .error 4 ∨ ∃ t b, writeP (.mk H [] true ps) = .ok t ∧ readP t = .ok (.mk (renF (delF H) b) [] true (ps.map backL)) ∧ (∀ c ∈ b, okQ c = true) := by
  have hcat : partW 4 40 (.mk H [] true ps) = (match eachR (partW 3) 39 ps with
      | .error e => .error e
      | .ok (l, n) => match manyW H l with
        | none => .error 1
        | some s => .ok (s, n)) := by
    conv => lhs; unfold partW
    rw [if_neg (by rw [hr]; decide), hb]
    simp only
    rw [if_neg (by simp), if_pos trivial, if_neg (by simp)]
    rfl
  unfold writeP
  rw [hcat]
  rcases leafs_back 2 ps 39 hps with h | ⟨l, n, e1, e2, e3⟩
  · left; rw [h]
  · rw [e1]
    simp only
    obtain ⟨c1, c2, c3⟩ := chooseT_ok l
    obtain ⟨v, hv, m, pm, hrk, hmul, hgp⟩ : ∃ v, getF H ctN = some v ∧ ∃ m pm, readK v = some (m, pm) ∧ Lib.hasPrefix m multiN = true ∧ getP pm boundN = some b0 := by
      unfold boundF at hb
      cases hg : getF H ctN with
      | none => rw [hg] at hb; cases hb
      | some v =>
        rw [hg] at hb
        simp only at hb
        cases hk : readK v with
        | none => rw [hk] at hb; cases hb
        | some x =>
          obtain ⟨m, pm⟩ := x
          rw [hk] at hb
          simp only at hb
          split at hb
          · rename_i hp
            cases hgp : getP pm boundN with
            | none => rw [hgp] at hb; cases hb
            | some b =>
              rw [hgp] at hb
              simp only at hb
              split at hb
              · cases hb
              · simp at hb; subst hb; exact ⟨v, rfl, m, pm, hk, hp, hgp⟩
          · simp at hb
    obtain ⟨o1, o2⟩ := readK_ok hrk
    obtain ⟨vt, w1, w2, w3⟩ := kind_back o1 (setP_ok (n := boundN) c1 o2)
    have hren : renameF v (chooseT l) = vt := by
      unfold renameF
      rw [hrk]
      simp only [Option.getD_some]
      rw [w1]; rfl
    have hgd : getF (delF H) ctN = some v := by rw [delF_ct H (fun h => ct_cte h.symm), hv]
    have hrr : rightF (renF (delF H) (chooseT l)) = true := renF_right (v := v) (by rw [hren]; exact w3) (rightF_filter _ hr) hgd
    obtain ⟨t, ht, hrd⟩ := head_back hrr
    have hmw : manyW H l = some (t ++ (piecesT (chooseT l) l ++ 45 :: 45 :: (chooseT l ++ [45, 45, 13, 10]))) := by unfold manyW; rw [ht]; rfl
    rw [hmw]
    simp only
    by_cases hlen : 20000 < (t ++ (piecesT (chooseT l) l ++ 45 :: 45 :: (chooseT l ++ [45, 45, 13, 10]))).length
    · left; rw [if_pos hlen]
    · right
      rw [if_neg hlen]
      refine ⟨_, chooseT l, rfl, ?_, c1⟩
      have hsum : sumLen l + l.length ≤ 20000 := by
        have := pieces_len (chooseT l) l
        simp at hlen; omega
      have hbd : boundF (renF (delF H) (chooseT l)) = some (some (chooseT l)) := by
        unfold boundF
        rw [renF_get _ hgd, hren]
        simp only
        rw [w2]
        simp only
        rw [if_pos hmul, getP_set hgp]
        simp only
        rw [if_neg]
        unfold badBound
        rw [c3, decide_eq_false (by have := chooseT_bd hsum; omega)]
        simp [chooseT]
      obtain ⟨mm, r1, r2⟩ := hrd (piecesT (chooseT l) l ++ 45 :: 45 :: (chooseT l ++ [45, 45, 13, 10]))
      have hcb := cut_back (b := chooseT l) (l := l) c2 (hasAny_no (choose_none [45, 45, 98] l))
      have hR : partR 4 40 (t ++ (piecesT (chooseT l) l ++ 45 :: 45 :: (chooseT l ++ [45, 45, 13, 10]))) = .ok (.mk (renF (delF H) (chooseT l)) [] true (ps.map backL), n) := by
        conv => lhs; unfold partR
        rw [r1]
        simp only
        rw [r2]
        simp only
        rw [hbd]
        simp only
        rw [hcb]
        simp only
        rw [e2]
      unfold readP
      rw [if_neg hlen, hR]
      rfl
end Go.Proofs.YtignjjnflcpiiaaGreatDoor
