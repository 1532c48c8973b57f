/- The first number whose sign stands in none of some texts is small. No program, no condition; What package page computes, as plain data: a link is where its value stands, how long it is, and what it says. No program, no condition; strings.IndexRune finds no rune from 128 on in a text of bytes below 1. -/
import Derived.BigQuiet
import Derived.Deep.LoopGhost
import Derived.Deep.QuietTactic
import Derived.Deep.RegionWith
import Derived.IntWalk
import Derived.Laws.RangeString
import Derived.Laws.Runes
import Derived.Lib.DecodeN
import Derived.Lib.ItoaLen
import Derived.Lib.ItoaMem
import Derived.Lib.OthersKept
import Derived.Lib.SpaceUEq
import Derived.Lib.TrimU
import Derived.WalkMore
import Derived.Test.YtignjjnflcpiiaaGreatDoorQ04
namespace Go.Proofs.YtignjjnflcpiiaaGreatDoor
open Go
theorem nodup_lt : ∀ (N : Nat) (l : List Nat), l.Nodup → (∀ x ∈ l, x < N) → l.length ≤ N
  | 0, l, _, h => by
    cases l with
    | nil => simp
    | cons x l => have := h x (by simp); omega
  | N + 1, l, hn, h => by
    by_cases hm : N ∈ l
    · have h1 := nodup_lt N (l.erase N) (hn.erase N) (fun x hx => by
        have h2 := (hn.mem_erase_iff).1 hx
        have h3 := h x h2.2
        have : x ≠ N := h2.1
        omega)
      rw [List.length_erase_of_mem hm] at h1
      omega
    · have h1 := nodup_lt N l hn (fun x hx => by
        have h3 := h x hx
        have : x ≠ N := fun e => hm (e ▸ hx)
        omega)
      omega
def posOf (s p : Bs) : Nat := match cutP p s with | none => 0 | some x => x.1.length
theorem contains_cutP (s p : Bs) : Lib.contains s p = (cutP p s).isSome := by
  unfold Lib.contains
  rw [index_cutP]
  cases cutP p s with
  | none => rfl
  | some x => simp
theorem posOf_le (s p : Bs) : posOf s p ≤ s.length := by
  unfold posOf
  cases h : cutP p s with
  | none => simp
  | some x =>
    obtain ⟨a, b⟩ := x
    have := congrArg List.length (cutP_some h)
    simp at this ⊢; omega
theorem posOf_inj {s p q : Bs} (hp : Lib.contains s p = true) (hq : Lib.contains s q = true) (hl : p.length = q.length) (h : posOf s p = posOf s q) : p = q := by
  rw [contains_cutP] at hp hq
  unfold posOf at h
  cases h1 : cutP p s with
  | none => rw [h1] at hp; cases hp
  | some x =>
    cases h2 : cutP q s with
    | none => rw [h2] at hq; cases hq
    | some y =>
      obtain ⟨a, b⟩ := x
      obtain ⟨c, d⟩ := y
      rw [h1, h2] at h
      simp only at h
      have e1 := cutP_some h1
      have e2 := cutP_some h2
      have e3 := e1.symm.trans e2
      rw [List.append_assoc, List.append_assoc] at e3
      have e4 := (List.append_inj e3 h).2
      exact (List.append_inj e4 hl).1
theorem nodup_map {α : Type} (f : α → Nat) : ∀ (l : List α), l.Nodup → (∀ x ∈ l, ∀ y ∈ l, f x = f y → x = y) → (l.map f).Nodup
  | [], _, _ => by simp
  | x :: l, hn, h => by
    rw [List.map_cons, List.nodup_cons]
    rw [List.nodup_cons] at hn
    refine ⟨fun hm => ?_, nodup_map f l hn.2 fun a ha b hb => h a (by simp [ha]) b (by simp [hb])⟩
    obtain ⟨y, hy, e⟩ := List.mem_map.1 hm
    have := h y (by simp [hy]) x (by simp) e
    exact hn.1 (this ▸ hy)
theorem one_text (s : Bs) (f : Nat → Bs) (m : Nat) (l : List Nat) (hn : l.Nodup) (hf : ∀ x ∈ l, (f x).length = m) (hi : ∀ x ∈ l, ∀ y ∈ l, f x = f y → x = y) (hc : ∀ x ∈ l, Lib.contains s (f x) = true) : l.length ≤ s.length + 1 := by
  have h1 := nodup_map (fun x => posOf s (f x)) l hn (fun x hx y hy e => hi x hx y hy (posOf_inj (hc x hx) (hc y hy) ((hf x hx).trans (hf y hy).symm) e))
  have h2 := nodup_lt (s.length + 1) _ h1 (fun x hx => by
    obtain ⟨y, _, rfl⟩ := List.mem_map.1 hx
    have := posOf_le s (f y); omega)
  simpa using h2
theorem length_filter_two {α : Type} (p q : α → Bool) : ∀ (l : List α), (∀ x ∈ l, p x = true ∨ q x = true) → l.length ≤ (l.filter p).length + (l.filter q).length
  | [], _ => by simp
  | x :: l, h => by
    have ih := length_filter_two p q l fun y hy => h y (by simp [hy])
    have hx := h x (by simp)
    simp only [List.filter_cons, List.length_cons]
    rcases hx with hx | hx
    · rw [hx]; simp only [if_true, List.length_cons]; split <;> simp <;> omega
    · rw [hx]; simp only [if_true, List.length_cons]; split <;> simp <;> omega
theorem some_text (f : Nat → Bs) (m : Nat) : ∀ (ss : List Bs) (l : List Nat), l.Nodup → (∀ x ∈ l, (f x).length = m) → (∀ x ∈ l, ∀ y ∈ l, f x = f y → x = y) → (∀ x ∈ l, ss.any (fun s => Lib.contains s (f x)) = true) → l.length ≤ sumLen ss + ss.length
  | [], l, _, _, _, hc => by
    cases l with
    | nil => simp
    | cons x l => have := hc x (by simp); simp at this
  | s :: ss, l, hn, hf, hi, hc => by
    have h0 := length_filter_two (fun x => Lib.contains s (f x)) (fun x => ss.any fun s => Lib.contains s (f x)) l (fun x hx => by
      have := hc x hx
      rw [List.any_cons, Bool.or_eq_true] at this
      exact this)
    have h1 := one_text s f m (l.filter fun x => Lib.contains s (f x)) (hn.filter _) (fun x hx => hf x (List.mem_filter.1 hx).1) (fun x hx y hy => hi x (List.mem_filter.1 hx).1 y (List.mem_filter.1 hy).1) (fun x hx => (List.mem_filter.1 hx).2)
    have h2 := some_text f m ss (l.filter fun x => ss.any fun s => Lib.contains s (f x)) (hn.filter _) (fun x hx => hf x (List.mem_filter.1 hx).1) (fun x hx y hy => hi x (List.mem_filter.1 hx).1 y (List.mem_filter.1 hy).1) (fun x hx => (List.mem_filter.1 hx).2)
    have e : sumLen (s :: ss) = s.length + sumLen ss := by simp [sumLen]
    rw [e, List.length_cons]
    omega
theorem decDigits_len (u : Nat) : (Lib.decDigits u).length = Lib.nDigits u := by rw [Lib.decDigits_eq]; simp
def numOf (l : Bs) : Nat := l.foldl (fun a c => a * 10 + (c.toNat - 48)) 0
theorem numOf_snoc (l : Bs) (c : UInt8) : numOf (l ++ [c]) = numOf l * 10 + (c.toNat - 48) := by simp [numOf]
theorem numOf_dec (u : Nat) : numOf (Lib.decDigits u) = u := by
  induction u using Nat.strongRecOn with
  | _ u ih =>
    by_cases h : u < 10
    · rw [Lib.decDigits, dif_pos h]
      simp [numOf, UInt8.toNat_ofNat']
      omega
    · rw [Lib.decDigits, dif_neg h, numOf_snoc, ih (u / 10) (by omega)]
      simp [UInt8.toNat_ofNat']
      omega
theorem itoa_inj {a b : Nat} (h : Lib.itoa (a : Int) = Lib.itoa (b : Int)) : a = b := by
  rw [Lib.itoa_nonneg, Lib.itoa_nonneg] at h
  rw [← numOf_dec a, h, numOf_dec]
theorem pow_above : ∀ (k T : Nat), T < 10 ^ k → 1 ≤ T → ∃ d, T < 10 ^ d ∧ 10 ^ d ≤ 10 * T
  | 0, T, h, h1 => by simp at h; omega
  | k + 1, T, h, h1 => by
    by_cases hk : T < 10 ^ k
    · exact pow_above k T hk h1
    · exact ⟨k + 1, h, by rw [Nat.pow_succ]; omega⟩
theorem lt_pow10 (T : Nat) : T < 10 ^ T := Nat.lt_pow_self (by decide)
theorem hasAny_small (pre : Bs) (ss : List Bs) (k : Nat) (h : ∀ j, j < k → hasAny pre ss j = true) : k < 20 * (sumLen ss + ss.length + 1) := by
  rcases Nat.lt_or_ge k (20 * (sumLen ss + ss.length + 1)) with hk | hk
  · exact hk
  · exfalso
    obtain ⟨d, h1, h2⟩ := pow_above _ _ (lt_pow10 (sumLen ss + ss.length + 1)) (by omega)
    have hlen : ∀ x ∈ (List.range (10 ^ d)).map (10 ^ d + ·), (pre ++ Lib.itoa (x : Nat)).length = pre.length + (d + 1) := fun x hx => by
      obtain ⟨y, hy, rfl⟩ := List.mem_map.1 hx
      rw [List.mem_range] at hy
      rw [List.length_append, Lib.itoa_nonneg, decDigits_len, Lib.nDigits_unique d _ (by omega) (by rw [Nat.pow_succ]; omega)]
    have hnd : ((List.range (10 ^ d)).map (10 ^ d + ·)).Nodup := nodup_map _ _ List.nodup_range (fun x _ y _ e => by omega)
    have := some_text (fun n => pre ++ Lib.itoa (n : Nat)) _ ss _ hnd hlen (fun x _ y _ e => itoa_inj (List.append_cancel_left e)) (fun x hx => by
      obtain ⟨y, hy, rfl⟩ := List.mem_map.1 hx
      rw [List.mem_range] at hy
      exact h _ (by omega))
    rw [List.length_map, List.length_range] at this
    omega
theorem firstN_go {p : Nat → Bool} {k n : Nat} (h : p n = false) : firstN p (k + 1) n = firstN p k (n + 1) := by
  show (if p n = true then n else firstN p k (n + 1)) = _
  rw [h]; rfl
theorem firstN_hit {p : Nat → Bool} {k n : Nat} (h : p n = true) : firstN p (k + 1) n = n := by
  show (if p n = true then n else firstN p k (n + 1)) = _
  rw [h]; rfl
theorem firstN_le (p : Nat → Bool) : ∀ k n, firstN p k n ≤ n + k
  | 0, n => Nat.le_refl _
  | k + 1, n => by
    unfold firstN
    have := firstN_le p k (n + 1)
    split <;> omega
theorem chooseN_lt (pre : Bs) (l : List Bs) : chooseN pre l ≤ 20 * (sumLen l + l.length + 1) := by
  have := firstN_le (fun n => !hasAny pre l n) (20 * (sumLen l + l.length + 1)) 0
  unfold chooseN; omega
def runN (s of : Bs) : Nat := (s.takeWhile fun c => of.contains c).length
def sigT : List (Bs × Bs) := [([38], [38, 97, 109, 112, 59]), ([34], [38, 113, 117, 111, 116, 59]), ([39], [38, 35, 51, 57, 59]), ([60], [38, 108, 116, 59]), ([62], [38, 103, 116, 59])]
def sigI (s : Bs) : Option Nat := sigT.findIdx? fun x => Lib.hasPrefix s x.2
def unescF : Nat → Bs → Bs
  | 0, _ => []
  | k + 1, l => if l = [] then [] else match sigI l with
    | none => l.take 1 ++ unescF k (l.drop 1)
    | some j => (sigT.getD j ([], [])).1 ++ unescF k (l.drop (sigT.getD j ([], [])).2.length)
def unescT (l : Bs) : Bs := unescF (l.length + 1) l
abbrev Lnk := Nat × Nat × Bs
def wsA : Bs := [32, 9, 13, 10]
def leadsT : List Bs := [[98, 97, 99, 107, 103, 114, 111, 117, 110, 100], [104, 114, 101, 102], [115, 114, 99]]
def rawsT : List Bs := [[115, 99, 114, 105, 112, 116], [115, 116, 121, 108, 101], [116, 101, 120, 116, 97, 114, 101, 97], [116, 105, 116, 108, 101]]
def alnum : Bs := [65, 66, 67, 68, 69, 70, 71, 72, 73, 74, 75, 76, 77, 78, 79, 80, 81, 82, 83, 84, 85, 86, 87, 88, 89, 90, 97, 98, 99, 100, 101, 102, 103, 104, 105, 106, 107, 108, 109, 110, 111, 112, 113, 114, 115, 116, 117, 118, 119, 120, 121, 122, 48, 49, 50, 51, 52, 53, 54, 55, 56, 57]
def skipN (s p : Bs) (i : Nat) : Nat := if Lib.index (s.drop i) p < 0 then s.length else i + ((Lib.index (s.drop i) p).toNat + p.length)
def valueN (s name : Bs) (i : Nat) : Bool × Nat × List Lnk :=
  match s.drop i with
  | [] => (false, i, [])
  | c :: l =>
    let q := c == 34 || c == 39
    let k := if q then Lib.indexByte l c else Lib.indexAny (c :: l) [32, 9, 13, 10, 62]
    let o := if q then 1 else 0
    if k < 0 then (false, s.length, [])
    else (true, i + k.toNat + 2 * o, if leadsT.contains name then [(i + o, k.toNat, unescT (((c :: l).drop o).take k.toNat))] else [])
def attrN (s : Bs) (i : Nat) : Bool × Nat × List Lnk :=
  let a := i + runN (s.drop i) [32, 9, 13, 10, 47]
  match s.drop a with
  | [] => (false, a, [])
  | c :: l =>
    if c = 62 then (false, a + 1, [])
    else
      let k := Lib.indexAny l [32, 9, 13, 10, 47, 61, 62]
      if k < 0 then (false, s.length, [])
      else
        let b := a + (1 + k.toNat)
        let d := b + runN (s.drop b) wsA
        if (s.drop d).head? = some 61 then valueN s (lowS ((c :: l).take (1 + k.toNat))) (d + 1 + runN (s.drop (d + 1)) wsA)
        else (decide (d < s.length), d, [])
def attrsF (s : Bs) : Nat → Nat → Nat × List Lnk
  | 0, i => (i, [])
  | f + 1, i => match attrN s i with
    | (true, j, l) => ((attrsF s f j).1, l ++ (attrsF s f j).2)
    | (false, j, l) => (j, l)
def tagN (s : Bs) (i : Nat) : Nat × List Lnk :=
  let n := runN (s.drop i) alnum
  let name := lowS ((s.drop i).take n)
  let r := attrsF s (s.length + 1) (i + n)
  if rawsT.contains name then
    (let k := Lib.index (lowS (s.drop r.1)) ([60, 47] ++ name)
     if k < 0 then s.length else r.1 + k.toNat, r.2)
  else r
def linksF (s : Bs) : Nat → Nat → List Lnk
  | 0, _ => []
  | f + 1, i =>
    let a := skipN s [60] i
    match s.drop a with
    | [] => []
    | c :: l =>
      if Lib.hasPrefix (c :: l) [33, 45, 45] then linksF s f (skipN s [45, 45, 62] (a + 3))
      else if c = 47 ∨ c = 33 ∨ c = 63 then linksF s f (skipN s [62] a)
      else if (alnum.take 52).contains c then (tagN s a).2 ++ linksF s f (tagN s a).1
      else linksF s f a
def linksT (s : Bs) : List Lnk := linksF s (s.length + 1) 0
theorem runN_le (s of : Bs) : runN s of ≤ s.length := takeWhile_le _ _
theorem runN_trim (s of : Bs) : s.length - (Lib.trimLeftS s of).length = runN s of := by
  have h := congrArg List.length (List.takeWhile_append_dropWhile (p := fun c => of.contains c) (l := s))
  simp only [List.length_append] at h
  unfold runN Lib.trimLeftS
  omega
theorem index_le (s p : Bs) : Lib.index s p < 0 ∨ (0 ≤ Lib.index s p ∧ (Lib.index s p).toNat + p.length ≤ s.length) := by
  rw [index_cutP]
  cases h : cutP p s with
  | none => left; simp
  | some x =>
    obtain ⟨a, b⟩ := x
    right
    have e := congrArg List.length (cutP_some h)
    simp at e ⊢; omega
theorem skipN_le (s p : Bs) (i : Nat) (hi : i ≤ s.length) : i ≤ skipN s p i ∧ skipN s p i ≤ s.length := by
  unfold skipN
  rcases index_le (s.drop i) p with h | ⟨h1, h2⟩
  · rw [if_pos h]; exact ⟨hi, Nat.le_refl _⟩
  · rw [if_neg (by omega)]
    simp at h2; omega
theorem skipN_lt (s p : Bs) (i : Nat) (hi : i < s.length) (hp : p ≠ []) : i < skipN s p i := by
  have := List.length_pos_iff.2 hp
  unfold skipN
  split <;> omega
theorem indexByte_le (l : Bs) (c : UInt8) : Lib.indexByte l c < 0 ∨ (0 ≤ Lib.indexByte l c ∧ (Lib.indexByte l c).toNat + 1 ≤ l.length) := by
  rw [← Lib.index_one]
  simpa using index_le l [c]
theorem indexAny_le (l cs : Bs) : Lib.indexAny l cs < 0 ∨ (0 ≤ Lib.indexAny l cs ∧ (Lib.indexAny l cs).toNat + 1 ≤ l.length) := by
  rw [indexAny_take]
  have := takeWhile_le (fun c => !cs.contains c) l
  split
  · left; decide
  · right; omega
end Go.Proofs.YtignjjnflcpiiaaGreatDoor
namespace Go.Proofs.YtignjjnflcpiiaaGreatDoor
open Go Go.RowKit
set_option maxHeartbeats 2000000 in
set_option maxRecDepth 100000 in
theorem validRune_any (r : Int) (w : World) : Calls Tryz.prog 293 #[.int .i32 r] w fun e w' => e = .returned (.bool (validRune r)) ∧ w = w' := by
  by_cases h1 : 0 ≤ r ∧ r < 55296
  · obtain ⟨a, b⟩ := h1
    have HV := Lib.hid (show validRune r = true from by unfold validRune; rw [decide_eq_true]; omega)
    go_enter Tryz.func293, Tryz.ntmps293
    go_wp2_with fail
    go_ret
    exact ⟨ret_bool HV.out.symm, rfl⟩
  · by_cases h2 : 57343 < r ∧ r ≤ 1114111
    · obtain ⟨a, b⟩ := h2
      have c : ¬ r < 55296 := by omega
      have d : 0 ≤ r := by omega
      have HV := Lib.hid (show validRune r = true from by unfold validRune; rw [decide_eq_true]; omega)
      clear h1
      go_enter Tryz.func293, Tryz.ntmps293
      go_wp2_with fail
      go_ret
      exact ⟨ret_bool HV.out.symm, rfl⟩
    · have HV := Lib.hid (show validRune r = false from by unfold validRune; rw [decide_eq_false]; omega)
      have H1 := Lib.hid h1; clear h1
      have H2 := Lib.hid h2; clear h2
      go_enter Tryz.func293, Tryz.ntmps293
      go_wp2_with fail
      all_goals
        go_ret
        exact ⟨ret_bool (by have a := HV.out; have b := H1.out; have c := H2.out; first | exact a.symm | (rw [a]; done) | (rw [a]; simp; omega)), rfl⟩
theorem u8_nat (c : UInt8) : ((c.toNat : Int)).toNat.toUInt8 = c := by simp
theorem idxByte0 (l : List UInt8) (c : Int) (d : UInt8) (hc : c.toNat.toUInt8 = d) (w : World) :
    Calls Tryz.prog 100 #[.string ⟨l.toArray⟩, .int .u8 c] w fun e w' => e = .returned (.int .i64 (Lib.indexByte l d)) ∧ w' = w := (idxByte l c d hc w).mono fun _ _ h => ⟨h.1, h.2.symm⟩
set_option maxHeartbeats 4000000 in
set_option maxRecDepth 100000 in
theorem idxRune_hi (l : List UInt8) (r : Int) (h : 128 ≤ r) (hr : r ≤ 1114111) (ha : ∀ c ∈ l, c.toNat < 128) (hl : l.length ≤ 100) (w : World) :
    Calls Tryz.prog 257 #[.string ⟨l.toArray⟩, .int .i32 r] w fun e w' => e = .returned (.int .i64 (-1)) ∧ Below w.heap.size w w' := by
  have n1 : ¬ r < 128 := by omega
  have n0 : (0 : Int) ≤ r := by omega
  have Ha := Lib.hid ha; clear ha
  go_enter Tryz.func257, Tryz.ntmps257
  by_cases he : r = 65533
  · subst he
    go_wp2_with fail
    go_loopg [] l.length (fun g wx => ∃ i : Nat, i + g = l.length ∧ wx = w.iter ⟨l.toArray⟩ i)
    case atStart => exact ⟨0, by omega, rfl⟩
    case round =>
      obtain ⟨i, hig, rfl⟩ := hrel
      cases gk with
      | zero =>
        obtain rfl : i = l.length := by omega
        have hnx := run_next_end (P := Tryz.prog) w ⟨l.toArray⟩ l.length
        go_wp2_with fail
        go_ret
        exact ⟨rfl, (Below.refl _ _).alloc (Nat.le_refl _) _⟩
      | succ g =>
        have hi : i < l.length := by omega
        have hx128 : l[i].toNat < 128 := Ha.out l[i] (List.getElem_mem _)
        have hnx := fun ty => run_next_ascii (P := Tryz.prog) w ⟨l.toArray⟩ i ty hi hx128
        have hne : ((l[i].toNat : Int) == 65533) = false := by rw [beq_eq_false_iff_ne]; omega
        go_wp2_with fail
        go_roundg g
        case measure => omega
        case rel => exact ⟨i + 1, by omega, rfl⟩
  · have e1 : (r == 65533) = false := by rw [beq_eq_false_iff_ne]; exact he
    go_wp2_with fail
    refine (validRune_any r _).mono ?_
    rintro e w1 ⟨rfl, rfl⟩
    cases hv : validRune r with
    | false =>
      clear hv
      go_wp2_with fail
      go_ret
      exact ⟨rfl, Below.refl _ _⟩
    | true =>
      obtain ⟨f1, f2, f3⟩ := encode_facts r (by rw [validRune_eq]; exact hv) h
      have F3 := Lib.hid f3; clear f3 hv
      go_wp2_with fail
      go_step3
      go_wp2_with fail
      refine wp_loop_rounds 1 ?_
      rw [rounds_succ]
      generalize Utf8.encode r = E at f1 f2 F3 ⊢
      obtain ⟨k, hk⟩ : ∃ k : Nat, (E.size : Int) - 1 = (k : Int) := ⟨E.size - 1, by omega⟩
      simp only [hk]
      have x0 : k < E.size := by omega
      have x5 : 128 ≤ (E[k].toNat : Int) := by
        obtain rfl : k = E.size - 1 := by omega
        have := F3.out (by omega)
        omega
      clear hk F3
      by_cases hlt : k < l.length
      · go_wp2_with fail
        go_step3
        go_wp2_with fail
        have x4 : ((l[k].toNat : Int) != (E[k].toNat : Int)) = true := by
          have := Ha.out l[k] (List.getElem_mem _)
          rw [bne_iff_ne]; omega
        have hI : Lib.indexByte (l.drop (k + 1)) E[k] = -1 := by
          rw [indexByte_cutP, cutC_none.2]
          intro hm
          have := Ha.out _ (List.mem_of_mem_drop hm)
          omega
        go_quiet (fail)
        go_wp2_with fail
        have y1 : IntKind.i64.wrap ((k : Int) + 1) = (k : Int) + 1 := IntWalk.i64_in _ (by omega)
        have y2 : (0 : Int) ≤ (k : Int) + 1 := by omega
        have y3 : ((k : Int) + 1).toNat = k + 1 := by omega
        have hB := Go.below_drewN (Below.refl w.heap.size w) nq
        generalize w.drewN nq = w2 at hB ⊢
        go_quiet ((go_at_call 100; exact Calls.quiet_of_same (idxByte0 (l.drop (k + 1)) (E[k].toNat : Int) E[k] (u8_nat E[k]) _)))
        go_wp2_with fail
        rw [Exit.noGoto_ret]
        go_simp
        go_ret
        exact ⟨rfl, Go.below_drewN hB _⟩
      · go_wp2_with fail
        rw [Exit.noGoto_ret]
        go_ret
        exact ⟨rfl, Below.refl _ _⟩
theorem getb (l : Bs) (j : Nat) (h : j < l.length) : (⟨l.toArray⟩ : ByteArray).get! j = l[j] := by
  show (l.toArray)[j]! = _
  simp [h]
theorem decode_hi (l : Bs) (pos : Nat) (h : pos < l.length) (hc : 128 ≤ l[pos].toNat) :
    128 ≤ (Utf8.decode ⟨l.toArray⟩ pos).1 ∧ pos + (Utf8.decode ⟨l.toArray⟩ pos).2 ≤ l.length ∧ ∀ j (hj : j < l.length), pos ≤ j → j < pos + (Utf8.decode ⟨l.toArray⟩ pos).2 → 128 ≤ l[j].toNat := by
  have hs : (⟨l.toArray⟩ : ByteArray).size = l.length := by simp [ByteArray.size]
  rw [Lib.decode_at, hs, getb l pos h]
  have k := Lib.decodeN_conts (l.length - pos) l[pos].toNat ((⟨l.toArray⟩ : ByteArray).get! (pos + 1)).toNat ((⟨l.toArray⟩ : ByteArray).get! (pos + 2)).toNat ((⟨l.toArray⟩ : ByteArray).get! (pos + 3)).toNat
  have c := Lib.decodeN_cases (l.length - pos) l[pos].toNat ((⟨l.toArray⟩ : ByteArray).get! (pos + 1)).toNat ((⟨l.toArray⟩ : ByteArray).get! (pos + 2)).toNat ((⟨l.toArray⟩ : ByteArray).get! (pos + 3)).toNat
  have g1 := Lib.decodeN_ge1 (l.length - pos) l[pos].toNat ((⟨l.toArray⟩ : ByteArray).get! (pos + 1)).toNat ((⟨l.toArray⟩ : ByteArray).get! (pos + 2)).toNat ((⟨l.toArray⟩ : ByteArray).get! (pos + 3)).toNat
  obtain ⟨k2, k3, k4, k5⟩ := k
  refine ⟨?_, by omega, ?_⟩
  · rcases c with c | ⟨c1, c2, c3, c4, c5⟩ | ⟨c1, c2, c3, c4, c5, c6⟩ | c | c
    · omega
    · rw [c5]; exact c4
    · rw [c6]; simp only; omega
    · omega
    · rw [c]; decide
  · intro j hj h1 h2
    by_cases e0 : j = pos
    · subst e0; exact hc
    · by_cases e1 : j = pos + 1
      · subst e1
        have := (k2 (by omega)).1
        rw [getb l _ hj] at this; omega
      · by_cases e2 : j = pos + 2
        · subst e2
          have := (k3 (by omega)).1
          rw [getb l _ hj] at this; omega
        · have e3 : j = pos + 3 := by omega
          subst e3
          have := (k4 (by omega)).1
          rw [getb l _ hj] at this; omega
theorem decode_lo (l : Bs) (pos : Nat) (h : pos < l.length) (hc : l[pos].toNat < 128) : Utf8.decode ⟨l.toArray⟩ pos = (l[pos].toNat, 1) := by
  rw [Lib.decode_at, getb l pos h]
  unfold Lib.decodeN
  rw [if_pos hc]
theorem idxFunc_any (p : Nat → Bool) (hp : ∀ r, 128 ≤ r → p r = true) (l : Bs) : ∀ (f pos : Nat), l.length ≤ pos + f → decide (0 ≤ Lib.idxFuncFrom p true ⟨l.toArray⟩ f pos) = (l.drop pos).any fun c => p c.toNat
  | 0, pos, h => by
    rw [List.drop_of_length_le (by omega)]
    simp [Lib.idxFuncFrom]
  | f + 1, pos, h => by
    unfold Lib.idxFuncFrom
    have hs : (⟨l.toArray⟩ : ByteArray).size = l.length := by simp [ByteArray.size]
    rw [hs]
    by_cases hlt : pos < l.length
    · rw [if_pos hlt, List.drop_eq_getElem_cons hlt, List.any_cons]
      by_cases hc : l[pos].toNat < 128
      · rw [decode_lo l pos hlt hc]
        simp only
        cases hq : p l[pos].toNat with
        | true => simp
        | false =>
          simp only [Bool.false_eq_true, if_false, Bool.false_or]
          exact idxFunc_any p hp l f (pos + 1) (by omega)
      · have h1 := (decode_hi l pos hlt (by omega)).1
        rw [if_pos (hp _ h1), hp l[pos].toNat (by omega)]
        simp
    · rw [if_neg hlt, List.drop_of_length_le (by omega)]
      simp
theorem containsF (g : Nat) (eg : ∀ args w, (callFunc g args).run Tryz.prog w = .ok (.enter g args) w) (p : Nat → Bool) (hp : ∀ r, 128 ≤ r → p r = true) (l : Bs) (lb : Array Value) (w : World) (hg : PredGrows Tryz.prog g lb p w) :
    Calls Tryz.prog 175 #[.string ⟨l.toArray⟩, .func (.func g) #[] lb] w fun e w' => e = .returned (.bool (l.any fun c => p c.toNat)) ∧ Below w.heap.size w w' := by
  refine (Tryz.strings_ContainsFunc_grows g lb eg p ⟨l.toArray⟩ w hg).mono ?_
  rintro e w' ⟨rfl, hb⟩
  unfold Lib.idxFunc
  rw [idxFunc_any p hp l _ 0 (by simp [ByteArray.size])]
  exact ⟨rfl, hb⟩
set_option maxHeartbeats 4000000 in
set_option maxRecDepth 100000 in
theorem idxAny_short (l cs : Bs) (hcs : cs.all (fun b => decide (b.toNat < 128)) = true) (h2 : 2 ≤ cs.length) (h100 : cs.length ≤ 100) (h8 : l.length ≤ 8) (w : World) :
    Calls Tryz.prog 178 #[.string ⟨l.toArray⟩, .string ⟨cs.toArray⟩] w fun e w' => e = .returned (.int .i64 (Lib.indexAny l cs)) ∧ Below w.heap.size w w' := by
  have hac : ∀ c ∈ cs, c.toNat < 128 := fun c hc => by
    have := List.all_eq_true.1 hcs c hc
    simpa using this
  have HA := Lib.hid hac; clear hac hcs
  have hemp : cs.isEmpty = false := by
    cases cs with
    | nil => simp at h2
    | cons _ _ => rfl
  have hn1 : ((cs.length : Int) == 1) = false := beq_eq_false_iff_ne.2 (by omega)
  have h8z : decide ((8 : Int) < (l.length : Int)) = false := decide_eq_false (by omega)
  go_enter Tryz.func178, Tryz.ntmps178
  go_wp2_with fail
  refine (Tryz.strings_shouldUseASCIISet _ _).mono ?_
  rintro e w' ⟨rfl, hw⟩
  obtain rfl := hw.symm
  go_wp2_with fail
  go_loopg [9, 10] l.length (fun g _ _ wx => ∃ i : Nat, i + g ≥ l.length ∧ i ≤ l.length ∧ wx.heap[w.heap.size]? = some (.stringIter ⟨l.toArray⟩ i) ∧ Below w.heap.size w wx ∧ Lib.NoAny l cs i)
  case atStart => exact ⟨0, by omega, by omega, World.iter_heap w _ 0, (Below.refl _ w).alloc (Nat.le_refl _) _, Lib.NoAny.zero _ _⟩
  case round =>
    obtain ⟨i, hig, hil, hit, hB, hno⟩ := hrel
    have HN := Lib.hid hno; clear hno
    have Hit := Lib.hid hit; clear hit
    by_cases hi : i < l.length
    · have hib : i < (⟨l.toArray⟩ : ByteArray).size := by simpa [ByteArray.size] using hi
      have hnx : ∀ ty, (Instr.next (.pointer (some ⟨w.heap.size, 0, none⟩)) true ty).run Tryz.prog wr = _ := fun ty => Lib.run_next_any_at wr w.heap.size ⟨l.toArray⟩ i ty Hit.out hib
      have hbw2 := Lib.below_iterAt hB (k := w.heap.size) (Nat.le_refl _) ⟨l.toArray⟩ (i + (Utf8.decode ⟨l.toArray⟩ i).2)
      have hit2 := Lib.hid (Lib.iterAt_heap wr w.heap.size ⟨l.toArray⟩ i (i + (Utf8.decode ⟨l.toArray⟩ i).2) Hit.out)
      obtain ⟨g, rfl⟩ : ∃ g, gk = g + 1 := ⟨gk - 1, by omega⟩
      by_cases hc : l[i].toNat < 128
      · have hd := decode_lo l i hi hc
        rw [hd] at hnx hbw2 hit2
        simp only at hnx hbw2 hit2
        have Hx := Lib.hid (show l[i]? = some l[i] from List.getElem?_eq_getElem hi)
        clear hd
        generalize wr.iterAt w.heap.size ⟨l.toArray⟩ (i + 1) = W at hnx hbw2 hit2
        generalize l[i] = x at hnx hc Hx
        have hcon := Lib.contains_iff_indexByte cs x
        have hback : ((x.toNat : Int)).toNat.toUInt8 = x := u8_nat x
        cases hin : cs.contains x
        · rw [hin] at hcon
          have hlt : ¬ ((0 : Int) ≤ Lib.indexByte cs x) := of_decide_eq_false hcon.symm
          clear hcon
          have Hin := Lib.hid hin; clear hin
          go_wp2_with fail
          refine (Tryz.strings_IndexRune_ascii _ _ _ (by omega) (by omega)).mono ?_
          rintro e w' ⟨rfl, hw⟩
          obtain rfl := hw.symm
          rw [hback]
          go_wp2_with fail
          go_roundg g
          case measure => omega
          case rel => exact ⟨i + 1, by omega, by omega, hit2.out, hbw2, HN.out.succ Hx.out Hin.out⟩
        · rw [hin] at hcon
          have hge : (0 : Int) ≤ Lib.indexByte cs x := of_decide_eq_true hcon.symm
          clear hcon
          have Hin := Lib.hid hin; clear hin
          go_wp2_with fail
          refine (Tryz.strings_IndexRune_ascii _ _ _ (by omega) (by omega)).mono ?_
          rintro e w' ⟨rfl, hw⟩
          obtain rfl := hw.symm
          rw [hback]
          go_wp2_with fail
          go_ret
          exact ⟨by rw [Lib.indexAny_hit HN.out Hx.out Hin.out]; rfl, hbw2⟩
      · obtain ⟨d1, d2, d3⟩ := decode_hi l i hi (by omega)
        have d4 := Lib.decode_width_pos ⟨l.toArray⟩ i hib
        have hr := Lib.rune_le ⟨l.toArray⟩ i
        have HN2 : Lib.NoAny l cs (i + (Utf8.decode ⟨l.toArray⟩ i).2) := fun j b hj hb => by
          by_cases hji : j < i
          · exact HN.out j b hji hb
          · obtain ⟨hjl, rfl⟩ := List.getElem?_eq_some_iff.1 hb
            have h128 := d3 j hjl (by omega) hj
            rw [Bool.eq_false_iff]
            intro hm
            have := HA.out l[j] (List.contains_iff_mem.1 hm)
            omega
        have HN2 := Lib.hid HN2
        clear d3
        generalize Utf8.decode ⟨l.toArray⟩ i = D at hnx hbw2 hit2 d1 d2 d4 hr HN2
        obtain ⟨R, K⟩ := D
        simp only at hnx hbw2 hit2 d1 d2 d4 hr HN2
        generalize wr.iterAt w.heap.size ⟨l.toArray⟩ (i + K) = W at hnx hbw2 hit2
        have hltW : w.heap.size < W.heap.size := (Array.getElem?_eq_some_iff.1 hit2.out).1
        go_wp2_with fail
        refine (idxRune_hi cs (R : Int) (by omega) (by omega) HA.out h100 _).mono ?_
        rintro e w' ⟨rfl, hb⟩
        go_wp2_with fail
        go_roundg g
        case measure => omega
        case rel => exact ⟨i + K, by omega, by omega, (hb.block _ hltW).trans hit2.out, hbw2.trans (hb.mono hbw2.size), HN2.out⟩
    · have hib : ¬ i < (⟨l.toArray⟩ : ByteArray).size := by simpa [ByteArray.size] using hi
      have hnx : ∀ ty, (Instr.next (.pointer (some ⟨w.heap.size, 0, none⟩)) true ty).run Tryz.prog wr = _ := fun ty => Lib.run_next_end_at wr w.heap.size ⟨l.toArray⟩ i ty Hit.out hib
      obtain rfl : i = l.length := by omega
      go_wp2_with fail
      go_ret
      exact ⟨by rw [Lib.indexAny_none HN.out]; rfl, hB⟩
theorem idxAny (l cs : Bs) (hcs : cs.all (fun b => decide (b.toNat < 128)) = true) (h2 : 2 ≤ cs.length) (h100 : cs.length ≤ 100) (hl : l.length < 4294967281) (w : World) :
    Calls Tryz.prog 178 #[.string ⟨l.toArray⟩, .string ⟨cs.toArray⟩] w fun e w' => e = .returned (.int .i64 (Lib.indexAny l cs)) ∧ Below w.heap.size w w' := by
  by_cases h8 : l.length ≤ 8
  · exact idxAny_short l cs hcs h2 h100 h8 w
  · have hv : ∀ w, (zeroValue 235).run Tryz.prog w = .ok (.agg (Array.replicate 256 (.bool false))) w := fun w => by kernel_rfl
    refine (Tryz.strings_IndexAny_long hv ⟨l.toArray⟩ ⟨cs.toArray⟩ w (by simpa [ByteArray.size] using h2) (by simp [ByteArray.size]; omega) (by simpa [ByteArray.size] using hl) (by simp [ByteArray.size]; omega) (fun j b hj => ?_)).mono ?_
    · have := List.all_eq_true.1 hcs b (List.mem_of_getElem? hj)
      simpa using this
    · rintro e w' ⟨rfl, rfl⟩
      exact ⟨rfl, ((Below.refl _ _).alloc (Nat.le_refl _) _).alloc (by simp) _⟩
set_option maxHeartbeats 2000000 in
set_option maxRecDepth 100000 in
theorem token1_any (r : Nat) (hr : r ≤ 1114111) (w : World) :
    Calls Tryz.prog 176 #[.int .i32 (r : Int)] w fun e w' => e = .returned (.bool (badR r)) ∧ w = w' := by
  by_cases h1 : r < 33
  · have HB := Lib.hid (show badR r = true from by unfold badR; rw [decide_eq_true h1]; rfl)
    go_enter Tryz.func176, Tryz.ntmps176
    go_wp2_with fail
    go_ret
    exact ⟨ret_bool HB.out.symm, rfl⟩
  · by_cases h2 : 126 < r
    · have HB := Lib.hid (show badR r = true from by unfold badR; rw [decide_eq_true h2]; simp)
      go_enter Tryz.func176, Tryz.ntmps176
      go_wp2_with fail
      go_ret
      exact ⟨ret_bool HB.out.symm, rfl⟩
    · have HB := Lib.hid (show badR r = decide (0 ≤ Lib.indexByte tspec r.toUInt8) from by unfold badR; rw [decide_eq_false h1, decide_eq_false h2, Lib.contains_iff_indexByte]; rfl)
      have hr0 : (0 : Int) ≤ r := by omega
      go_enter Tryz.func176, Tryz.ntmps176
      go_wp2_with fail
      refine (Tryz.strings_ContainsRune_ascii _ _ _ (by omega) (by omega)).mono ?_
      rintro e w' ⟨rfl, hw⟩
      obtain rfl := hw.symm
      go_wp2_with fail
      go_ret
      exact ⟨ret_bool (by rw [HB.out, decide_eq_false (show ¬ (r : Int) < 33 by omega), decide_eq_false (show ¬ (126 : Int) < r by omega)]; rfl), rfl⟩
theorem token1_grows (w : World) : PredGrows Tryz.prog 176 #[] badR w := fun W x hx _ =>
  (token1_any x hx W).mono fun _ _ ⟨h1, h2⟩ => ⟨h1, h2 ▸ Below.refl _ _⟩
set_option maxHeartbeats 2000000 in
set_option maxRecDepth 100000 in
theorem token_any (s : Bs) (w : World) (hl : s.length ≤ 1000000000000) :
    Calls Tryz.prog 90 #[.string ⟨s.toArray⟩] w fun e w' => e = .returned (.bool (tokB s)) ∧ Below w.heap.size w w' := by
  have hC := fun W => containsF 176 (enters_of Tryz.func176 (by kernel_rfl) rfl) badR badR_hi s #[] W (token1_grows W)
  have HT := Lib.hid (show tokB s = (!s.isEmpty && !(s.any fun c => badR c.toNat)) from rfl)
  generalize (s.any fun c => badR c.toNat) = q at hC HT
  by_cases h0 : s = []
  · subst h0
    go_enter Tryz.func90, Tryz.ntmps90
    go_wp2_with fail
    go_ret
    exact ⟨ret_bool (by rw [HT.out]; rfl), Below.refl _ _⟩
  · have he : s.isEmpty = false := by rw [Bool.eq_false_iff]; simpa using h0
    go_enter Tryz.func90, Tryz.ntmps90
    go_wp2_with fail
    refine (hC _).mono ?_
    rintro e w1 ⟨rfl, hb⟩
    go_wp2_with fail
    go_ret
    exact ⟨ret_bool (by rw [HT.out, he]; rfl), hb⟩
theorem okQ_all : ((List.range 256).all fun n => okQ n.toUInt8 == (decide (32 ≤ (n.toUInt8.toNat : Int)) && decide ((n.toUInt8.toNat : Int) ≤ 126))) = true := by kernel_rfl
theorem okQ_int (c : UInt8) : okQ c = (decide (32 ≤ (c.toNat : Int)) && decide ((c.toNat : Int) ≤ 126)) := by
  have := List.all_eq_true.1 okQ_all c.toNat (List.mem_range.2 c.toNat_lt)
  rw [show c.toNat.toUInt8 = c by simp] at this
  exact beq_iff_eq.1 this
theorem u8_ne {c d : UInt8} (h : c ≠ d) : ((c.toNat : Int) == (d.toNat : Int)) = false := by
  rw [beq_eq_false_iff_ne]; intro e; exact h (UInt8.toNat_inj.1 (by omega))
def saidV (x : Bs × Bs × Bool) : Value := .tuple #[.string ⟨x.1.toArray⟩, .string ⟨x.2.1.toArray⟩, .bool x.2.2]
set_option maxHeartbeats 4000000 in
set_option maxRecDepth 100000 in
theorem said_bare (s : Bs) (w : World) (hl : s.length ≤ 1000000000) (hp : Lib.hasPrefix s [34] = false) :
    Calls Tryz.prog 93 #[.string ⟨s.toArray⟩] w fun e w' => e = .returned (saidV (saidT s)) ∧ Below w.heap.size w w' := by
  have HT := Lib.hid (show saidT s = (s.take (s.takeWhile fun c => !endK c).length, s.drop (s.takeWhile fun c => !endK c).length, tokB (s.take (s.takeWhile fun c => !endK c).length)) from by unfold saidT; rw [if_neg (by rw [hp]; decide), take_takeWhile, drop_takeWhile])
  have hK := takeWhile_le (fun c => !endK c) s
  have hI := indexAny_take [59, 32, 9] s
  change Lib.indexAny s [59, 32, 9] = if (s.takeWhile fun c => !endK c).length = s.length then -1 else ((s.takeWhile fun c => !endK c).length : Int) at hI
  generalize (s.takeWhile fun c => !endK c).length = K at HT hK hI
  have HI := Lib.hid hI; clear hI
  have HP := Lib.hid hp; clear hp
  go_enter Tryz.func93, Tryz.ntmps93
  go_wp2_with fail
  refine (hasPre s [34] _).mono ?_
  rintro e w' ⟨rfl, rfl⟩
  rw [HP.out]
  go_wp2_with fail
  refine (idxAny s [59, 32, 9] (by decide) (by decide) (by decide) (by omega) _).mono ?_
  rintro e w1 ⟨rfl, hb1⟩
  rw [HI.out]
  have hTok := fun W => token_any (s.take K) W (by simp; omega)
  by_cases h : K = s.length
  · subst h
    rw [if_pos rfl]
    rw [List.take_length] at hTok
    have HT2 := Lib.hid (show saidT s = (s, [], tokB s) from by rw [HT.out, List.take_length, List.drop_length])
    clear HT
    go_wp2_with fail
    go_region_with ((go_at_call 90; refine (hTok _).mono ?_; rintro e w2 ⟨rfl, hb2⟩))
    all_goals
      go_wp2_with fail
      refine bodyPost_ret (v := saidV (s, [], tokB s)) (by simp [results, Tryz.results93, go_sem, saidV]; rfl) rfl ⟨by rw [HT2.out], by first | exact hb1.trans (hb2.mono hb1.size) | exact hb1.drew.trans (hb2.mono hb1.drew.size)⟩
  · rw [if_neg h]
    have hlt : K < s.length := by omega
    go_wp2_with fail
    go_region_with ((go_at_call 90; refine (hTok _).mono ?_; rintro e w2 ⟨rfl, hb2⟩))
    all_goals
      go_wp2_with fail
      refine bodyPost_ret (v := saidV (s.take K, s.drop K, tokB (s.take K))) (by simp [results, Tryz.results93, go_sem, saidV]) rfl ⟨by rw [HT.out], by first | exact hb1.trans (hb2.mono hb1.size) | exact hb1.drew.trans (hb2.mono hb1.drew.size)⟩
set_option maxHeartbeats 4000000 in
set_option maxRecDepth 100000 in
theorem said_quo (s : Bs) (w : World) (hl : s.length ≤ 1000000000) (hp : Lib.hasPrefix s [34] = true) :
    Calls Tryz.prog 93 #[.string ⟨s.toArray⟩] w fun e w' => e = .returned (saidV (saidT s)) ∧ Below w.heap.size w w' := by
  have HT := Lib.hid (show saidT s = match saidQ (s.drop 1) with | none => ([], [], false) | some x => (x.1, x.2, true) from by unfold saidT; rw [if_pos hp]; rfl)
  have HP := Lib.hid hp
  have hne : 1 ≤ s.length := by
    cases s with
    | nil => simp [Lib.hasPrefix] at hp
    | cons _ _ => simp
  clear hp
  have b0 := bldNew w
  go_enter Tryz.func93, Tryz.ntmps93
  go_wp2_with fail
  refine (hasPre s [34] _).mono ?_
  rintro e w' ⟨rfl, rfl⟩
  rw [HP.out]
  go_wp2_with fail
  go_loopw [7] (fun i wr => ∃ (k : Nat) (out : Bs), i = .int .i64 k ∧ 1 ≤ k ∧ k ≤ s.length ∧ out.length ≤ k ∧ Bld w.heap.size w.heap.size out wr ∧ (saidQ (s.drop k)).map (fun x => (out ++ x.1, x.2)) = saidQ (s.drop 1) ∧ Below w.heap.size w wr) (fun i _ => s.length - (intOf i).toNat)
  case atStart => exact ⟨1, [], rfl, by omega, by omega, by simp, b0, by simp, by go_grown⟩
  case round =>
    obtain ⟨k, out, rfl, hk1, hk, hol, hb, hall, B⟩ := hrel
    have Hall := Lib.hid hall; clear hall
    by_cases hlt : k < s.length
    · by_cases h34 : s[k] = 34
      · have HN := Lib.hid (show saidT s = (out, s.drop (k + 1), true) from by
          rw [HT.out, ← Hall.out, List.drop_eq_getElem_cons hlt, h34]
          cases hd : s.drop (k + 1) <;> simp [saidQ])
        have hcc : ((s[k].toNat : Int) == 34) = true := by rw [h34]; rfl
        clear h34
        go_wp2_with fail
        have y1 : IntKind.i64.wrap ((k : Int) + 1) = (k : Int) + 1 := IntWalk.i64_in _ (by omega)
        have y2 : (0 : Int) ≤ (k : Int) + 1 := by omega
        have y3 : ((k : Int) + 1).toNat = k + 1 := by omega
        have y4 : (k : Int) + 1 ≤ s.length := by omega
        have hS := fun W (hW : Bld w.heap.size w.heap.size out W) (hz : w.heap.size ≤ W.heap.size) => bldStr w.heap.size w.heap.size out W hW hz
        have hbd := hb.drew
        have hBd := B.drew
        have hsz := hBd.size
        go_region_law ((go_simp; refine (hS _ (by first | exact hbd | exact hb) (by first | exact hsz | exact B.size)).mono ?_; rintro e w2 ⟨rfl, hb2⟩))
        all_goals
          go_wp2_with fail
          refine bodyPost_ret (v := saidV (out, s.drop (k + 1), true)) (by simp [results, Tryz.results93, go_sem, saidV]) rfl ⟨by rw [HN.out], by first | exact hBd.trans hb2 | exact B.trans hb2⟩
      · obtain ⟨j, hj, hkj, hj1, hj2, hst⟩ := saidQ_step s k hlt h34
        have n34 : ((s[k].toNat : Int) == 34) = false := u8_ne h34
        have Hst := Lib.hid hst; clear hst
        have Hj1 := Lib.hid hj1; clear hj1
        have Hj2 := Lib.hid hj2; clear hj2 h34
        go_upto_block 2 with fail
        go_cut [7] (fun t wx => t = .int .i64 j ∧ wx = wr)
        case first =>
          by_cases h92 : s[k] = 92
          · have e92 : ((s[k].toNat : Int) == 92) = true := by rw [h92]; rfl
            by_cases h1 : k + 1 < s.length
            · have HJ := Lib.hid (Hj1.out ⟨h92, h1⟩)
              have h1' : (k : Int) + 1 < s.length := by omega
              clear h92
              go_wp2_with fail
              go_meet
              exact ⟨by rw [HJ.out]; go_num, rfl⟩
            · have HJ := Lib.hid (Hj2.out (fun h => h1 h.2))
              have h1' : (s.length : Int) ≤ (k : Int) + 1 := by omega
              clear h92
              go_wp2_with fail
              go_meet
              exact ⟨by rw [HJ.out], rfl⟩
          · have HJ := Lib.hid (Hj2.out (fun h => h92 h.1))
            have e92 : ((s[k].toNat : Int) == 92) = false := u8_ne h92
            clear h92
            go_wp2_with fail
            go_meet
            exact ⟨by rw [HJ.out], rfl⟩
        case rest =>
          obtain ⟨rfl, rfl⟩ := hcut
          obtain ⟨wr, rfl⟩ : ∃ x : World, x = wc := ⟨_, rfl⟩
          clear n34 Hj1 Hj2 hlt
          have HI := Lib.hid (okQ_int s[j])
          have hc256 : (s[j].toNat : Int) < 256 := by have := s[j].toNat_lt; omega
          by_cases hok : 32 ≤ (s[j].toNat : Int) ∧ (s[j].toNat : Int) ≤ 126
          · obtain ⟨ho1, ho2⟩ := hok
            have HQ := Lib.hid (show (saidQ (s.drop (j + 1))).map (fun x => ((out ++ [s[j]]) ++ x.1, x.2)) = saidQ (s.drop 1) from by
              rw [← Hall.out, Hst.out, HI.out, decide_eq_true ho1, decide_eq_true ho2]
              cases saidQ (s.drop (j + 1)) <;> simp)
            clear Hst HI
            go_wp2_with fail
            refine (wrByte w.heap.size w.heap.size out _ s[j] rfl _ hb (by omega) B.size).mono ?_
            rintro e w2 ⟨rfl, hb2, hB2⟩
            go_wp2_with fail
            go_roundw
            case rel => exact ⟨j + 1, out ++ [s[j]], by go_num, by omega, by omega, by simp; omega, hb2, HQ.out, B.trans hB2⟩
            case measure => simp [intOf]; omega
          · have HN := Lib.hid (show saidT s = ([], [], false) from by
              have h0 : okQ s[j] = false := by
                rw [HI.out, Bool.eq_false_iff]
                intro h
                simp at h
                exact hok h
              rw [HT.out, ← Hall.out, Hst.out, h0]; rfl)
            have Hok := Lib.hid hok; clear hok Hst HI
            by_cases h32 : (s[j].toNat : Int) < 32
            · go_wp2_with fail
              refine bodyPost_ret (v := saidV ([], [], false)) (by simp [results, Tryz.results93, go_sem, saidV]) rfl ⟨by rw [HN.out], B⟩
            · have h126 : 126 < (s[j].toNat : Int) := by have := Hok.out; omega
              go_wp2_with fail
              refine bodyPost_ret (v := saidV ([], [], false)) (by simp [results, Tryz.results93, go_sem, saidV]) rfl ⟨by rw [HN.out], B⟩
    · obtain rfl : k = s.length := by omega
      have HN := Lib.hid (show saidT s = ([], [], false) from by rw [HT.out, ← Hall.out, List.drop_length]; rfl)
      go_wp2_with fail
      refine bodyPost_ret (v := saidV ([], [], false)) (by simp [results, Tryz.results93, go_sem, saidV]) rfl ⟨by rw [HN.out], B⟩
theorem said_any (s : Bs) (w : World) (hl : s.length ≤ 1000000000) :
    Calls Tryz.prog 93 #[.string ⟨s.toArray⟩] w fun e w' => e = .returned (saidV (saidT s)) ∧ Below w.heap.size w w' := by
  cases hp : Lib.hasPrefix s [34] with
  | true => exact said_quo s w hl hp
  | false => exact said_bare s w hl hp
end Go.Proofs.YtignjjnflcpiiaaGreatDoor
