/- Laws on what package page computes: where the links of a page lie. No program, no condition; page's tag: behind a tag. Condition: the page takes at most 10^9 bytes; page.Links: the links of a page. Condition: the page takes at most 10^9 bytes; page.Replace, as plain data, and its laws. No program, n. -/
import Derived.Test.YtignjjnflcpiiaaGreatDoorR14
namespace Go.Proofs.YtignjjnflcpiiaaGreatDoor
open Go
def Lies : Nat → List Lnk → Nat → Prop
  | i, [], j => i ≤ j
  | i, x :: l, j => i ≤ x.1 ∧ Lies (x.1 + x.2.1) l j
theorem Lies.le : ∀ {l : List Lnk} {i j : Nat}, Lies i l j → i ≤ j
  | [], _, _, h => h
  | _ :: l, _, _, h => by have := Lies.le (l := l) h.2; have := h.1; omega
theorem Lies.wide : ∀ {l : List Lnk} {i j i' j' : Nat}, Lies i l j → i' ≤ i → j ≤ j' → Lies i' l j'
  | [], _, _, _, _, h, h1, h2 => by unfold Lies at h ⊢; omega
  | _ :: l, _, _, _, _, h, h1, h2 => ⟨by have := h.1; omega, Lies.wide (l := l) h.2 (Nat.le_refl _) h2⟩
theorem Lies.append : ∀ {l m : List Lnk} {i j k : Nat}, Lies i l j → Lies j m k → Lies i (l ++ m) k
  | [], _, _, _, _, h1, h2 => h2.wide h1 (Nat.le_refl _)
  | _ :: l, _, _, _, _, h1, h2 => ⟨h1.1, Lies.append (l := l) h1.2 h2⟩
theorem valueN_lies {s name : Bs} {i : Nat} (hi : i ≤ s.length) : Lies i (valueN s name i).2.2 (valueN s name i).2.1 ∧ (valueN s name i).2.1 ≤ s.length ∧ (valueN s name i).2.2.length ≤ 1 := by
  unfold valueN
  cases hd : s.drop i with
  | nil => exact ⟨Nat.le_refl _, hi, by simp⟩
  | cons c l =>
    have hlen : i + (l.length + 1) = s.length := by
      have := congrArg List.length hd
      rw [List.length_drop, List.length_cons] at this; omega
    have hK : ∀ q : Bool, (if q then Lib.indexByte l c else Lib.indexAny (c :: l) [32, 9, 13, 10, 62]) < 0 ∨ (0 ≤ (if q then Lib.indexByte l c else Lib.indexAny (c :: l) [32, 9, 13, 10, 62]) ∧ (if q then Lib.indexByte l c else Lib.indexAny (c :: l) [32, 9, 13, 10, 62]).toNat + 2 * (if q then 1 else 0) ≤ l.length + 1) := by
      intro q
      cases q with
      | true =>
        rcases indexByte_le l c with h | h
        · exact Or.inl h
        · right; simp; omega
      | false =>
        rcases indexAny_le (c :: l) [32, 9, 13, 10, 62] with h | h
        · exact Or.inl h
        · right; simp at h; simp; omega
    simp only
    have hK := hK (c == 34 || c == 39)
    generalize (c == 34 || c == 39) = q at hK ⊢
    generalize (if q = true then Lib.indexByte l c else Lib.indexAny (c :: l) [32, 9, 13, 10, 62]) = kz at hK ⊢
    have ho : (if q = true then 1 else 0) ≤ 1 := by split <;> omega
    generalize (if q = true then 1 else 0) = o at hK ho ⊢
    by_cases hz : kz < 0
    · rw [if_pos hz]; exact ⟨hi, Nat.le_refl _, by simp⟩
    · rw [if_neg hz]
      refine ⟨?_, by simp only; omega, by simp only; split <;> simp⟩
      simp only
      split
      · exact ⟨by simp only; omega, by simp only [Lies]; omega⟩
      · simp only [Lies]; omega
theorem attrN_lies {s : Bs} {i : Nat} (hi : i ≤ s.length) : Lies i (attrN s i).2.2 (attrN s i).2.1 ∧ (attrN s i).2.1 ≤ s.length ∧ (attrN s i).2.2.length ≤ (attrN s i).2.1 - i ∧ ((attrN s i).1 = true → i < (attrN s i).2.1) := by
  have hr := runN_le (s.drop i) [32, 9, 13, 10, 47]
  rw [List.length_drop] at hr
  obtain ⟨a, ha⟩ : ∃ a, a = i + runN (s.drop i) [32, 9, 13, 10, 47] := ⟨_, rfl⟩
  have hia : i ≤ a := by omega
  have hal : a ≤ s.length := by omega
  unfold attrN
  simp only [← ha]
  cases hd : s.drop a with
  | nil => exact ⟨hia, hal, by simp, by simp⟩
  | cons c l =>
    have hlen : a + (l.length + 1) = s.length := by
      have := congrArg List.length hd
      rw [List.length_drop, List.length_cons] at this; omega
    simp only
    by_cases h62 : c = 62
    · rw [if_pos h62]
      exact ⟨by simp only [Lies]; omega, by simp only; omega, by simp, by simp⟩
    rw [if_neg h62]
    have hk := indexAny_le l [32, 9, 13, 10, 47, 61, 62]
    generalize Lib.indexAny l [32, 9, 13, 10, 47, 61, 62] = kz at hk ⊢
    by_cases hz : kz < 0
    · rw [if_pos hz]; exact ⟨hi, Nat.le_refl _, by simp, by simp⟩
    rw [if_neg hz]
    obtain ⟨b, hb⟩ : ∃ b, b = a + (1 + kz.toNat) := ⟨_, rfl⟩
    simp only [← hb]
    have hrb := runN_le (s.drop b) wsA
    rw [List.length_drop] at hrb
    obtain ⟨d, hdd⟩ : ∃ d, d = b + runN (s.drop b) wsA := ⟨_, rfl⟩
    simp only [← hdd]
    by_cases h61 : (s.drop d).head? = some 61
    · rw [if_pos h61]
      have hdl : d < s.length := by
        rcases Nat.lt_or_ge d s.length with h | h
        · exact h
        · rw [List.drop_of_length_le h] at h61; cases h61
      have hrj := runN_le (s.drop (d + 1)) wsA
      rw [List.length_drop] at hrj
      obtain ⟨h1, h2, h3⟩ := valueN_lies (s := s) (name := lowS ((c :: l).take (1 + kz.toNat))) (i := d + 1 + runN (s.drop (d + 1)) wsA) (by omega)
      have h4 := h1.le
      exact ⟨h1.wide (by omega) (Nat.le_refl _), h2, by omega, fun _ => by omega⟩
    · rw [if_neg h61]
      exact ⟨by simp only [Lies]; omega, by simp only; omega, by simp, fun _ => by simp only; omega⟩
theorem attrsF_more {s : Bs} : ∀ f i, i ≤ s.length → s.length - i < f → attrsF s f i = attrsF s (s.length + 1) i := by
  have key : ∀ f g i, i ≤ s.length → s.length - i < f → s.length - i < g → attrsF s f i = attrsF s g i := by
    intro f
    induction f with
    | zero => intro g i _ h; omega
    | succ f ih =>
      intro g i hi hf hg
      cases g with
      | zero => omega
      | succ g =>
        have hl := attrN_lies hi
        unfold attrsF
        rcases he : attrN s i with ⟨b, j, l⟩
        rw [he] at hl
        cases b with
        | false => rfl
        | true =>
          have hij := hl.2.2.2 rfl
          simp only at hij hl ⊢
          rw [ih g j hl.2.1 (by omega) (by omega)]
  exact fun f i hi hf => key f _ i hi hf (by omega)
def attrsT (s : Bs) (i : Nat) : Nat × List Lnk := attrsF s (s.length + 1) i
theorem attrsT_go {s : Bs} {i : Nat} (hi : i ≤ s.length) (h : (attrN s i).1 = true) : attrsT s i = ((attrsT s (attrN s i).2.1).1, (attrN s i).2.2 ++ (attrsT s (attrN s i).2.1).2) := by
  have hl := attrN_lies hi
  have h2 := hl.2.2.2 h
  unfold attrsT
  conv => lhs; unfold attrsF
  rw [← attrsF_more s.length _ hl.2.1 (by omega)]
  rcases he : attrN s i with ⟨b, j, l⟩
  rw [he] at h
  simp only at h
  subst h
  rfl
theorem attrsT_end {s : Bs} {i : Nat} (h : (attrN s i).1 = false) : attrsT s i = (attrN s i).2 := by
  unfold attrsT attrsF
  rcases he : attrN s i with ⟨b, j, l⟩
  rw [he] at h
  simp only at h
  subst h
  rfl
theorem attrsT_lies {s : Bs} : ∀ n i, s.length - i ≤ n → i ≤ s.length → Lies i (attrsT s i).2 (attrsT s i).1 ∧ (attrsT s i).1 ≤ s.length ∧ (attrsT s i).2.length ≤ (attrsT s i).1 - i
  | n, i, hn, hi => by
    have hl := attrN_lies hi
    cases hb : (attrN s i).1 with
    | false => rw [attrsT_end hb]; exact ⟨hl.1, hl.2.1, hl.2.2.1⟩
    | true =>
      have hij := hl.2.2.2 hb
      rw [attrsT_go hi hb]
      have h2 := hl.2.1
      cases n with
      | zero => omega
      | succ n =>
        have ih := attrsT_lies n (attrN s i).2.1 (by omega) h2
        have := ih.1.le
        refine ⟨hl.1.append ih.1, ih.2.1, ?_⟩
        have a1 := ih.2.2
        have a2 := hl.2.2.1
        simp only [List.length_append]
        omega
theorem tagN_eq (s : Bs) (i : Nat) : tagN s i = if rawsT.contains (lowS ((s.drop i).take (runN (s.drop i) alnum))) then (if Lib.index (lowS (s.drop (attrsT s (i + runN (s.drop i) alnum)).1)) ([60, 47] ++ lowS ((s.drop i).take (runN (s.drop i) alnum))) < 0 then s.length else (attrsT s (i + runN (s.drop i) alnum)).1 + (Lib.index (lowS (s.drop (attrsT s (i + runN (s.drop i) alnum)).1)) ([60, 47] ++ lowS ((s.drop i).take (runN (s.drop i) alnum)))).toNat, (attrsT s (i + runN (s.drop i) alnum)).2) else attrsT s (i + runN (s.drop i) alnum) := rfl
theorem tagN_lies {s : Bs} {i : Nat} (hi : i ≤ s.length) : Lies i (tagN s i).2 (tagN s i).1 ∧ (tagN s i).1 ≤ s.length ∧ (tagN s i).2.length ≤ (tagN s i).1 - i := by
  have hr := runN_le (s.drop i) alnum
  rw [List.length_drop] at hr
  have hl := attrsT_lies (s := s) _ (i + runN (s.drop i) alnum) (Nat.le_refl _) (by omega)
  have h0 := hl.1.le
  rw [tagN_eq]
  split
  · have hx := index_le (lowS (s.drop (attrsT s (i + runN (s.drop i) alnum)).1)) ([60, 47] ++ lowS ((s.drop i).take (runN (s.drop i) alnum)))
    rw [show (lowS (s.drop (attrsT s (i + runN (s.drop i) alnum)).1)).length = s.length - (attrsT s (i + runN (s.drop i) alnum)).1 from by simp [lowS]] at hx
    have h2 := hl.2.1
    have h3 := hl.2.2
    split
    · exact ⟨hl.1.wide (by omega) h2, Nat.le_refl _, by simp only; omega⟩
    · exact ⟨hl.1.wide (by omega) (by simp only; omega), by simp only; omega, by simp only; omega⟩
  · exact ⟨hl.1.wide (by omega) (Nat.le_refl _), hl.2.1, by have := hl.2.2; omega⟩
def linkN (s : Bs) (a : Nat) (c : UInt8) : Nat × List Lnk :=
  if Lib.hasPrefix (s.drop a) [33, 45, 45] then (skipN s [45, 45, 62] (a + 3), [])
  else if c = 47 ∨ c = 33 ∨ c = 63 then (skipN s [62] a, [])
  else if (alnum.take 52).contains c then tagN s a
  else (a, [])
theorem linksF_end {s : Bs} {f i : Nat} (h : s.drop (skipN s [60] i) = []) : linksF s (f + 1) i = [] := by
  unfold linksF
  simp only
  rw [h]
theorem linksF_go {s l : Bs} {f i : Nat} {c : UInt8} (h : s.drop (skipN s [60] i) = c :: l) : linksF s (f + 1) i = (linkN s (skipN s [60] i) c).2 ++ linksF s f (linkN s (skipN s [60] i) c).1 := by
  unfold linkN
  rw [h]
  conv => lhs; unfold linksF
  simp only
  rw [h]
  simp only
  split
  · rfl
  split
  · rfl
  split
  · rfl
  · rfl
theorem linkN_lies {s l : Bs} {a : Nat} {c : UInt8} (h : s.drop a = c :: l) : Lies a (linkN s a c).2 (linkN s a c).1 ∧ (linkN s a c).1 ≤ s.length ∧ (linkN s a c).2.length ≤ (linkN s a c).1 - a := by
  have hlen : a + (l.length + 1) = s.length := by
    have := congrArg List.length h
    rw [List.length_drop, List.length_cons] at this; omega
  unfold linkN
  split
  · rename_i hp
    have h3 : a + 3 ≤ s.length := by
      have := (List.isPrefixOf_iff_prefix.1 (by unfold Lib.hasPrefix at hp; exact hp)).length_le
      rw [List.length_drop] at this; simp at this; omega
    have := skipN_le s [45, 45, 62] (a + 3) h3
    exact ⟨by simp only [Lies]; omega, by simp only; omega, by simp⟩
  split
  · have := skipN_le s [62] a (by omega)
    exact ⟨by simp only [Lies]; omega, by simp only; omega, by simp⟩
  split
  · exact tagN_lies (by omega)
  · exact ⟨Nat.le_refl _, by simp only; omega, by simp⟩
theorem linksF_more {s : Bs} : ∀ f i, i ≤ s.length → s.length - i < f → linksF s f i = linksF s (s.length + 1) i := by
  have key : ∀ f g i, i ≤ s.length → s.length - i < f → s.length - i < g → linksF s f i = linksF s g i := by
    intro f
    induction f with
    | zero => intro g i _ h; omega
    | succ f ih =>
      intro g i hi hf hg
      cases g with
      | zero => omega
      | succ g =>
        have hs := skipN_le s [60] i hi
        cases hd : s.drop (skipN s [60] i) with
        | nil => rw [linksF_end hd, linksF_end hd]
        | cons c l =>
          have hlen : skipN s [60] i + (l.length + 1) = s.length := by
            have := congrArg List.length hd
            rw [List.length_drop, List.length_cons] at this; omega
          have hlt := skipN_lt s [60] i (by omega) (by simp)
          have hl := linkN_lies hd
          have := hl.1.le
          rw [linksF_go hd, linksF_go hd, ih g _ hl.2.1 (by omega) (by omega)]
  exact fun f i hi hf => key f _ i hi hf (by omega)
def linksA (s : Bs) (i : Nat) : List Lnk := linksF s (s.length + 1) i
theorem linksA_end {s : Bs} {i : Nat} (h : s.drop (skipN s [60] i) = []) : linksA s i = [] := linksF_end h
theorem linksA_go {s l : Bs} {i : Nat} {c : UInt8} (hi : i ≤ s.length) (h : s.drop (skipN s [60] i) = c :: l) : linksA s i = (linkN s (skipN s [60] i) c).2 ++ linksA s (linkN s (skipN s [60] i) c).1 := by
  have hs := skipN_le s [60] i hi
  have hlen : skipN s [60] i + (l.length + 1) = s.length := by
    have := congrArg List.length h
    rw [List.length_drop, List.length_cons] at this; omega
  have hlt := skipN_lt s [60] i (by omega) (by simp)
  have hl := linkN_lies h
  have := hl.1.le
  unfold linksA
  rw [linksF_go h, linksF_more s.length _ hl.2.1 (by omega)]
theorem linksA_lies {s : Bs} : ∀ n i, s.length - i ≤ n → i ≤ s.length → Lies i (linksA s i) s.length ∧ (linksA s i).length ≤ s.length - i
  | n, i, hn, hi => by
    have hs := skipN_le s [60] i hi
    cases hd : s.drop (skipN s [60] i) with
    | nil => rw [linksA_end hd]; exact ⟨hi, by simp⟩
    | cons c l =>
      have hlen : skipN s [60] i + (l.length + 1) = s.length := by
        have := congrArg List.length hd
        rw [List.length_drop, List.length_cons] at this; omega
      have hlt := skipN_lt s [60] i (by omega) (by simp)
      have hl := linkN_lies hd
      have h0 := hl.1.le
      rw [linksA_go hi hd]
      cases n with
      | zero => omega
      | succ n =>
        have ih := linksA_lies n (linkN s (skipN s [60] i) c).1 (by omega) hl.2.1
        have a1 := hl.2.2
        refine ⟨(hl.1.wide (by omega) (Nat.le_refl _)).append ih.1, ?_⟩
        rw [List.length_append]
        omega
theorem linksT_lies (s : Bs) : Lies 0 (linksT s) s.length ∧ (linksT s).length ≤ s.length := linksA_lies s.length 0 (by omega) (Nat.zero_le _)
end Go.Proofs.YtignjjnflcpiiaaGreatDoor
namespace Go.Proofs.YtignjjnflcpiiaaGreatDoor
open Go Go.RowKit
set_option maxHeartbeats 8000000 in
set_option maxRecDepth 100000 in
theorem tag_any (B b : Nat) (s : Bs) (i : Nat) (out : List Lnk) (w : World) (hg : Gr w) (hgB : 3 < B) (h : Sc B b s i out w) (hi : i ≤ s.length) (hs : s.length ≤ 1000000000) (hol : out.length ≤ i) :
    Calls Tryz.prog 101 #[.pointer (some ⟨b, 0, none⟩)] w fun e w' => e = .returned (.tuple #[]) ∧ Sc B b s (tagN s i).1 (out ++ (tagN s i).2) w' ∧ Below B w w' := by
  have hBb : B ≤ b := h.hB
  obtain ⟨n, hn⟩ : ∃ n, n = runN (s.drop i) alnum := ⟨_, rfl⟩
  have hrn := runN_le (s.drop i) alnum
  rw [← hn, List.length_drop] at hrn
  have HN := Lib.hid hn
  have HT := Lib.hid (tagN_eq s i)
  rw [← hn] at HT
  clear hn
  go_enter Tryz.func101, Tryz.ntmps101
  go_upto_region 0 with fail
  go_cut [2] (fun t wx => t = .int .i64 (n : Int) ∧ Sc B b s i out wx ∧ Below B w wx)
  case first =>
    have H' := Lib.hid h
    obtain ⟨v, hk, _, _⟩ := h
    have kcd := (Blk.drew hk).cell
    have hn : n = runN (s.drop i) [65, 66, 67, 68, 69, 70, 71, 72, 73, 74, 75, 76, 77, 78, 79, 80, 81, 82, 83, 84, 85, 86, 87, 88, 89, 90, 97, 98, 99, 100, 101, 102, 103, 104, 105, 106, 107, 108, 109, 110, 111, 112, 113, 114, 115, 116, 117, 118, 119, 120, 121, 122, 48, 49, 50, 51, 52, 53, 54, 55, 56, 57] := HN.out
    have hRun := fun W => run_any (s.drop i) [65, 66, 67, 68, 69, 70, 71, 72, 73, 74, 75, 76, 77, 78, 79, 80, 81, 82, 83, 84, 85, 86, 87, 88, 89, 90, 97, 98, 99, 100, 101, 102, 103, 104, 105, 106, 107, 108, 109, 110, 111, 112, 113, 114, 115, 116, 117, 118, 119, 120, 121, 122, 48, 49, 50, 51, 52, 53, 54, 55, 56, 57] W (by simp; omega) (by decide) (by decide)
    rw [← hn] at hRun
    clear hn
    have K0 := (Below.refl w.heap.size w).drew
    have i1 : (i : Int) ≤ s.length := by omega
    have i2 : (0 : Int) ≤ i := by omega
    go_region_held3 (fun W => (∀ k, W.cell? ⟨b, k, none⟩ = (#[.string ⟨s.toArray⟩, .int .i64 (i : Int), v])[k]?) ∧ Below w.heap.size w W)
      (first
        | with_reducible exact ⟨kcd, K0⟩
        | with_reducible exact ⟨(hk.next K hk.lt).cell, K⟩)
      ((first | (go_at_call 184; go_split_ands; with_reducible refine (hRun _).mono ?_; rintro e w10 ⟨rfl, hb⟩; have K := belowStep hb (w0 := w) (by assumption))))
    all_goals go_split_ands
    all_goals
      go_wp2_with fail
      go_meet
      exact ⟨rfl, H'.out.next (by assumption), Below.mono (B := w.heap.size) (by assumption) H'.out.base⟩
  case rest =>
  obtain ⟨rfl, H1, B1⟩ := hcut
  obtain ⟨w1, rfl⟩ : ∃ x : World, x = wc := ⟨_, rfl⟩
  clear h
  obtain ⟨nm, hnm⟩ : ∃ x, x = (s.drop i).take n := ⟨_, rfl⟩
  have hnl : nm.length ≤ 1000000000 := by rw [hnm]; simp; omega
  have HNM := Lib.hid hnm
  go_upto_region 1 with fail
  go_cut [3] (fun t wx => t = .string ⟨(lowS nm).toArray⟩ ∧ Sc B b s i out wx ∧ Below B w wx)
  case first =>
    have H' := Lib.hid H1
    obtain ⟨v, hk, _, _⟩ := H1
    have kcd := (Blk.drew hk).cell
    have hSm := fun W => small_any nm W (by omega)
    subst hnm
    have K0 := (Below.refl w1.heap.size w1).drew
    have z2 : IntKind.i64.wrap ((i : Int) + (n : Int)) = (i : Int) + (n : Int) := IntWalk.i64_in _ (by omega)
    have z3 : ((i : Int) + (n : Int)).toNat = i + n := by omega
    have z4 : (0 : Int) ≤ i := by omega
    have z5 : (i : Int) ≤ (i : Int) + (n : Int) := by omega
    have z6 : (i : Int) + (n : Int) ≤ (s.length : Int) := by omega
    have z7 : i + n - i = n := by omega
    go_region_held3 (fun W => (∀ k, W.cell? ⟨b, k, none⟩ = (#[.string ⟨s.toArray⟩, .int .i64 (i : Int), v])[k]?) ∧ Below w1.heap.size w1 W)
      (first
        | with_reducible exact ⟨kcd, K0⟩
        | with_reducible exact ⟨(hk.next K hk.lt).cell, K⟩)
      ((first | (go_at_call 42; go_split_ands; with_reducible refine (hSm _).mono ?_; rintro e w10 ⟨rfl, hb⟩; have K := belowStep hb (w0 := w1) (by assumption))))
    all_goals go_split_ands
    all_goals
      go_wp2_with fail
      go_meet
      exact ⟨rfl, H'.out.next (by assumption), B1.trans (Below.mono (B := w1.heap.size) (by assumption) H'.out.base)⟩
  case rest =>
  obtain ⟨rfl, H2, B2⟩ := hcut
  obtain ⟨w2, rfl⟩ : ∃ x : World, x = wc := ⟨_, rfl⟩
  clear H1 B1 hnm
  go_upto_region 2 with fail
  go_cut [] (fun wx => Sc B b s (i + n) out wx ∧ Below B w wx)
  case first =>
    have H' := Lib.hid H2
    obtain ⟨v, hk, _, _⟩ := H2
    have kc := hk.cell
    have kf := hk.free
    have HV := Lib.hid (show (i : Int) + (n : Int) = ((i + n : Nat) : Int) from by omega)
    have z2 : IntKind.i64.wrap ((i : Int) + (n : Int)) = (i : Int) + (n : Int) := IntWalk.i64_in _ (by omega)
    go_wp2_with fail
    go_meet
    exact ⟨by rw [HV.out]; exact H'.out.at (i + n), B2.setCell hBb _⟩
  case rest =>
  obtain ⟨H3, B3⟩ := hcut
  obtain ⟨w3, rfl⟩ : ∃ x : World, x = wc := ⟨_, rfl⟩
  clear H2 B2
  have hinl : i + n ≤ s.length := by omega
  have hoi : out.length ≤ i + n := by omega
  generalize i + n = i1 at H3 HT hinl hoi
  go_wp2_with fail
  go_loopg [] s.length (fun g wr => ∃ (j : Nat) (L : List Lnk), s.length - j ≤ g ∧ j ≤ s.length ∧ (out ++ L).length ≤ j ∧ Sc B b s j (out ++ L) wr ∧ Hid (attrsT s i1 = ((attrsT s j).1, L ++ (attrsT s j).2)) ∧ Below B w wr)
  case atStart => exact ⟨i1, [], by omega, hinl, by simp; omega, by rw [List.append_nil]; exact H3, Lib.hid rfl, B3⟩
  case round =>
    obtain ⟨j, L, hm, hj, hoj, HS, HA, BS⟩ := hrel
    clear H3 B3
    have hC := attr_any B b s j (out ++ L) wr (hg.below hgB BS) hgB HS hj hs (by omega)
    have hl := attrN_lies hj
    go_wp2_with fail
    refine hC.mono ?_
    rintro e w4 ⟨rfl, H4, b4⟩
    clear hC
    have B4 := BS.trans b4
    clear BS HS b4
    cases hb : (attrN s j).1 with
    | true =>
      have hlt := hl.2.2.2 hb
      have hgo := attrsT_go hj hb
      have hle := hl.2.1
      have h1 := hl.2.2.1
      have HA2 := Lib.hid (show attrsT s i1 = ((attrsT s (attrN s j).2.1).1, (L ++ (attrN s j).2.2) ++ (attrsT s (attrN s j).2.1).2) from by rw [HA.out, hgo, List.append_assoc])
      clear hgo HA hl hb
      rw [List.append_assoc] at H4
      generalize attrN s j = r at *
      go_wp2_with fail
      go_roundg (s.length - r.2.1)
      case measure => omega
      case rel => exact ⟨r.2.1, L ++ r.2.2, Nat.le_refl _, hle, by rw [← List.append_assoc, List.length_append]; omega, H4, HA2, B4⟩
    | false =>
      have hen := attrsT_end hb
      have HA2 := Lib.hid (show attrsT s i1 = ((attrN s j).2.1, L ++ (attrN s j).2.2) from by rw [HA.out, hen])
      have hle := hl.2.1
      clear hen HA hl hb
      rw [List.append_assoc] at H4
      generalize attrN s j = r at *
      obtain ⟨_, J, l⟩ := r
      simp only at H4 HA2 hle
      generalize L ++ l = M at H4 HA2
      rw [HA2.out] at HT
      clear HA2 hoj hm hj
      rw [← HNM.out] at HT
      go_wp2_with fail
      refine (raws_any _).mono ?_
      rintro e w5 ⟨rfl, b5⟩
      have H6 := (H4.next b5).next ((Below.refl w5.heap.size w5).alloc (Nat.le_refl _) (.cells #[.string ⟨#[115, 99, 114, 105, 112, 116]⟩, .string ⟨#[115, 116, 121, 108, 101]⟩, .string ⟨#[116, 101, 120, 116, 97, 114, 101, 97]⟩, .string ⟨#[116, 105, 116, 108, 101]⟩] 246))
      have B6 := (B4.trans (b5.mono H4.base)).alloc (Nat.le_trans H4.base b5.size) (.cells #[.string ⟨#[115, 99, 114, 105, 112, 116]⟩, .string ⟨#[115, 116, 121, 108, 101]⟩, .string ⟨#[116, 101, 120, 116, 97, 114, 101, 97]⟩, .string ⟨#[116, 105, 116, 108, 101]⟩] 246)
      have hCL := containsL w5.heap.size 4 4 rawsT (lowS nm) (w5.alloc (.cells #[.string ⟨#[115, 99, 114, 105, 112, 116]⟩, .string ⟨#[115, 116, 121, 108, 101]⟩, .string ⟨#[116, 101, 120, 116, 97, 114, 101, 97]⟩, .string ⟨#[116, 105, 116, 108, 101]⟩] 246)) rfl (fun k hk => by
        rw [(Blk.new w5 _ _).cell]
        match k, hk with
        | 0, _ => rfl
        | 1, _ => rfl
        | 2, _ => rfl
        | 3, _ => rfl) (by decide)
      clear b5 H4 B4
      go_wp2_with fail
      refine hCL.mono ?_
      rintro e w' ⟨rfl, rfl⟩
      clear hCL
      generalize (w5.alloc (.cells #[.string ⟨#[115, 99, 114, 105, 112, 116]⟩, .string ⟨#[115, 116, 121, 108, 101]⟩, .string ⟨#[116, 101, 120, 116, 97, 114, 101, 97]⟩, .string ⟨#[116, 105, 116, 108, 101]⟩] 246)) = w6 at H6 B6 ⊢
      generalize rawsT.contains (lowS nm) = isR at HT ⊢
      cases isR with
      | false =>
        have HT2 := Lib.hid (show tagN s i = (J, M) from by rw [HT.out]; rfl)
        clear HT
        go_wp2_with fail
        go_end0
        exact ⟨rfl, by rw [HT2.out]; exact H6, B6⟩
      | true =>
        obtain ⟨kz, hkz⟩ : ∃ x, x = Lib.index (lowS (s.drop J)) ([60, 47] ++ lowS nm) := ⟨_, rfl⟩
        have HT2 := Lib.hid (show tagN s i = (if kz < 0 then s.length else J + kz.toNat, M) from by rw [HT.out, hkz]; rfl)
        have hk2 : kz < 0 ∨ (0 ≤ kz ∧ kz.toNat + J ≤ s.length) := by
          have := index_le (lowS (s.drop J)) ([60, 47] ++ lowS nm)
          rw [← hkz] at this
          simp [lowS] at this
          omega
        have HKZ := Lib.hid hkz
        clear HT hkz
        have hlnl : (lowS nm).length ≤ 1000000000 := by simp [lowS]; omega
        generalize lowS nm = ln at HKZ hlnl ⊢
        have hg6 := hg.below hgB B6
        have hsz6 := H6.base
        go_upto_region 6 with fail
        go_cut [5] (fun t wx => t = .int .i64 kz ∧ Sc B b s J (out ++ M) wx ∧ Below B w wx)
        case first =>
          have H' := Lib.hid H6
          obtain ⟨v, hk, _, _⟩ := H6
          have kcd := (Blk.drew hk).cell
          have hSm := fun W => small_any (s.drop J) W (by simp; omega)
          have hIx := fun W (h : Gr W) => idxStr' (lowS (s.drop J)) (60 :: 47 :: ln) W (by simp [lowS]; omega) h.g
          have hkz : kz = Lib.index (lowS (s.drop J)) (60 :: 47 :: ln) := HKZ.out
          rw [← hkz] at hIx
          clear hkz HKZ HT2
          have g1 : ¬ 9223372036854775807 < ln.length + 2 := by omega
          have g2 : ¬ 9223372036854775807 < ln.length + 1 + 1 := by omega
          have g3 : ¬ 9223372036854775807 < 2 + ln.length := by omega
          have K0 := (Below.refl w6.heap.size w6).drew
          have i1 : (J : Int) ≤ s.length := by omega
          have i2 : (0 : Int) ≤ J := by omega
          go_region_held3 (fun W => (∀ k, W.cell? ⟨b, k, none⟩ = (#[.string ⟨s.toArray⟩, .int .i64 (J : Int), v])[k]?) ∧ Below w6.heap.size w6 W)
            (first
              | with_reducible exact ⟨kcd, K0⟩
              | with_reducible exact ⟨(hk.next K hk.lt).cell, K⟩
              | with_reducible assumption)
            ((first
              | (go_at_call 42; go_split_ands; with_reducible refine (hSm _).mono ?_; rintro e w10 ⟨rfl, hb⟩; have K := belowStep hb (w0 := w6) (by assumption))
              | (go_at_call 66; go_split_ands; with_reducible refine (hIx _ (hg6.next (by assumption))).mono ?_; rintro e w10 ⟨rfl, hw⟩; obtain rfl := hw.symm)))
          all_goals go_split_ands
          all_goals
            go_wp2_with fail
            go_meet
            exact ⟨rfl, H'.out.next (by assumption), B6.trans (Below.mono (B := w6.heap.size) (by assumption) H'.out.base)⟩
        case rest =>
        obtain ⟨rfl, H7, B7⟩ := hcut
        obtain ⟨w7, rfl⟩ : ∃ x : World, x = wc := ⟨_, rfl⟩
        clear H6 B6 hg6 HKZ
        by_cases hz : kz < 0
        · have HT3 := Lib.hid (show tagN s i = (s.length, M) from by rw [HT2.out, if_pos hz])
          clear HT2
          have H' := Lib.hid H7
          obtain ⟨v, hk, _, _⟩ := H7
          have kc := hk.cell
          go_wp2_with fail
          go_quiet (fail)
          have hB := Go.below_drewN (Below.refl w7.heap.size w7) nq
          have hk8 := hk.next hB hk.lt
          have H8 := Lib.hid (H'.out.next hB)
          have B8 := B7.trans (hB.mono H'.out.base)
          generalize w7.drewN nq = w8 at hB hk8 H8 B8 ⊢
          clear kc hk hB
          have kc := hk8.cell
          have kf := hk8.free
          have HV := Lib.hid (show (J : Int) + ((s.length : Int) - (J : Int)) = ((s.length : Nat) : Int) from by omega)
          go_wp2_with fail
          go_end0
          exact ⟨rfl, by rw [HT3.out]; first | (rw [HV.out]; exact H8.out.at s.length) | exact H8.out.at s.length, B8.setCell hBb _⟩
        · obtain ⟨n2, rfl⟩ : ∃ n2 : Nat, kz = (n2 : Int) := ⟨kz.toNat, by omega⟩
          have HT3 := Lib.hid (show tagN s i = (J + n2, M) from by rw [HT2.out, if_neg hz]; rfl)
          have hn2 : n2 + J ≤ s.length := by omega
          clear HT2 hk2 hz
          have H' := Lib.hid H7
          obtain ⟨v, hk, _, _⟩ := H7
          have kc := hk.cell
          have kf := hk.free
          have HV := Lib.hid (show (J : Int) + (n2 : Int) = ((J + n2 : Nat) : Int) from by omega)
          go_wp2_with fail
          go_end0
          exact ⟨rfl, by rw [HT3.out, HV.out]; exact H'.out.at (J + n2), B7.setCell hBb _⟩
theorem linkN_com {s : Bs} {a : Nat} {c : UInt8} (h : Lib.hasPrefix (s.drop a) [33, 45, 45] = true) : linkN s a c = (skipN s [45, 45, 62] (a + 3), []) := by
  unfold linkN; rw [if_pos h]
theorem linkN_end {s : Bs} {a : Nat} {c : UInt8} (h : Lib.hasPrefix (s.drop a) [33, 45, 45] = false) (h2 : c = 47 ∨ c = 33 ∨ c = 63) : linkN s a c = (skipN s [62] a, []) := by
  unfold linkN; rw [h, if_neg (by decide), if_pos h2]
theorem linkN_tag {s : Bs} {a : Nat} {c : UInt8} (h : Lib.hasPrefix (s.drop a) [33, 45, 45] = false) (h2 : ¬ (c = 47 ∨ c = 33 ∨ c = 63)) (h3 : (alnum.take 52).contains c = true) : linkN s a c = tagN s a := by
  unfold linkN; rw [h, if_neg (by decide), if_neg h2, if_pos h3]
theorem linkN_no {s : Bs} {a : Nat} {c : UInt8} (h : Lib.hasPrefix (s.drop a) [33, 45, 45] = false) (h2 : ¬ (c = 47 ∨ c = 33 ∨ c = 63)) (h3 : (alnum.take 52).contains c = false) : linkN s a c = (a, []) := by
  unfold linkN; rw [h, if_neg (by decide), if_neg h2, h3]; rfl
def endB (c : UInt8) : Bool := c == 47 || c == 33 || c == 63
theorem endB_iff (c : UInt8) : endB c = true ↔ (c = 47 ∨ c = 33 ∨ c = 63) := by simp [endB, or_assoc]
theorem endB_int (c : UInt8) : endB c = ((((c.toNat : Int) == 47) || ((c.toNat : Int) == 33)) || ((c.toNat : Int) == 63)) := by
  have h : ∀ d : UInt8, (c == d) = ((c.toNat : Int) == (d.toNat : Int)) := fun d => by
    by_cases e : c = d
    · subst e; simp
    · rw [beq_eq_false_iff_ne.2 e, u8_ne e]
  unfold endB
  rw [h 47, h 33, h 63]; rfl
theorem idxB_ge (l : Bs) (c : UInt8) : decide (0 ≤ Lib.indexByte l c) = l.contains c := by
  have hge := Lib.indexByte_ge l c
  by_cases h : 0 ≤ Lib.indexByte l c
  · obtain ⟨o, ho⟩ : ∃ o : Nat, Lib.indexByte l c = o := ⟨(Lib.indexByte l c).toNat, by omega⟩
    rw [decide_eq_true h]
    exact (List.contains_iff_mem.2 (List.mem_of_getElem? (Lib.indexByte_some ho).1)).symm
  · rw [decide_eq_false h]
    refine (Bool.eq_false_iff.2 fun hc => ?_).symm
    obtain ⟨k, hk⟩ := List.getElem?_of_mem (List.contains_iff_mem.1 hc)
    exact Lib.indexByte_none (by omega) k hk
set_option maxHeartbeats 8000000 in
set_option maxRecDepth 100000 in
theorem links_any (s : Bs) (w : World) (hg : Gr w) (hs : s.length ≤ 1000000000) :
    Calls Tryz.prog 43 #[.string ⟨s.toArray⟩] w fun e w' => ∃ v, e = .returned v ∧ OwnL w' w.heap.size v (linksT s) ∧ Below w.heap.size w w' := by
  have hgB := hg.size
  have H0 : Sc w.heap.size w.heap.size s 0 [] (w.alloc (.cells #[.string ⟨s.toArray⟩, .int .i64 0, .slice none 0 0] 165)) := ⟨.slice none 0 0, Blk.new w _ _, OwnG.nil _ _ _ _ _, Nat.le_refl _⟩
  have B0 : Below w.heap.size w (w.alloc (.cells #[.string ⟨s.toArray⟩, .int .i64 0, .slice none 0 0] 165)) := (Below.refl _ _).alloc (Nat.le_refl _) _
  have HL := Lib.hid (show linksT s = linksA s 0 from rfl)
  go_enter Tryz.func43, Tryz.ntmps43
  go_wp2_with fail
  generalize (w.alloc (.cells #[.string ⟨s.toArray⟩, .int .i64 0, .slice none 0 0] 165)) = w0 at H0 B0 ⊢
  go_loopg [] s.length (fun g wr => ∃ (j : Nat) (L : List Lnk), s.length - j ≤ g ∧ j ≤ s.length ∧ L.length ≤ j ∧ Sc w.heap.size w.heap.size s j L wr ∧ Hid (linksT s = L ++ linksA s j) ∧ Below w.heap.size w wr)
  case atStart => exact ⟨0, [], by omega, Nat.zero_le _, Nat.le_refl _, H0, HL, B0⟩
  case round =>
    obtain ⟨j, L, hm, hj, hoj, HS, HA, BS⟩ := hrel
    clear H0 B0 HL
    obtain ⟨a, ha⟩ : ∃ a, a = skipN s [60] j := ⟨_, rfl⟩
    have hsk := skipN_le s [60] j hj
    have hC := skips_any w.heap.size w.heap.size s [60] j L wr (hg.below hgB BS) HS hj hs (by decide)
    rw [← ha] at hsk hC
    have HAA := Lib.hid ha
    clear ha
    go_wp2_with fail
    with_reducible refine hC.mono ?_
    rintro e w1 ⟨rfl, H1, b1⟩
    have B1 := BS.trans b1
    clear hC b1 HS BS
    go_upto_region 3 with fail
    go_cut [4] (fun t wx => t = .string ⟨(s.drop a).toArray⟩ ∧ Sc w.heap.size w.heap.size s a L wx ∧ Below w.heap.size w wx)
    case first =>
      have H' := Lib.hid H1
      obtain ⟨v, hk, _, _⟩ := H1
      have kc := hk.cell
      have i1 : (a : Int) ≤ s.length := by omega
      have i2 : (0 : Int) ≤ a := by omega
      go_wp2_with fail
      go_quiet (fail)
      have hB := Go.below_drewN (Below.refl w1.heap.size w1) nq
      generalize w1.drewN nq = w2 at hB ⊢
      clear kc
      go_wp2_with fail
      go_meet
      exact ⟨rfl, H'.out.next hB, B1.trans (hB.mono H'.out.base)⟩
    case rest =>
    obtain ⟨rfl, H2, B2⟩ := hcut
    obtain ⟨w2, rfl⟩ : ∃ x : World, x = wc := ⟨_, rfl⟩
    clear H1 B1
    cases hd : s.drop a with
    | nil =>
      have HE := Lib.hid (show linksT s = L from by rw [HA.out, linksA_end (by rw [← HAA.out]; exact hd), List.append_nil])
      obtain ⟨v, hk, hown, _⟩ := H2
      have kc := hk.cell
      go_wp2_with fail
      go_ret
      exact ⟨v, rfl, by rw [HE.out]; exact hown, B2⟩
    | cons c l =>
      have hlen : a + (l.length + 1) = s.length := by
        have := congrArg List.length hd
        rw [List.length_drop, List.length_cons] at this; omega
      have hlt := skipN_lt s [60] j (by omega) (by simp)
      have hgo := linksA_go hj (by rw [← HAA.out]; exact hd)
      rw [← HAA.out] at hlt hgo
      have hl := linkN_lies hd
      have HA2 := Lib.hid (show linksT s = (L ++ (linkN s a c).2) ++ linksA s (linkN s a c).1 from by rw [HA.out, hgo, List.append_assoc])
      clear hgo HA HAA
      have hlle := hl.1.le
      have hcom : Lib.hasPrefix (c :: l) [33, 45, 45] = Lib.hasPrefix (s.drop a) [33, 45, 45] := by rw [hd]
      have hc256 : (c.toNat : Int) < 256 := by have := c.toNat_lt; omega
      clear hd
      go_wp2_with fail
      refine (hasPre (c :: l) [33, 45, 45] _).mono ?_
      rintro e w' ⟨rfl, rfl⟩
      rw [hcom]
      cases hcm : Lib.hasPrefix (s.drop a) [33, 45, 45] with
      | true =>
        have hN := linkN_com (c := c) hcm
        rw [hN] at hl hlle HA2
        simp only [List.append_nil] at HA2
        have ha3 : a + 3 ≤ s.length := by
          have := (List.isPrefixOf_iff_prefix.1 (by unfold Lib.hasPrefix at hcm; exact hcm)).length_le
          rw [List.length_drop] at this; simp at this; omega
        clear hcm hcom hN
        have H3 : Sc w.heap.size w.heap.size s (a + 3) L (w2.setCell ⟨w.heap.size, 1, none⟩ (.int .i64 ((a : Int) + 3))) := H2.at (a + 3)
        have B3 := B2.setCell (Nat.le_refl _) (p := ⟨w.heap.size, 1, none⟩) (.int .i64 ((a : Int) + 3))
        have hC2 := skips_any w.heap.size w.heap.size s [45, 45, 62] (a + 3) L _ (hg.below hgB B3) H3 ha3 hs (by decide)
        obtain ⟨v, hk, _, _⟩ := H2
        have kc := hk.cell
        have kf := hk.free
        go_wp2_with fail
        with_reducible refine hC2.mono ?_
        rintro e w4 ⟨rfl, H4, b4⟩
        have B4 := B3.trans b4
        clear hC2 H3 B3 b4 kc kf hk B2
        go_wp2_with fail
        go_roundg (s.length - skipN s [45, 45, 62] (a + 3))
        case measure => omega
        case rel => exact ⟨skipN s [45, 45, 62] (a + 3), L, Nat.le_refl _, hl.2.1, by omega, H4, HA2, B4⟩
      | false =>
        clear hcom
        have HEI := Lib.hid (endB_int c)
        go_upto_region 9 with fail
        go_cut [38] (fun t wx => t = .bool (endB c) ∧ wx = w2)
        case first =>
          by_cases h1 : ((c.toNat : Int) == 47) = true
          · go_wp2_with fail
            go_meet
            exact ⟨by rw [HEI.out, h1]; rfl, rfl⟩
          have h1 := Bool.eq_false_iff.2 h1
          by_cases h2 : ((c.toNat : Int) == 33) = true
          · go_wp2_with fail
            go_meet
            exact ⟨by rw [HEI.out, h1, h2]; rfl, rfl⟩
          have h2 := Bool.eq_false_iff.2 h2
          by_cases h3 : ((c.toNat : Int) == 63) = true
          · go_wp2_with fail
            go_meet
            exact ⟨by rw [HEI.out, h1, h2, h3]; rfl, rfl⟩
          have h3 := Bool.eq_false_iff.2 h3
          go_wp2_with fail
          go_meet
          exact ⟨by rw [HEI.out, h1, h2, h3]; rfl, rfl⟩
        case rest =>
        obtain ⟨rfl, hww⟩ := hcut
        obtain rfl := hww.symm
        clear HEI
        have HEB := Lib.hid (endB_iff c)
        cases heb : endB c with
        | true =>
          have hN := linkN_end hcm (HEB.out.1 heb)
          rw [hN] at hl hlle HA2
          simp only [List.append_nil] at HA2
          clear hcm hN heb HEB
          have hC2 := skips_any w.heap.size w.heap.size s [62] a L _ (hg.below hgB B2) H2 (by omega) hs (by decide)
          go_wp2_with fail
          with_reducible refine hC2.mono ?_
          rintro e w4 ⟨rfl, H4, b4⟩
          have B4 := B2.trans b4
          clear hC2 H2 B2 b4
          go_wp2_with fail
          go_roundg (s.length - skipN s [62] a)
          case measure => omega
          case rel => exact ⟨skipN s [62] a, L, Nat.le_refl _, hl.2.1, by omega, H4, HA2, B4⟩
        | false =>
          have hne : ¬ (c = 47 ∨ c = 33 ∨ c = 63) := fun h => by rw [HEB.out.2 h] at heb; cases heb
          clear heb HEB
          go_upto_region 11 with fail
          go_cut [54] (fun t wx => t = .bool ((alnum.take 52).contains c) ∧ Below w2.heap.size w2 wx)
          case first =>
            have HIB := Lib.hid (idxB_ge (alnum.take 52) c)
            go_wp2_with fail
            go_quiet ((go_at_call 100; exact Calls.quiet_of_same (idxByte0 [65, 66, 67, 68, 69, 70, 71, 72, 73, 74, 75, 76, 77, 78, 79, 80, 81, 82, 83, 84, 85, 86, 87, 88, 89, 90, 97, 98, 99, 100, 101, 102, 103, 104, 105, 106, 107, 108, 109, 110, 111, 112, 113, 114, 115, 116, 117, 118, 119, 120, 121, 122] (c.toNat : Int) c (u8_nat c) _)))
            go_wp2_with fail
            go_meet
            exact ⟨by rw [← HIB.out]; rfl, Go.below_drewN (Below.refl _ _) _⟩
          case rest =>
          obtain ⟨rfl, b3⟩ := hcut
          obtain ⟨w3, rfl⟩ : ∃ x : World, x = wc := ⟨_, rfl⟩
          have H3 := H2.next b3
          have B3 := B2.trans (b3.mono H2.base)
          clear H2 B2 b3
          cases hct : (alnum.take 52).contains c with
          | true =>
            have hN := linkN_tag hcm hne hct
            rw [hN] at hl hlle HA2
            clear hcm hne hct hN
            have hC2 := tag_any w.heap.size w.heap.size s a L _ (hg.below hgB B3) hgB H3 (by omega) hs (by omega)
            go_wp2_with fail
            with_reducible refine hC2.mono ?_
            rintro e w4 ⟨rfl, H4, b4⟩
            have B4 := B3.trans b4
            clear hC2 H3 B3 b4
            go_wp2_with fail
            go_roundg (s.length - (tagN s a).1)
            case measure => omega
            case rel => exact ⟨(tagN s a).1, L ++ (tagN s a).2, Nat.le_refl _, hl.2.1, by have := hl.2.2; rw [List.length_append]; omega, H4, HA2, B4⟩
          | false =>
            have hN := linkN_no hcm hne hct
            rw [hN] at hl hlle HA2
            simp only [List.append_nil] at HA2
            clear hcm hne hct hN
            go_wp2_with fail
            go_roundg (s.length - a)
            case measure => omega
            case rel => exact ⟨a, L, Nat.le_refl _, hl.2.1, by omega, H3, HA2, B3⟩
theorem escT_len (s : Bs) : (escT s).length ≤ 6 * s.length := by
  unfold escT
  induction s with
  | nil => exact Nat.le_refl _
  | cons c s ih =>
    rw [rep_cons, List.length_append, List.length_cons]
    have h : ((look sigP c).getD [c]).length ≤ 6 := by
      unfold look
      cases hf : sigP.find? fun p => p.1 == c with
      | none => simp
      | some p =>
        have hm := List.mem_of_find?_eq_some hf
        simp only [Option.map_some, Option.getD_some]
        simp [sigP] at hm
        rcases hm with rfl | rfl | rfl | rfl | rfl <;> decide
    omega
def quoT (c : UInt8) (v : Bs) : Bs := if quoB c then escT v else 34 :: (escT v ++ [34])
theorem quoT_len (c : UInt8) (v : Bs) : (quoT c v).length ≤ 6 * v.length + 2 := by
  have := escT_len v
  unfold quoT
  split <;> simp <;> omega
def befB (s : Bs) (x : Lnk) : UInt8 := s.getD (x.1 - 1) 0
def replF (s : Bs) : List (Lnk × Bs) → Nat → Bs
  | [], i => s.drop i
  | x :: l, i => (s.drop i).take (x.1.1 - i) ++ (quoT (befB s x.1) x.2 ++ replF s l (x.1.1 + x.1.2.1))
def replK (s : Bs) (vals : List Bs) : Option Bs := if (linksT s).length = vals.length then some (replF s ((linksT s).zip vals) 0) else none
theorem Lies.pos : ∀ {l : List Lnk} {i j : Nat}, 1 ≤ i → Lies i l j → ∀ x ∈ l, 1 ≤ x.1
  | [], _, _, _, _, x, hx => by cases hx
  | y :: l, i, j, hi, h, x, hx => by
    rcases List.mem_cons.1 hx with rfl | hx
    · have := h.1; omega
    · exact Lies.pos (l := l) (by have := h.1; omega) h.2 x hx
theorem linksT_pos (s : Bs) : ∀ x ∈ linksT s, 1 ≤ x.1 := by
  show ∀ x ∈ linksA s 0, 1 ≤ x.1
  cases hd : s.drop (skipN s [60] 0) with
  | nil => rw [linksA_end hd]; intro x hx; cases hx
  | cons c l =>
    have hlen : skipN s [60] 0 + (l.length + 1) = s.length := by
      have := congrArg List.length hd
      rw [List.length_drop, List.length_cons] at this; omega
    have hlt := skipN_lt s [60] 0 (by omega) (by simp)
    have hl := linkN_lies hd
    have h0 := hl.1.le
    rw [linksA_go (Nat.zero_le _) hd]
    exact Lies.pos hlt (hl.1.append (linksA_lies _ _ (Nat.le_refl _) hl.2.1).1)
theorem Lies.at : ∀ {l : List Lnk} {i j : Nat} (k : Nat) (hk : k < l.length), Lies i l j → Lies i (l.take k) (l[k]).1 ∧ Lies ((l[k]).1 + (l[k]).2.1) (l.drop (k + 1)) j
  | y :: l, i, j, 0, _, h => ⟨h.1, h.2⟩
  | y :: l, i, j, k + 1, hk, h => by
    have ih := Lies.at (l := l) k (by simpa using hk) h.2
    exact ⟨⟨h.1, ih.1⟩, ih.2⟩
theorem replF_at (s : Bs) (l : List (Lnk × Bs)) (k i : Nat) (hk : k < l.length) : replF s (l.drop k) i = (s.drop i).take ((l[k]).1.1 - i) ++ (quoT (befB s (l[k]).1) (l[k]).2 ++ replF s (l.drop (k + 1)) ((l[k]).1.1 + (l[k]).1.2.1)) := by
  rw [List.drop_eq_getElem_cons hk]; rfl
end Go.Proofs.YtignjjnflcpiiaaGreatDoor
